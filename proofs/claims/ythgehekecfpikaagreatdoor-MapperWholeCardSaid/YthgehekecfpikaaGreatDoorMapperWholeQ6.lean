/- MapperWhole: texts A2, A5, G1, joined by a program of ours; what nothing names is left out. -/
import Derived.Test.YthgehekecfpikaaGreatDoorMapperWholeQ5
import Derived.Test.YthgehekecfpikaaGreatDoorRows
import Derived.LaidSub
import Derived.Lib.LaidTab
import Derived.Stop.LaidErr
set_option linter.unusedVariables false
set_option linter.unusedSimpArgs false
namespace Go.Proofs.YthgehekecfpikaaGreatDoor.X
open Go
set_option maxHeartbeats 4000000 in
theorem awake19_ok  :
    Cn Tryz.prog 26 [] [] [gl] (fun v Bs => v = .bool true ∧ Bs = []) := by
 intro w0 F0 H
 refine enter Tryz.func26 rfl rfl (Nat.le_of_ble_eq_true rfl) (c_seq (c_reg (s_1 rfl (s_nil (q_then (c_seq (c_reg (sc (smallW19_ok) H l0 rfl rfl (e_fn kn93 rfl rfl) ?_))))))))
 rintro _ _ w ⟨vS1, vP2, u3, rfl, rfl⟩ H
 have hgo2 := small19_go2 u3
 have hC2 := small19_may u3
 have hO2 := small19_ok u3
 replace H : Hd _ _ _ [osl (kHd kPair) vS1 [(u3, twoR)], osl kIns vP2 firstP] [gl] := H
 refine sc (mapNew_ok vS1 vP2 (.slice none 0 0) vP2 (.slice none 0 0) (small19 u3) 0 2 (by first | assumption | omega) (by first | assumption | omega) (by first | assumption | omega)) H (lA 0 rfl own_rd (lA 1 rfl own_rd (lX (fun F _ _ => rsl_nil _ _ F trivial (by decide)) (lA 1 rfl own_rd (lX (fun F _ _ => rsl_nil _ _ F trivial (by decide)) (lR 0 rfl l0)))))) rfl rfl (e_fn kn27 rfl rfl) ?_
 rintro _ _ w ⟨b4, rfl, rfl⟩ H
 replace H := H.h1 (A := mprI b4 ((small19 u3).J) (newMpr dg (small19 u3).J 0 2))
 obtain ⟨M2, hM2⟩ : ∃ z : Mpr, z = newMpr dg (small19 u3).J 0 2 := ⟨_, rfl⟩
 rw [← hM2] at H
 replace H : Hd _ _ _ [mprI b4 ((small19 u3).J) M2, osl (kHd kPair) vS1 [(u3, twoR)], osl kIns vP2 firstP] [gl] := H
 obtain ⟨hok2, hc2, hp2, hk2, hd2⟩ := s19_a2 hM2
 have hok3 := okMp_ack hok2 (p := 0) (ep := 1) (n := 2) (by unfold In64; omega)
 refine s_k 5 rfl (s_nil (q_then ?_))
 replace H := H.k1
 refine c_seq (c_reg (sc (smallW19_ok) H l0 rfl rfl (e_fn kn93 rfl rfl) ?_))
 rintro _ _ w ⟨vS5, vP6, u7, rfl, rfl⟩ H
 replace H := H.h2 (A := osl (kHd kPair) vS5 [(u7, twoR)]) (B := osl kIns vP6 firstP)
 have hgo1 := small19_go1 u7
 have hC1 := small19_may u7
 have hO1 := small19_ok u7
 refine sc (mapNew_ok vS5 vP6 (.slice none 0 0) vP6 (.slice none 0 0) (small19 u7) 0 1 (by first | assumption | omega) (by first | assumption | omega) (by first | assumption | omega)) H (lA 0 rfl own_rd (lA 1 rfl own_rd (lX (fun F _ _ => rsl_nil _ _ F trivial (by decide)) (lA 1 rfl own_rd (lX (fun F _ _ => rsl_nil _ _ F trivial (by decide)) (lR 0 rfl l0)))))) rfl rfl (e_fn kn27 rfl rfl) ?_
 rintro _ _ w ⟨b8, rfl, rfl⟩ H
 replace H := H.h1 (A := mprI b8 ((small19 u7).J) (newMpr dg (small19 u7).J 0 1))
 obtain ⟨M1, hM1⟩ : ∃ z : Mpr, z = newMpr dg (small19 u7).J 0 1 := ⟨_, rfl⟩
 rw [← hM1] at H
 replace H : Hd _ _ _ [mprI b8 ((small19 u7).J) M1, osl (kHd kPair) vS5 [(u7, twoR)], osl kIns vP6 firstP, mprI b4 ((small19 u3).J) M2] [gl] := H
 obtain ⟨hok1, hc1, hd1⟩ := s19_a1 hM1
 refine s_k 5 rfl (s_nil (q_then ?_))
 replace H := H.p3.p1.k2
 refine c_seq (c_seq (c_reg (s_1 rfl (s_val rfl rfl (r_ne rfl rfl rfl) (s_k 2 rfl (s_val rfl rfl (r_ne rfl rfl rfl) (s_k 3 rfl (s_val rfl rfl (r_peq rfl un44 rfl rfl) (s_k 3 rfl (s_val rfl rfl (r_peq rfl un44 rfl rfl) (s_1 rfl (s_nil (q_then (c_no rfl (c_skip (q_then (c_seq (c_reg (s_1 rfl ?_)))))))))))))))))))
 replace H := H.p1
 refine sc (oCounts_ok b4 ((small19 u3).J) M2 (by first | assumption | omega)) H l0 rfl rfl (e_fn kn30 rfl rfl) ?_
 rintro v9 _ w rfl H
 refine s_bsl (parts := [(0, .const (.int .i64 2))]) (vs := [.int .i64 2]) (cs := [.int .i64 2]) rfl rfl rfl sl24 zr3 rfl (by decide) (by decide) rfl rfl H (fun b10 w H => (sc (sameInts_ok v9 (.slice (some ⟨b10, 0, none⟩) 1 1) (countsM dg ((small19 u3).J) M2.sp M2.att) [2]) H (lA 1 rfl own_rd (lA 0 rfl (fun F h => blk_rsl h rfl (by decide) (RepsR.flat_eq.2 rfl)) l0)) rfl rfl (e_fn kn33 rfl rfl) ?_))
 rintro _ _ w ⟨rfl, rfl⟩ H
 refine s_1 rfl ?_
 refine s_dec (d := 33) rfl (fun h11 => ?_) (fun h11 => ?_)
 ·refine s_1 rfl ?_
  replace H := H.p3
  replace H : Hd _ _ _ [mprI b8 ((small19 u7).J) M1, blk b10 [.int .i64 2] 3, osl (kInt .i64) v9 (countsM dg ((small19 u3).J) M2.sp M2.att), mprI b4 ((small19 u3).J) M2] [gl] := H
  refine sc (oCounts_ok b8 ((small19 u7).J) M1 (by first | assumption | omega)) H l0 rfl rfl (e_fn kn30 rfl rfl) ?_
  rintro v12 _ w rfl H
  refine s_bsl (parts := [(0, .const (.int .i64 1))]) (vs := [.int .i64 1]) (cs := [.int .i64 1]) rfl rfl rfl sl24 zr3 rfl (by decide) (by decide) rfl rfl H (fun b13 w H => (sc (sameInts_ok v12 (.slice (some ⟨b13, 0, none⟩) 1 1) (countsM dg ((small19 u7).J) M1.sp M1.att) [1]) H (lA 1 rfl own_rd (lA 0 rfl (fun F h => blk_rsl h rfl (by decide) (RepsR.flat_eq.2 rfl)) l0)) rfl rfl (e_fn kn33 rfl rfl) ?_))
  rintro _ _ w ⟨rfl, rfl⟩ H
  refine s_k 2 rfl ?_
  refine s_dec (d := 39) rfl (fun h14 => ?_) (fun h14 => ?_)
  ·refine s_1 rfl ?_
   replace H := H.p5
   replace H : Hd _ _ _ [mprI b4 ((small19 u3).J) M2, blk b13 [.int .i64 1] 3, osl (kInt .i64) v12 (countsM dg ((small19 u7).J) M1.sp M1.att), mprI b8 ((small19 u7).J) M1, blk b10 [.int .i64 2] 3, osl (kInt .i64) v9 (countsM dg ((small19 u3).J) M2.sp M2.att)] [gl] := H
   refine sc (oPush_ok b4 ((small19 u3).J) M2 (by first | assumption | omega) (by first | assumption | omega)) H l0 rfl rfl (e_fn kn31 rfl rfl) ?_
   rintro v17 _ w ⟨zs15, rfl, hf16⟩ H
   have hpl := congrArg List.length hf16
   rw [List.length_map, hp2] at hpl
   obtain ⟨A18, c19, rfl, hc20, hm21, hp22⟩ := H.fA 0 rfl
   replace H : Hd _ _ _ [osl kMes (.slice A18 zs15.length c19) zs15, mprI b4 ((small19 u3).J) M2, blk b13 [.int .i64 1] 3, osl (kInt .i64) v12 (countsM dg ((small19 u7).J) M1.sp M1.att), mprI b8 ((small19 u7).J) M1, blk b10 [.int .i64 2] 3, osl (kInt .i64) v9 (countsM dg ((small19 u3).J) M2.sp M2.att)] [gl] := H
   refine s_val rfl rfl (r_lenL rfl un53 rfl) (s_val rfl rfl (r_eq rfl rfl rfl) (s_k 2 rfl ?_))
   refine s_dec (d := 45) rfl (fun h23 => ?_) (fun h23 => ?_)
   ·refine s_1 rfl ?_
    replace H := H.p1
    refine sc (oAck_ok b4 ((small19 u3).J) M2 0 1 2 (by first | assumption | omega)) H l0 rfl rfl (e_fn kn44 rfl rfl) ?_
    rintro _ _ w ⟨rfl, rfl⟩ H
    refine s_k 2 rfl ?_
    refine s_boo (d := 49) (b := (ackMpr M2 0 1 2).2) rfl (fun h24 => ?_) (fun h24 => ?_)
    ·refine s_1 rfl ?_
     replace H : Hd _ _ _ [mprI b4 ((small19 u3).J) ((ackMpr M2 0 1 2).1), osl kMes (.slice A18 zs15.length c19) zs15, blk b13 [.int .i64 1] 3, osl (kInt .i64) v12 (countsM dg ((small19 u7).J) M1.sp M1.att), mprI b8 ((small19 u7).J) M1, blk b10 [.int .i64 2] 3, osl (kInt .i64) v9 (countsM dg ((small19 u3).J) M2.sp M2.att)] [gl] := H
     refine sc (oDone_ok b4 ((small19 u3).J) ((ackMpr M2 0 1 2).1) (by first | assumption | omega)) H l0 rfl rfl (e_fn kn37 rfl rfl) ?_
     rintro _ _ w ⟨rfl, rfl⟩ H
     refine s_k 2 rfl ?_
     refine s_boo (d := 53) (b := doneMpr ((ackMpr M2 0 1 2).1)) rfl (fun h25 => ?_) (fun h25 => ?_)
     ·refine s_1 rfl ?_
      replace H := H.p4
      replace H : Hd _ _ _ [mprI b8 ((small19 u7).J) M1, mprI b4 ((small19 u3).J) ((ackMpr M2 0 1 2).1), osl kMes (.slice A18 zs15.length c19) zs15, blk b13 [.int .i64 1] 3, osl (kInt .i64) v12 (countsM dg ((small19 u7).J) M1.sp M1.att), blk b10 [.int .i64 2] 3, osl (kInt .i64) v9 (countsM dg ((small19 u3).J) M2.sp M2.att)] [gl] := H
      refine sc (oDone_ok b8 ((small19 u7).J) M1 (by first | assumption | omega)) H l0 rfl rfl (e_fn kn37 rfl rfl) ?_
      rintro _ _ w ⟨rfl, rfl⟩ H
      refine s_val rfl rfl (r_not rfl rfl rfl) (s_k 2 rfl (s_nil (q_then ?_)))
      replace H := H.nil
      replace H : Hd _ _ _ [] [gl] := H
      exact c_ret (q_ret1 rfl rfl (fin ⟨congrArg Value.bool (by first | exact decide_eq_true (by omega) | simp [hd1]), rfl⟩ H))
     ·exact absurd hd2 (by simpa using h25)
    ·exact absurd hk2 (by simpa using h24)
   ·exact (h23 (by omega)).elim
  ·exact (h14 hc1).elim
 ·exact (h11 hc2).elim

set_option maxHeartbeats 8000000 in
theorem mapperWholeC_ok (vS vM vC vR vK : Value) (C : Cf) (ss : List (List Pair)) (gm : ∀ i ∈ C.J.map, In64 i.a) (gc : ∀ i ∈ C.J.comb, In64 i.a) (gr : ∀ i ∈ C.J.red, In64 i.a) (k1 : Int) (g1 : In64 k1) (k2 : Int) (g2 : In64 k2) (k3 : Int) (g3 : In64 k3) :
    Cn Tryz.prog 8 [.agg #[vS, .int .i64 C.J.parts, vM, vC, vR, .int .i64 C.J.chunk, .int .i64 C.J.window, .int .i64 C.J.fuel, vK, .int .i64 C.w, .int .i64 C.t, .int .i64 C.o], .int .i64 k1, .int .i64 k2, .int .i64 k3] [] [rsl (kHd kPair) vS C.J.us, rsl (kSl kPair) vS ss, rsl kIns vM C.J.map, rsl kIns vC C.J.comb, rsl kIns vR C.J.red, rsl (kInt .i64) vK C.J.marks, gl] (fun v Bs => v = .bool true ∧ Bs = []) := by
 intro w0 F0 H
 obtain ⟨A1, c2, rfl, hc3, hm4, hp5⟩ := H.fR 0 rfl
 obtain ⟨A6, c7, rfl, hc8, hm9, hp10⟩ := H.fR 2 rfl
 obtain ⟨A11, c12, rfl, hc13, hm14, hp15⟩ := H.fR 3 rfl
 obtain ⟨A16, c17, rfl, hc18, hm19, hp20⟩ := H.fR 4 rfl
 obtain ⟨A21, c22, rfl, hc23, hm24, hp25⟩ := H.fR 5 rfl
 refine enter Tryz.func8 rfl rfl (Nat.le_of_ble_eq_true rfl) (c_seq (c_reg (s_box rfl rfl rfl rfl H (fun b26 w H => (s_1 rfl (s_nil (q_then ?_)))))))
 replace H : Hd _ _ _ [blk b26 [.slice A1 C.J.us.length c2, .int .i64 C.J.parts, .slice A6 C.J.map.length c7, .slice A11 C.J.comb.length c12, .slice A16 C.J.red.length c17, .int .i64 C.J.chunk, .int .i64 C.J.window, .int .i64 C.J.fuel, .slice A21 C.J.marks.length c22, .int .i64 C.w, .int .i64 C.t, .int .i64 C.o] 28] [rsl (kHd kPair) (.slice A1 C.J.us.length c2) C.J.us, rsl (kSl kPair) (.slice A1 C.J.us.length c2) ss, rsl kIns (.slice A6 C.J.map.length c7) C.J.map, rsl kIns (.slice A11 C.J.comb.length c12) C.J.comb, rsl kIns (.slice A16 C.J.red.length c17) C.J.red, rsl (kInt .i64) (.slice A21 C.J.marks.length c22) C.J.marks, gl] := H
 refine c_seq (c_seq (c_reg (s_val rfl rfl (r_fa rfl fo28_0 rfl) (s_val rfl rfl (r_ldA (cs := [.slice A1 C.J.us.length c2, .int .i64 C.J.parts, .slice A6 C.J.map.length c7, .slice A11 C.J.comb.length c12, .slice A16 C.J.red.length c17, .int .i64 C.J.chunk, .int .i64 C.J.window, .int .i64 C.J.fuel, .slice A21 C.J.marks.length c22]) rfl ty26 rfl rfl (H.cellsI 0 rfl rfl)) (sc (greatJob_ok (.slice A1 C.J.us.length c2) (.slice A6 C.J.map.length c7) (.slice A11 C.J.comb.length c12) (.slice A16 C.J.red.length c17) (.slice A21 C.J.marks.length c22) C.J) H (lR 0 rfl (lR 2 rfl (lR 3 rfl (lR 4 rfl (lR 5 rfl l0))))) rfl rfl (e_fn kn18 rfl rfl) ?_)))))
 rintro _ _ w ⟨rfl, rfl⟩ H
 refine s_1 rfl ?_
 refine s_boo (d := 21) (b := greatJ C.J) rfl (fun h27 => ?_) (fun h27 => ?_)
 ·refine s_k 4 rfl (s_nil (q_then ?_))
  replace H : Hd _ _ _ [blk b26 [.slice A1 C.J.us.length c2, .int .i64 C.J.parts, .slice A6 C.J.map.length c7, .slice A11 C.J.comb.length c12, .slice A16 C.J.red.length c17, .int .i64 C.J.chunk, .int .i64 C.J.window, .int .i64 C.J.fuel, .slice A21 C.J.marks.length c22, .int .i64 C.w, .int .i64 C.t, .int .i64 C.o] 28] [rsl (kHd kPair) (.slice A1 C.J.us.length c2) C.J.us, rsl (kSl kPair) (.slice A1 C.J.us.length c2) ss, rsl kIns (.slice A6 C.J.map.length c7) C.J.map, rsl kIns (.slice A11 C.J.comb.length c12) C.J.comb, rsl kIns (.slice A16 C.J.red.length c17) C.J.red, rsl (kInt .i64) (.slice A21 C.J.marks.length c22) C.J.marks, gl] := H
  refine c_yes rfl (c_seq (c_reg (sc (awake19_ok) H (lR 6 rfl l0) rfl rfl (e_fn kn26 rfl rfl) ?_)))
  rintro _ _ w ⟨rfl, rfl⟩ H
  refine s_1 rfl (s_nil (q_then (c_ret (q_thenR (q_ret1 rfl rfl ?_)))))
  replace H := H.nil
  exact fin ⟨rfl, rfl⟩ H
 ·refine s_val rfl rfl (r_ldA (cs := [.slice A1 C.J.us.length c2, .int .i64 C.J.parts, .slice A6 C.J.map.length c7, .slice A11 C.J.comb.length c12, .slice A16 C.J.red.length c17, .int .i64 C.J.chunk, .int .i64 C.J.window, .int .i64 C.J.fuel, .slice A21 C.J.marks.length c22, .int .i64 C.w, .int .i64 C.t, .int .i64 C.o]) rfl ty28 rfl rfl (H.cellsI 0 rfl rfl)) ?_
  replace H : Hd _ _ _ [blk b26 [.slice A1 C.J.us.length c2, .int .i64 C.J.parts, .slice A6 C.J.map.length c7, .slice A11 C.J.comb.length c12, .slice A16 C.J.red.length c17, .int .i64 C.J.chunk, .int .i64 C.J.window, .int .i64 C.J.fuel, .slice A21 C.J.marks.length c22, .int .i64 C.w, .int .i64 C.t, .int .i64 C.o] 28] [rsl (kHd kPair) (.slice A1 C.J.us.length c2) C.J.us, rsl (kSl kPair) (.slice A1 C.J.us.length c2) ss, rsl kIns (.slice A6 C.J.map.length c7) C.J.map, rsl kIns (.slice A11 C.J.comb.length c12) C.J.comb, rsl kIns (.slice A16 C.J.red.length c17) C.J.red, rsl (kInt .i64) (.slice A21 C.J.marks.length c22) C.J.marks, gl] := H
  refine sc (mayC_ok (.slice A1 C.J.us.length c2) (.slice A6 C.J.map.length c7) (.slice A11 C.J.comb.length c12) (.slice A16 C.J.red.length c17) (.slice A21 C.J.marks.length c22) C) H (lR 0 rfl (lR 2 rfl (lR 3 rfl (lR 4 rfl (lR 5 rfl l0))))) rfl rfl (e_fn kn19 rfl rfl) ?_
  rintro _ _ w ⟨rfl, rfl⟩ H
  refine s_val rfl rfl (r_notP rfl rfl) (s_1 rfl (s_nil (q_then ?_)))
  refine c_dec rfl (fun h28 => ?_) (fun h28 => ?_)
  ·refine c_seq (c_reg (sc (awake19_ok) H (lR 6 rfl l0) rfl rfl (e_fn kn26 rfl rfl) ?_))
   rintro _ _ w ⟨rfl, rfl⟩ H
   refine s_1 rfl (s_nil (q_then (c_ret (q_thenR (q_ret1 rfl rfl ?_)))))
   replace H := H.nil
   exact fin ⟨rfl, rfl⟩ H
  ·refine c_skip (q_then (c_seq ?_))
   have hC : mayC C := Classical.not_not.1 h28
   have hJ : OkJ C.J := ⟨hC.1, gm, gc, gr⟩
   have hus := hJ.us
   have hpt := hJ.parts
   have htt : 1 ≤ C.t ∧ C.t ≤ 3 := hC.2.2.1
   refine c_reg (s_1 rfl (s_val rfl rfl (r_fa rfl fo28_0 rfl) (s_val rfl rfl (r_fa rfl fo26_0 rfl) (s_val rfl rfl (r_ld rfl ty22 rfl (H.cellI 0 rfl rfl)) (s_val rfl rfl (r_lenL rfl un22 rfl) (sc (low_ok k1 ((C.J.us.length : Nat) : Int) (by first | assumption | (unfold In64; omega)) (by omega) (by omega)) H l0 rfl rfl (e_fn kn22 rfl rfl) ?_))))))
   rintro _ _ w ⟨rfl, rfl⟩ H
   obtain ⟨lo29, hl30, hl31, hl32⟩ : ∃ z : Int, IntKind.u64.wrap k1 % ((C.J.us.length : Nat) : Int) = z ∧ 0 ≤ z ∧ z < ((C.J.us.length : Nat) : Int) := ⟨_, rfl, Int.emod_nonneg _ (by omega), Int.emod_lt_of_pos _ (by omega)⟩
   rw [hl30]
   obtain ⟨m33, rfl⟩ : ∃ z : Nat, lo29 = (z : Int) := ⟨(lo29).toNat, by omega⟩
   refine s_1 rfl (s_nil (q_then (c_seq (c_ord (.e 0 (.e 1 (.e 2 (.e 3 (.e 4 (.m 5 (.e 6 (.m 7 (.e 8 (.e 9 (.e 10 (.e 11 (.e 12 .z))))))))))))) (fun w => ∃ Ar, Hd w0 F0 w (blk b26 [.slice A1 C.J.us.length c2, .int .i64 C.J.parts, .slice A6 C.J.map.length c7, .slice A11 C.J.comb.length c12, .slice A16 C.J.red.length c17, .int .i64 C.J.chunk, .int .i64 C.J.window, .int .i64 C.J.fuel, .slice A21 C.J.marks.length c22, .int .i64 C.w, .int .i64 C.t, .int .i64 C.o] 28 :: Ar) [rsl (kHd kPair) (.slice A1 C.J.us.length c2) C.J.us, rsl (kSl kPair) (.slice A1 C.J.us.length c2) ss, rsl kIns (.slice A6 C.J.map.length c7) C.J.map, rsl kIns (.slice A11 C.J.comb.length c12) C.J.comb, rsl kIns (.slice A16 C.J.red.length c17) C.J.red, rsl (kInt .i64) (.slice A21 C.J.marks.length c22) C.J.marks, gl]) mo (by kernel_rfl) (fun w H => ⟨_, H⟩) H (fun w H => (d_val rfl rfl rfl (fun w ⟨Ar, H⟩ => r_ldA (cs := [.slice A1 C.J.us.length c2, .int .i64 C.J.parts, .slice A6 C.J.map.length c7, .slice A11 C.J.comb.length c12, .slice A16 C.J.red.length c17, .int .i64 C.J.chunk, .int .i64 C.J.window, .int .i64 C.J.fuel, .slice A21 C.J.marks.length c22, .int .i64 C.w, .int .i64 C.t, .int .i64 C.o]) rfl ty28 rfl rfl (H.cellsI 0 rfl rfl)) ?_))))))
   refine d_1 rfl (d_1 rfl (d_val rfl rfl rfl (fun w ⟨Ar, H⟩ => r_fa rfl fo28_2 rfl) (d_val rfl rfl rfl (fun w ⟨Ar, H⟩ => r_ld rfl ty3 rfl (H.cellI 0 rfl rfl)) (d_main rfl (sc (low_ok k2 C.t (by first | assumption | (unfold In64; omega)) (by omega) (by omega)) H l0 rfl rfl (e_fn kn22 rfl rfl) ?_)))))
   rintro _ _ w ⟨rfl, rfl⟩ H
   obtain ⟨lo34, hl35, hl36, hl37⟩ : ∃ z : Int, IntKind.u64.wrap k2 % C.t = z ∧ 0 ≤ z ∧ z < C.t := ⟨_, rfl, Int.emod_nonneg _ (by omega), Int.emod_lt_of_pos _ (by omega)⟩
   rw [hl35]
   refine d_back ⟨_, H⟩ (d_val rfl rfl rfl (fun w ⟨Ar, H⟩ => r_add (z := 1 + lo34) rfl rfl rfl (w64 (by omega) (by omega))) (d_main rfl ?_))
   have hgo1 : m33 < C.J.us.length ∧ 1 ≤ 1 + lo34 ∧ 1 + lo34 ≤ C.t := ⟨by omega, by omega, by omega⟩
   refine sc (mapNew_ok (.slice A1 C.J.us.length c2) (.slice A6 C.J.map.length c7) (.slice A11 C.J.comb.length c12) (.slice A16 C.J.red.length c17) (.slice A21 C.J.marks.length c22) C m33 (1 + lo34) (by first | assumption | omega) (by first | assumption | omega) (by first | assumption | omega)) H (lR 0 rfl (lR 2 rfl (lR 3 rfl (lR 4 rfl (lR 5 rfl (lR 6 rfl l0)))))) rfl rfl (e_fn kn27 rfl rfl) ?_
   rintro _ _ w ⟨b38, rfl, rfl⟩ H
   replace H : Hd _ _ _ [mprI b38 C.J (newMpr dg C.J m33 (1 + lo34)), blk b26 [.slice A1 C.J.us.length c2, .int .i64 C.J.parts, .slice A6 C.J.map.length c7, .slice A11 C.J.comb.length c12, .slice A16 C.J.red.length c17, .int .i64 C.J.chunk, .int .i64 C.J.window, .int .i64 C.J.fuel, .slice A21 C.J.marks.length c22, .int .i64 C.w, .int .i64 C.t, .int .i64 C.o] 28] [rsl (kHd kPair) (.slice A1 C.J.us.length c2) C.J.us, rsl (kSl kPair) (.slice A1 C.J.us.length c2) ss, rsl kIns (.slice A6 C.J.map.length c7) C.J.map, rsl kIns (.slice A11 C.J.comb.length c12) C.J.comb, rsl kIns (.slice A16 C.J.red.length c17) C.J.red, rsl (kInt .i64) (.slice A21 C.J.marks.length c22) C.J.marks, gl] := H
   obtain ⟨M1, hM1⟩ : ∃ z : Mpr, z = newMpr dg C.J m33 (1 + lo34) := ⟨_, rfl⟩
   rw [← hM1] at H
   replace H : Hd _ _ _ [mprI b38 C.J M1, blk b26 [.slice A1 C.J.us.length c2, .int .i64 C.J.parts, .slice A6 C.J.map.length c7, .slice A11 C.J.comb.length c12, .slice A16 C.J.red.length c17, .int .i64 C.J.chunk, .int .i64 C.J.window, .int .i64 C.J.fuel, .slice A21 C.J.marks.length c22, .int .i64 C.w, .int .i64 C.t, .int .i64 C.o] 28] [rsl (kHd kPair) (.slice A1 C.J.us.length c2) C.J.us, rsl (kSl kPair) (.slice A1 C.J.us.length c2) ss, rsl kIns (.slice A6 C.J.map.length c7) C.J.map, rsl kIns (.slice A11 C.J.comb.length c12) C.J.comb, rsl kIns (.slice A16 C.J.red.length c17) C.J.red, rsl (kInt .i64) (.slice A21 C.J.marks.length c22) C.J.marks, gl] := H
   have hok1 : okMp M1 := by rw [hM1]; exact okMp_new hJ _ _
   have hsp1 : M1.sp = m33 := by rw [hM1]; rfl
   replace H := H.p1
   refine d_back ⟨_, H⟩ (d_1 rfl (d_1 rfl (d_1 rfl (d_1 rfl (d_1 rfl (d_nil (q_then (c_seq (c_ord (.e 0 (.e 1 (.e 2 (.e 3 (.e 4 (.m 5 (.e 6 (.m 7 (.e 8 (.e 9 (.e 10 (.e 11 (.e 12 .z))))))))))))) (fun w => ∃ Ar, Hd w0 F0 w (blk b26 [.slice A1 C.J.us.length c2, .int .i64 C.J.parts, .slice A6 C.J.map.length c7, .slice A11 C.J.comb.length c12, .slice A16 C.J.red.length c17, .int .i64 C.J.chunk, .int .i64 C.J.window, .int .i64 C.J.fuel, .slice A21 C.J.marks.length c22, .int .i64 C.w, .int .i64 C.t, .int .i64 C.o] 28 :: mprI b38 C.J M1 :: Ar) [rsl (kHd kPair) (.slice A1 C.J.us.length c2) C.J.us, rsl (kSl kPair) (.slice A1 C.J.us.length c2) ss, rsl kIns (.slice A6 C.J.map.length c7) C.J.map, rsl kIns (.slice A11 C.J.comb.length c12) C.J.comb, rsl kIns (.slice A16 C.J.red.length c17) C.J.red, rsl (kInt .i64) (.slice A21 C.J.marks.length c22) C.J.marks, gl]) mo (by kernel_rfl) (fun w H => ⟨_, H⟩) H (fun w H => ?_))))))))))
   refine d_val rfl rfl rfl (fun w ⟨Ar, H⟩ => r_ldA (cs := [.slice A1 C.J.us.length c2, .int .i64 C.J.parts, .slice A6 C.J.map.length c7, .slice A11 C.J.comb.length c12, .slice A16 C.J.red.length c17, .int .i64 C.J.chunk, .int .i64 C.J.window, .int .i64 C.J.fuel, .slice A21 C.J.marks.length c22, .int .i64 C.w, .int .i64 C.t, .int .i64 C.o]) rfl ty28 rfl rfl (H.cellsI 0 rfl rfl)) (d_1 rfl (d_1 rfl (d_val rfl rfl rfl (fun w ⟨Ar, H⟩ => r_fa rfl fo28_2 rfl) (d_val rfl rfl rfl (fun w ⟨Ar, H⟩ => r_ld rfl ty3 rfl (H.cellI 0 rfl rfl)) (d_main rfl (sc (low_ok k3 C.t (by first | assumption | (unfold In64; omega)) (by omega) (by omega)) H l0 rfl rfl (e_fn kn22 rfl rfl) ?_))))))
   rintro _ _ w ⟨rfl, rfl⟩ H
   obtain ⟨lo39, hl40, hl41, hl42⟩ : ∃ z : Int, IntKind.u64.wrap k3 % C.t = z ∧ 0 ≤ z ∧ z < C.t := ⟨_, rfl, Int.emod_nonneg _ (by omega), Int.emod_lt_of_pos _ (by omega)⟩
   rw [hl40]
   refine d_back ⟨_, H⟩ (d_val rfl rfl rfl (fun w ⟨Ar, H⟩ => r_add (z := 1 + lo39) rfl rfl rfl (w64 (by omega) (by omega))) (d_main rfl ?_))
   have hgo2 : m33 < C.J.us.length ∧ 1 ≤ 1 + lo39 ∧ 1 + lo39 ≤ C.t := ⟨by omega, by omega, by omega⟩
   refine sc (mapNew_ok (.slice A1 C.J.us.length c2) (.slice A6 C.J.map.length c7) (.slice A11 C.J.comb.length c12) (.slice A16 C.J.red.length c17) (.slice A21 C.J.marks.length c22) C m33 (1 + lo39) (by first | assumption | omega) (by first | assumption | omega) (by first | assumption | omega)) H (lR 0 rfl (lR 2 rfl (lR 3 rfl (lR 4 rfl (lR 5 rfl (lR 6 rfl l0)))))) rfl rfl (e_fn kn27 rfl rfl) ?_
   rintro _ _ w ⟨b43, rfl, rfl⟩ H
   replace H : Hd _ _ _ [mprI b43 C.J (newMpr dg C.J m33 (1 + lo39)), blk b26 [.slice A1 C.J.us.length c2, .int .i64 C.J.parts, .slice A6 C.J.map.length c7, .slice A11 C.J.comb.length c12, .slice A16 C.J.red.length c17, .int .i64 C.J.chunk, .int .i64 C.J.window, .int .i64 C.J.fuel, .slice A21 C.J.marks.length c22, .int .i64 C.w, .int .i64 C.t, .int .i64 C.o] 28, mprI b38 C.J M1] [rsl (kHd kPair) (.slice A1 C.J.us.length c2) C.J.us, rsl (kSl kPair) (.slice A1 C.J.us.length c2) ss, rsl kIns (.slice A6 C.J.map.length c7) C.J.map, rsl kIns (.slice A11 C.J.comb.length c12) C.J.comb, rsl kIns (.slice A16 C.J.red.length c17) C.J.red, rsl (kInt .i64) (.slice A21 C.J.marks.length c22) C.J.marks, gl] := H
   obtain ⟨M2, hM2⟩ : ∃ z : Mpr, z = newMpr dg C.J m33 (1 + lo39) := ⟨_, rfl⟩
   rw [← hM2] at H
   replace H : Hd _ _ _ [mprI b43 C.J M2, blk b26 [.slice A1 C.J.us.length c2, .int .i64 C.J.parts, .slice A6 C.J.map.length c7, .slice A11 C.J.comb.length c12, .slice A16 C.J.red.length c17, .int .i64 C.J.chunk, .int .i64 C.J.window, .int .i64 C.J.fuel, .slice A21 C.J.marks.length c22, .int .i64 C.w, .int .i64 C.t, .int .i64 C.o] 28, mprI b38 C.J M1] [rsl (kHd kPair) (.slice A1 C.J.us.length c2) C.J.us, rsl (kSl kPair) (.slice A1 C.J.us.length c2) ss, rsl kIns (.slice A6 C.J.map.length c7) C.J.map, rsl kIns (.slice A11 C.J.comb.length c12) C.J.comb, rsl kIns (.slice A16 C.J.red.length c17) C.J.red, rsl (kInt .i64) (.slice A21 C.J.marks.length c22) C.J.marks, gl] := H
   have hok2 : okMp M2 := by rw [hM2]; exact okMp_new hJ _ _
   have hsp2 : M2.sp = m33 := by rw [hM2]; rfl
   replace H := H.p2.p2
   refine d_back ⟨_, H⟩ (d_1 rfl (d_1 rfl (d_1 rfl (d_1 rfl (d_1 rfl (d_nil (q_then (c_seq (c_seq (c_reg (s_1 rfl (s_val rfl rfl (r_ne rfl rfl rfl) (s_k 2 rfl (s_val rfl rfl (r_ne rfl rfl rfl) (s_k 3 rfl (s_val rfl rfl (r_peq rfl un44 rfl rfl) (s_k 3 rfl (s_val rfl rfl (r_peq rfl un44 rfl rfl) (s_k 3 rfl ?_)))))))))))))))))))
   replace H := H.p1
   refine sc (oReason_ok b38 C.J M1) H l0 rfl rfl (e_fn kn32 rfl rfl) ?_
   rintro _ _ w ⟨rfl, rfl⟩ H
   refine s_1 rfl ?_
   replace H := H.p2
   refine sc (oReason_ok b43 C.J M2) H l0 rfl rfl (e_fn kn32 rfl rfl) ?_
   rintro _ _ w ⟨rfl, rfl⟩ H
   refine s_val rfl rfl (r_ne rfl rfl rfl) (s_1 rfl (s_nil (q_then ?_)))
   refine c_dec rfl (fun h44 => ?_) (fun h44 => ?_)
   ·exact (h44 (by first | rw [hsp1, hsp2] | rw [hsp1])).elim
   ·refine c_skip (q_then (c_seq (c_reg (s_val rfl rfl (r_fa rfl fo28_0 rfl) (s_val rfl rfl (r_ldA (cs := [.slice A1 C.J.us.length c2, .int .i64 C.J.parts, .slice A6 C.J.map.length c7, .slice A11 C.J.comb.length c12, .slice A16 C.J.red.length c17, .int .i64 C.J.chunk, .int .i64 C.J.window, .int .i64 C.J.fuel, .slice A21 C.J.marks.length c22]) rfl ty26 rfl rfl (H.cellsI 2 rfl rfl)) (s_1 rfl (sc (split_ok (.slice A1 C.J.us.length c2) (.slice A6 C.J.map.length c7) (.slice A11 C.J.comb.length c12) (.slice A16 C.J.red.length c17) (.slice A21 C.J.marks.length c22) C.J hJ m33 (by first | assumption | omega)) H (lR 0 rfl (lR 2 rfl (lR 3 rfl (lR 4 rfl (lR 5 rfl (lR 6 rfl l0)))))) rfl rfl (e_fn kn53 rfl rfl) ?_)))))))
    rintro _ _ w ⟨u45, rfl, rfl⟩ H
    replace H := H.h1 (A := osl kPair u45 ((splitM dg C.J m33).1))
    refine s_k 5 rfl (s_nil (q_then ?_))
    replace H := H.p3.p3.p3.k3
    refine c_seq (c_seq (c_reg (s_k 2 rfl ?_)))
    replace H := H.p1
    refine sc (oReason_ok b38 C.J M1) H l0 rfl rfl (e_fn kn32 rfl rfl) ?_
    rintro _ _ w ⟨rfl, rfl⟩ H
    refine s_val rfl rfl (r_ne rfl rfl rfl) (s_nil (q_then ?_))
    refine c_dec rfl (fun h46 => ?_) (fun h46 => ?_)
    ·exact (h46 (by first | rw [hsp1, hsp2] | rw [hsp1])).elim
    ·refine c_skip (q_then (c_seq (c_seq (c_reg (s_1 rfl (s_val rfl rfl (r_ne rfl rfl rfl) (s_nil (q_then ?_))))))))
     refine c_dec rfl (fun h47 => ?_) (fun h47 => ?_)
     ·refine c_seq ?_
      have hst := stopped (D := dg) (J := C.J) (s := m33) (att := M1.att) h47
      have hM1b : M1 = newMpr dg C.J m33 M1.att := by rw [hM1]; rfl
      rw [← hM1b, ← hsp1] at hst
      refine c_reg (s_1 rfl (sc (oCounts_ok b38 C.J M1 (by first | assumption | omega)) H l0 rfl rfl (e_fn kn30 rfl rfl) ?_))
      rintro v48 _ w rfl H
      obtain ⟨A49, c50, rfl, hc51, hm52, hp53⟩ := H.fA 0 rfl
      refine s_val rfl rfl (r_lenL rfl un24 rfl) (s_val rfl rfl (r_eq rfl rfl rfl) (s_1 rfl ?_))
      refine s_dec (d := 93) rfl (fun h54 => ?_) (fun h54 => ?_)
      ·refine s_1 rfl ?_
       replace H := H.p1
       replace H : Hd _ _ _ [mprI b38 C.J M1, osl (kInt .i64) (.slice A49 ((countsM dg C.J M1.sp M1.att).length) c50) (countsM dg C.J M1.sp M1.att), mprI b43 C.J M2, blk b26 [.slice A1 C.J.us.length c2, .int .i64 C.J.parts, .slice A6 C.J.map.length c7, .slice A11 C.J.comb.length c12, .slice A16 C.J.red.length c17, .int .i64 C.J.chunk, .int .i64 C.J.window, .int .i64 C.J.fuel, .slice A21 C.J.marks.length c22, .int .i64 C.w, .int .i64 C.t, .int .i64 C.o] 28] [rsl (kHd kPair) (.slice A1 C.J.us.length c2) C.J.us, rsl (kSl kPair) (.slice A1 C.J.us.length c2) ss, rsl kIns (.slice A6 C.J.map.length c7) C.J.map, rsl kIns (.slice A11 C.J.comb.length c12) C.J.comb, rsl kIns (.slice A16 C.J.red.length c17) C.J.red, rsl (kInt .i64) (.slice A21 C.J.marks.length c22) C.J.marks, gl] := H
       refine sc (oPush_ok b38 C.J M1 (by first | assumption | omega) (by first | assumption | omega)) H l0 rfl rfl (e_fn kn31 rfl rfl) ?_
       rintro v57 _ w ⟨zs55, rfl, hf56⟩ H
       have hpl := congrArg List.length hf56
       rw [List.length_map] at hpl
       obtain ⟨A58, c59, rfl, hc60, hm61, hp62⟩ := H.fA 0 rfl
       replace H : Hd _ _ _ [osl kMes (.slice A58 zs55.length c59) zs55, mprI b38 C.J M1, osl (kInt .i64) (.slice A49 ((countsM dg C.J M1.sp M1.att).length) c50) (countsM dg C.J M1.sp M1.att), mprI b43 C.J M2, blk b26 [.slice A1 C.J.us.length c2, .int .i64 C.J.parts, .slice A6 C.J.map.length c7, .slice A11 C.J.comb.length c12, .slice A16 C.J.red.length c17, .int .i64 C.J.chunk, .int .i64 C.J.window, .int .i64 C.J.fuel, .slice A21 C.J.marks.length c22, .int .i64 C.w, .int .i64 C.t, .int .i64 C.o] 28] [rsl (kHd kPair) (.slice A1 C.J.us.length c2) C.J.us, rsl (kSl kPair) (.slice A1 C.J.us.length c2) ss, rsl kIns (.slice A6 C.J.map.length c7) C.J.map, rsl kIns (.slice A11 C.J.comb.length c12) C.J.comb, rsl kIns (.slice A16 C.J.red.length c17) C.J.red, rsl (kInt .i64) (.slice A21 C.J.marks.length c22) C.J.marks, gl] := H
       refine s_val rfl rfl (r_lenL rfl un53 rfl) (s_val rfl rfl (r_eq rfl rfl rfl) (s_k 2 rfl ?_))
       refine s_dec (d := 99) rfl (fun h63 => ?_) (fun h63 => ?_)
       ·refine s_1 rfl ?_
        replace H := H.p1
        refine sc (oDone_ok b38 C.J M1 (by first | assumption | omega)) H l0 rfl rfl (e_fn kn37 rfl rfl) ?_
        rintro _ _ w ⟨rfl, rfl⟩ H
        refine s_k 2 rfl ?_
        refine s_boo (d := 103) (b := doneMpr M1) rfl (fun h64 => ?_) (fun h64 => ?_)
        ·replace H : Hd _ _ _ [mprI b38 C.J M1, osl kMes (.slice A58 zs55.length c59) zs55, osl (kInt .i64) (.slice A49 ((countsM dg C.J M1.sp M1.att).length) c50) (countsM dg C.J M1.sp M1.att), mprI b43 C.J M2, blk b26 [.slice A1 C.J.us.length c2, .int .i64 C.J.parts, .slice A6 C.J.map.length c7, .slice A11 C.J.comb.length c12, .slice A16 C.J.red.length c17, .int .i64 C.J.chunk, .int .i64 C.J.window, .int .i64 C.J.fuel, .slice A21 C.J.marks.length c22, .int .i64 C.w, .int .i64 C.t, .int .i64 C.o] 28] [rsl (kHd kPair) (.slice A1 C.J.us.length c2) C.J.us, rsl (kSl kPair) (.slice A1 C.J.us.length c2) ss, rsl kIns (.slice A6 C.J.map.length c7) C.J.map, rsl kIns (.slice A11 C.J.comb.length c12) C.J.comb, rsl kIns (.slice A16 C.J.red.length c17) C.J.red, rsl (kInt .i64) (.slice A21 C.J.marks.length c22) C.J.marks, gl] := H
         refine sc (awake19_ok) H (lR 6 rfl l0) rfl rfl (e_fn kn26 rfl rfl) ?_
         rintro _ _ w ⟨rfl, rfl⟩ H
         refine s_k 2 rfl (s_nil (q_then ?_))
         replace H := H.p4.p4.p4.p3.k4
         refine c_ret (q_thenR (q_ret1 rfl rfl ?_))
         replace H := H.nil
         exact fin ⟨rfl, rfl⟩ H
        ·first | exact (h64 (by omega)).elim | (exfalso; omega) | exact absurd hst.2.2 (by simpa using h64)
       ·first | exact (h63 (by omega)).elim | (exfalso; omega) | exact absurd hst.2.2 (by simpa using h63)
      ·first | exact (h54 (by omega)).elim | (exfalso; omega) | exact absurd hst.2.2 (by simpa using h54)
     ·refine c_skip (q_then (c_seq (c_seq (c_reg (s_1 rfl (s_nil (q_then (c_block ?_))))))))
      have hr0 : (splitM dg C.J m33).2 = 0 := Classical.not_not.1 h47
      have hra : (splitM dg C.J M1.sp).2 = 0 := by rw [hsp1]; exact hr0
      have hrb : (splitM dg C.J M2.sp).2 = 0 := by rw [hsp2]; exact hr0
      replace H := H.p2
      refine c_loop (σ := Nat) (fun k => [(1, .int .i64 ((m33 : Nat) : Int)), (4, .pointer (some ⟨b26, 0, none⟩)), (9, .pointer (some ⟨b38, 0, none⟩)), (11, .pointer (some ⟨b43, 0, none⟩)), (15, .int .i64 ((k : Nat) : Int))]) (fun k w => (Hd w0 F0 w [blk b26 [.slice A1 C.J.us.length c2, .int .i64 C.J.parts, .slice A6 C.J.map.length c7, .slice A11 C.J.comb.length c12, .slice A16 C.J.red.length c17, .int .i64 C.J.chunk, .int .i64 C.J.window, .int .i64 C.J.fuel, .slice A21 C.J.marks.length c22, .int .i64 C.w, .int .i64 C.t, .int .i64 C.o] 28, mprI b38 C.J M1, mprI b43 C.J M2] [rsl (kHd kPair) (.slice A1 C.J.us.length c2) C.J.us, rsl (kSl kPair) (.slice A1 C.J.us.length c2) ss, rsl kIns (.slice A6 C.J.map.length c7) C.J.map, rsl kIns (.slice A11 C.J.comb.length c12) C.J.comb, rsl kIns (.slice A16 C.J.red.length c17) C.J.red, rsl (kInt .i64) (.slice A21 C.J.marks.length c22) C.J.marks, gl]) ∧ (((k : Nat) : Int) ≤ C.J.parts)) (fun k => C.J.parts.toNat - k) 0 ⟨rfl, rfl, rfl, rfl, rfl, trivial⟩ ⟨H, by (try dsimp only); omega⟩ ?_
      rintro k w ⟨H, hk⟩
      refine c_seq (c_seq (c_reg (s_1 rfl (s_val rfl rfl (r_fa rfl fo28_0 rfl) (s_val rfl rfl (r_fa rfl fo26_1 rfl) (s_val rfl rfl (r_ld rfl ty3 rfl (H.cellI 0 rfl rfl)) (s_val rfl rfl (r_lt rfl rfl rfl) (s_nil (q_then ?_)))))))))
      refine c_dec rfl (fun h65 => ?_) (fun h65 => ?_)
      ·refine c_skip (q_then (c_seq (c_block (c_seq (c_reg (s_val rfl rfl (r_fa rfl fo28_0 rfl) (s_val rfl rfl (r_ldA (cs := [.slice A1 C.J.us.length c2, .int .i64 C.J.parts, .slice A6 C.J.map.length c7, .slice A11 C.J.comb.length c12, .slice A16 C.J.red.length c17, .int .i64 C.J.chunk, .int .i64 C.J.window, .int .i64 C.J.fuel, .slice A21 C.J.marks.length c22]) rfl ty26 rfl rfl (H.cellsI 0 rfl rfl)) (s_k 2 rfl (sc (jrun_ok (.slice A1 C.J.us.length c2) (.slice A6 C.J.map.length c7) (.slice A11 C.J.comb.length c12) (.slice A16 C.J.red.length c17) (.slice A21 C.J.marks.length c22) C.J hJ m33 ((k : Nat) : Int) (by first | assumption | omega)) H (lR 0 rfl (lR 2 rfl (lR 3 rfl (lR 4 rfl (lR 5 rfl (lR 6 rfl l0)))))) rfl rfl (e_fn kn54 rfl rfl) ?_)))))))))
       rintro _ _ w ⟨u66, rfl, rfl⟩ H
       replace H := H.h1 (A := osl kPair u66 ((runJ dg C.J m33 ((k : Nat) : Int)).1))
       refine s_k 5 rfl (s_nil (q_then (c_seq (c_reg (s_k 2 rfl ?_)))))
       replace H := H.p2
       refine sc (joined_ok b38 C.J M1 k (by first | assumption | omega) (by first | assumption | omega) (by first | assumption | omega)) H l0 rfl rfl (e_fn kn55 rfl rfl) ?_
       rintro v67 _ w rfl H
       refine s_1 rfl (sc (samePairs_ok v67 u66 (onlyM dg C.J M1.sp k) ((runJ dg C.J m33 ((k : Nat) : Int)).1)) H (lA 0 rfl own_rd (lA 2 rfl own_rd l0)) rfl rfl (e_fn kn25 rfl rfl) ?_)
       rintro _ _ w ⟨rfl, rfl⟩ H
       refine s_val rfl rfl (r_notP rfl rfl) (s_1 rfl ?_)
       refine s_dec (d := 127) rfl (fun h68 => ?_) (fun h68 => ?_)
       ·exact absurd (by rw [run_is hr0]; first | rw [hsp1] | rw [hsp2]) h68
       ·refine s_k 2 rfl ?_
        replace H := H.p4
        replace H : Hd _ _ _ [mprI b43 C.J M2, osl kPair v67 (onlyM dg C.J M1.sp k), mprI b38 C.J M1, osl kPair u66 ((runJ dg C.J m33 ((k : Nat) : Int)).1), blk b26 [.slice A1 C.J.us.length c2, .int .i64 C.J.parts, .slice A6 C.J.map.length c7, .slice A11 C.J.comb.length c12, .slice A16 C.J.red.length c17, .int .i64 C.J.chunk, .int .i64 C.J.window, .int .i64 C.J.fuel, .slice A21 C.J.marks.length c22, .int .i64 C.w, .int .i64 C.t, .int .i64 C.o] 28] [rsl (kHd kPair) (.slice A1 C.J.us.length c2) C.J.us, rsl (kSl kPair) (.slice A1 C.J.us.length c2) ss, rsl kIns (.slice A6 C.J.map.length c7) C.J.map, rsl kIns (.slice A11 C.J.comb.length c12) C.J.comb, rsl kIns (.slice A16 C.J.red.length c17) C.J.red, rsl (kInt .i64) (.slice A21 C.J.marks.length c22) C.J.marks, gl] := H
        refine sc (joined_ok b43 C.J M2 k (by first | assumption | omega) (by first | assumption | omega) (by first | assumption | omega)) H l0 rfl rfl (e_fn kn55 rfl rfl) ?_
        rintro v69 _ w rfl H
        refine s_1 rfl (sc (samePairs_ok v69 u66 (onlyM dg C.J M2.sp k) ((runJ dg C.J m33 ((k : Nat) : Int)).1)) H (lA 0 rfl own_rd (lA 4 rfl own_rd l0)) rfl rfl (e_fn kn25 rfl rfl) ?_)
        rintro _ _ w ⟨rfl, rfl⟩ H
        replace H := H.h1 (A := osl kPair v69 (onlyM dg C.J M2.sp k))
        refine s_val rfl rfl (r_notP rfl rfl) (s_1 rfl (s_nil (q_then ?_)))
        replace H := H.p5.p4.p3.k3
        refine c_dec rfl (fun h70 => ?_) (fun h70 => ?_)
        ·exact absurd (by rw [run_is hr0]; first | rw [hsp1] | rw [hsp2]) h70
        ·refine c_skip (q_blockN (q_then (c_reg (s_1 rfl (s_val rfl rfl (r_add (z := ((k + 1 : Nat) : Int)) rfl rfl rfl (by rw [w64 (by omega) (by omega)]; omega)) (s_1 rfl (s_nil ?_)))))))
         replace H := H.p1.p2
         exact q_round (s := k) (k + 1) ⟨rfl, rfl, rfl, rfl, rfl, trivial⟩ ⟨H, by (try dsimp only); omega⟩ (by (try dsimp only); omega)
      ·refine c_exit (q_thenE (q_thenE (q_blockE (q_then ?_))))
       replace H := H.nil
       refine c_seq (c_reg (sc (awake19_ok) H (lR 6 rfl l0) rfl rfl (e_fn kn26 rfl rfl) ?_))
       rintro _ _ w ⟨rfl, rfl⟩ H
       exact s_1 rfl (s_nil (q_then (c_ret (q_ret1 rfl rfl (fin ⟨rfl, rfl⟩ H)))))
theorem mapperWhole_ok (vS vM vC vR vK : Value) (ss : List (List Pair)) (map comb red : List Ins) (marks : List Int) (parts chunk window fuel : Int) (wj : ((∀ x ∈ ss, (∀ p ∈ x, p.key.size ≤ 9223372036854775807 ∧ p.val.size ≤ 9223372036854775807) ∧ x.length ≤ 9223372036854775807) ∧ ss.length ≤ 9223372036854775807) ∧ ((∀ p ∈ map, In64 p.op ∧ In64 p.a ∧ p.s.size ≤ 9223372036854775807) ∧ map.length ≤ 9223372036854775807) ∧ ((∀ p ∈ comb, In64 p.op ∧ In64 p.a ∧ p.s.size ≤ 9223372036854775807) ∧ comb.length ≤ 9223372036854775807) ∧ ((∀ p ∈ red, In64 p.op ∧ In64 p.a ∧ p.s.size ≤ 9223372036854775807) ∧ red.length ≤ 9223372036854775807) ∧ (∀ x ∈ marks, In64 x) ∧ marks.length ≤ 9223372036854775807) (wn : In64 parts ∧ In64 chunk ∧ In64 window ∧ In64 fuel) (cw ct co : Int) (wc : In64 cw ∧ In64 ct ∧ In64 co) (k1 : Int) (g1 : In64 k1) (k2 : Int) (g2 : In64 k2) (k3 : Int) (g3 : In64 k3) :
  Cn Tryz.prog 8 [.agg #[vS, .int .i64 parts, vM, vC, vR, .int .i64 chunk, .int .i64 window, .int .i64 fuel, vK, .int .i64 cw, .int .i64 ct, .int .i64 co], .int .i64 k1, .int .i64 k2, .int .i64 k3] [] [rsl (kSl kPair) vS ss, rsl kIns vM map, rsl kIns vC comb, rsl kIns vR red, rsl (kInt .i64) vK marks, gl] (fun v Bs => v = .bool true ∧ Bs = []) :=
 Cn.heads0 fun us hus => mapperWholeC_ok vS vM vC vR vK ⟨⟨us, parts, map, comb, red, chunk, window, fuel, marks⟩, cw, ct, co⟩ ss (fun i hi => (wj.2.1.1 i hi).2.1) (fun i hi => (wj.2.2.1.1 i hi).2.1) (fun i hi => (wj.2.2.2.1.1 i hi).2.1) k1 g1 k2 g2 k3 g3

theorem v_foot {P : Program} {W : World} {name : String} {g : Nat} {cs : Array Value} (hg : P.globalNamed name = some g) (h : W.var? P name = some cs) : Old W g := by
 unfold World.var? at h
 rw [hg] at h
 simp only [Option.bind_some] at h
 show g < W.heap.size
 rcases Nat.lt_or_ge g W.heap.size with h' | h'
 ·exact h'
 ·simp [Array.getElem?_eq_none h'] at h
theorem star2 : "*" ++ "errors.errorString" = "*errors.errorString" := by decide
theorem ptrRow (u : TypeId) (h : Tryz.prog.typeName? 3 u = some "*errors.errorString") : u = 409 := typeName_ptr_named (nm := "errors.errorString") (by rw [star2]; kernel_rfl) (by kernel_rfl) (by decide) u (by rw [star2]; exact h)
theorem gn0 : Tryz.prog.globalNamed "internal/strconv.uint64pow10" = some 2 := by kernel_rfl
theorem gt0 : (Tryz.prog.globals[2]?).map (·.type) = some 406 := by kernel_rfl
theorem gn1 : Tryz.prog.globalNamed "strconv.ErrSyntax" = some 0 := by kernel_rfl
theorem gt1 : (Tryz.prog.globals[0]?).map (·.type) = some 370 := by kernel_rfl
theorem gn2 : Tryz.prog.globalNamed "strconv.ErrRange" = some 1 := by kernel_rfl
theorem gt2 : (Tryz.prog.globals[1]?).map (·.type) = some 370 := by kernel_rfl
theorem lu370 : Tryz.prog.underlying 370 = some (.interface (Tryz.prog.methodsAt 370)) := by kernel_rfl
theorem lu406 : Tryz.prog.underlying 406 = some (.array 20 270) := by kernel_rfl
theorem lu270 : Tryz.prog.underlying 270 = some (.int .u64) := by kernel_rfl
theorem lu409 : Tryz.prog.underlying 409 = some (.pointer 411) := by kernel_rfl
theorem lu411 : Tryz.prog.underlying 411 = some (.struct #[⟨ "s", 9, 0, false, "", "errors", 0⟩]) := by kernel_rfl
theorem lu9 : Tryz.prog.underlying 9 = some (.string) := by kernel_rfl
theorem lc270 : Tryz.prog.cellsOf 270 = 1 := by kernel_rfl
theorem lc406 : Tryz.prog.cellsOf 406 = 20 := by kernel_rfl
theorem lc411 : Tryz.prog.cellsOf 411 = 1 := by kernel_rfl
theorem lc9 : Tryz.prog.cellsOf 9 = 1 := by kernel_rfl
theorem gl_laid {W : World} (h : laidMet Tryz.prog Rows.checkOrdersRow.laid W) : gl.P W (Old W) := by
 refine ⟨?_, ?_, ?_⟩
 ·have h0 : laidMet Tryz.prog [("internal/strconv.uint64pow10", Lib.tabData .u64 Lib.pow10Tab)] W := by
   have e : Rows.checkOrdersRow.laid.filter (fun x => x.1 == "internal/strconv.uint64pow10") = [("internal/strconv.uint64pow10", Lib.tabData .u64 Lib.pow10Tab)] := by kernel_rfl
   have := h.filter (fun x => x.1 == "internal/strconv.uint64pow10"); rw [e] at this; exact this
  have hv := Lib.tabIs_of_head gn0 gt0 lu406 lu270 lc270 lc406 h0
  exact ⟨_, gn0, v_foot gn0 hv, _, hv, rfl⟩
 ·have h0 : laidMet Tryz.prog [("strconv.ErrSyntax", Rows.laid_strconv_ErrSyntax)] W := by
   have e : Rows.checkOrdersRow.laid.filter (fun x => x.1 == "strconv.ErrSyntax") = [("strconv.ErrSyntax", Rows.laid_strconv_ErrSyntax)] := by kernel_rfl
   have := h.filter (fun x => x.1 == "strconv.ErrSyntax"); rw [e] at this; exact this
  obtain ⟨a0, s0, hv, -⟩ := laid_sentinel h0 gn1 gt1 lu370 ptrRow lu409 lu411 rfl rfl lu9 lc411 lc9
  exact ⟨_, gn1, v_foot gn1 hv, _, hv, _, _, rfl⟩
 ·have h0 : laidMet Tryz.prog [("strconv.ErrRange", Rows.laid_strconv_ErrRange)] W := by
   have e : Rows.checkOrdersRow.laid.filter (fun x => x.1 == "strconv.ErrRange") = [("strconv.ErrRange", Rows.laid_strconv_ErrRange)] := by kernel_rfl
   have := h.filter (fun x => x.1 == "strconv.ErrRange"); rw [e] at this; exact this
  obtain ⟨a0, s0, hv, -⟩ := laid_sentinel h0 gn2 gt2 lu370 ptrRow lu409 lu411 rfl rfl lu9 lc411 lc9
  exact ⟨_, gn2, v_foot gn2 hv, _, hv, _, _, rfl⟩

end Go.Proofs.YthgehekecfpikaaGreatDoor.X
