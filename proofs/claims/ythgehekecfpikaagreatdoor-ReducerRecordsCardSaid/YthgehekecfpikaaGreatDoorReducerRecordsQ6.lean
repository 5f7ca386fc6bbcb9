/- ReducerRecords: texts S2, N7, N8, N9, N10, L2, L3, joined by a program of ours; what nothing names is left out. -/
import Derived.Test.YthgehekecfpikaaGreatDoorReducerRecordsQ5
set_option linter.unusedVariables false
set_option linter.unusedSimpArgs false
namespace Go.Proofs.YthgehekecfpikaaGreatDoor.X
open Go
set_option maxHeartbeats 4000000 in
theorem stNext_ok (sb : Nat) (st : Stg) (a : Int) (b : Int) :
    Cn Tryz.prog 122 [.pointer (some ⟨sb, 0, none⟩), .int .i64 a, .int .i64 b] [stgI 253 sb (st)] [] (fun v Bs => v = .int .i64 (sgNext st a b) ∧ Bs = [stgI 253 sb (st)]) := by
 intro w0 F0 H
 refine enter Tryz.func122 rfl rfl (Nat.le_of_ble_eq_true rfl) (c_seq (c_reg (s_1 rfl (s_nil (q_then (c_seq (c_seq (c_reg (s_1 rfl (s_val rfl rfl (r_peq rfl un183 rfl rfl) (s_nil (q_then (c_no rfl (c_skip (q_then (c_seq ?_))))))))))))))))
 obtain ⟨mb1, kvs2, v3, us4, hst5, hnd6, hwk7, hlk8, hof9, H⟩ := H.stgOpen (a, b)
 replace H : Hd _ _ _ [blk sb [.map (some mb1)] 253, mapK key2 mb1 (kvs2.map stV), osl (kHd kPair) v3 us4, bigS stO (stK (a, b) kvs2)] [] := H
 obtain ⟨A10, c11, rfl, hc12, hm13, hp14⟩ := H.fA 2 rfl
 refine c_reg (s_1 rfl (s_val rfl rfl (r_nilP rfl rfl) (s_val rfl rfl (r_fa rfl fo253_0 rfl) (s_val rfl rfl (r_ld rfl ty251 rfl (H.cellI 0 rfl rfl)) (s_k 2 rfl (s_val rfl rfl (r_bd (parts := [(0, .tmp 13), (1, .tmp 14)]) (vs := [.int .i64 a, .int .i64 b]) (cs := [.int .i64 a, .int .i64 b]) rfl bd250 rfl rfl) (s_val rfl rfl (r_lookK1 zkt250 rfl un251 zr22 rfl (a, b) rfl H 1 rfl (hlk8)) (s_val rfl rfl (r_lenL rfl un22 rfl) (s_1 rfl (s_nil (q_then (c_ret (q_ret1 rfl rfl ?_)))))))))))))
 have e : ((us4.length : Nat) : Int) = sgNext st a b := by unfold sgNext; rw [← hof9]; simp
 replace H := Hd.stgShut hst5 hnd6 hwk7 H
 replace H := H.h1 (A := stgI 253 sb (st))
 exact fin ⟨by rw [e] <;> rfl, rfl⟩ H
theorem sgOf_add (a b : Int) (x : List Pair) : ∀ st : Stg, sgOf (sgAdd st a b x) a b = sgOf st a b ++ [x]
 | [] => by simp [sgAdd, sgOf]
 | e :: s => by
  show sgOf (if e.1.1 = a ∧ e.1.2 = b then (e.1, e.2 ++ [x]) :: s else e :: sgAdd s a b x) a b = (if e.1.1 = a ∧ e.1.2 = b then e.2 else sgOf s a b) ++ [x]
  by_cases h : e.1.1 = a ∧ e.1.2 = b
  ·rw [if_pos h, if_pos h]; exact if_pos h
  ·rw [if_neg h, if_neg h]; exact (if_neg h).trans (sgOf_add a b x s)
theorem sgNext_add (st : Stg) (a b : Int) (x : List Pair) : sgNext (sgAdd st a b x) a b = sgNext st a b + 1 := by
 unfold sgNext
 rw [sgOf_add, List.length_append]
 simp
set_option maxHeartbeats 4000000 in
theorem stPut_ok (sb : Nat) (st : Stg) (a : Int) (b : Int) (q : Int) (vps : Value) (ps : List Pair) (hps : ps.length ≤ 1000000) :
    Cn Tryz.prog 121 [.pointer (some ⟨sb, 0, none⟩), .int .i64 a, .int .i64 b, .int .i64 q, vps] [stgI 253 sb (st)] [rsl kPair vps ps] (fun v Bs => v = .int .i64 (sgNext (sgPut st a b q ps) a b) ∧ Bs = [stgI 253 sb (sgPut st a b q ps)]) := by
 intro w0 F0 H
 obtain ⟨A1, c2, rfl, hc3, hm4, hp5⟩ := H.fR 0 rfl
 refine enter Tryz.func121 rfl rfl (Nat.le_of_ble_eq_true rfl) (c_seq (c_reg (s_1 rfl (s_nil (q_then ?_)))))
 replace H : Hd _ _ _ [stgI 253 sb (st)] [rsl kPair (.slice A1 ps.length c2) ps] := H
 refine c_seq (c_reg (s_k 2 rfl (s_val rfl rfl (r_bd (parts := [(0, .tmp 13), (1, .tmp 14)]) (vs := [.int .i64 a, .int .i64 b]) (cs := [.int .i64 a, .int .i64 b]) rfl bd250 rfl rfl) (s_alloc rfl rfl rfl zr250 H (fun b6 w H => (s_st rfl rfl rfl ty250 rfl rfl H rfl (Nat.le_of_ble_eq_true rfl) (fun u hu => by simp [Value.cells] at hu; rcases hu with rfl | rfl <;> rfl) (fun w H => ?_)))))))
 replace H := H.h1 (A := blk b6 [.int .i64 a, .int .i64 b] 250)
 refine s_nil (q_then (c_seq (c_reg (s_k 3 rfl ?_))))
 replace H := H.p1
 refine sc (stNext_ok sb st a b) H l0 rfl rfl (e_fn kn122 rfl rfl) ?_
 rintro _ _ w ⟨rfl, rfl⟩ H
 refine s_1 rfl (s_nil (q_then (c_seq (c_seq (c_reg (s_1 rfl (s_val rfl rfl (r_peq rfl un183 rfl rfl) (s_k 3 rfl (s_val rfl rfl (r_ne rfl rfl rfl) (s_k 2 rfl ?_))))))))))
 refine s_dec (d := 27) rfl (fun h7 => ?_) (fun h7 => ?_)
 ·refine s_k 12 rfl (s_k 7 rfl (s_nil (q_then (c_yes rfl (c_seq (c_reg (s_k 2 rfl (s_nil (q_then (c_ret (q_thenR (q_ret1 rfl rfl ?_))))))))))))
  have e : sgPut st a b q ps = st := if_neg (fun h => by obtain ⟨h1, h2, h3, h4⟩ := h; omega)
  replace H := H.k1
  exact fin ⟨by rw [e] <;> rfl, by rw [e] <;> rfl⟩ H
 ·refine s_1 rfl (s_val rfl rfl (r_lt rfl rfl rfl) (s_k 2 rfl ?_))
  refine s_dec (d := 31) rfl (fun h8 => ?_) (fun h8 => ?_)
  ·refine s_k 12 rfl (s_k 3 rfl (s_nil (q_then (c_yes rfl (c_seq (c_reg (s_k 2 rfl (s_nil (q_then (c_ret (q_thenR (q_ret1 rfl rfl ?_))))))))))))
   have e : sgPut st a b q ps = st := if_neg (fun h => by obtain ⟨h1, h2, h3, h4⟩ := h; omega)
   replace H := H.k1
   exact fin ⟨by rw [e] <;> rfl, by rw [e] <;> rfl⟩ H
  ·refine s_1 rfl (s_val rfl rfl (r_ge rfl rfl rfl) (s_k 2 rfl ?_))
   refine s_dec (d := 35) rfl (fun h9 => ?_) (fun h9 => ?_)
   ·refine s_k 11 rfl (s_nil (q_then (c_yes rfl (c_seq (c_reg (s_k 2 rfl (s_nil (q_then (c_ret (q_thenR (q_ret1 rfl rfl ?_)))))))))))
    have e : sgPut st a b q ps = st := if_neg (fun h => by obtain ⟨h1, h2, h3, h4⟩ := h; omega)
    replace H := H.k1
    exact fin ⟨by rw [e] <;> rfl, by rw [e] <;> rfl⟩ H
   ·refine s_1 rfl (s_val rfl rfl (r_lt rfl rfl rfl) (s_k 2 rfl ?_))
    refine s_dec (d := 39) rfl (fun h10 => ?_) (fun h10 => ?_)
    ·refine s_k 7 rfl (s_nil (q_then (c_yes rfl (c_seq (c_reg (s_k 2 rfl (s_nil (q_then (c_ret (q_thenR (q_ret1 rfl rfl ?_)))))))))))
     have e : sgPut st a b q ps = st := if_neg (fun h => by obtain ⟨h1, h2, h3, h4⟩ := h; omega)
     replace H := H.k1
     exact fin ⟨by rw [e] <;> rfl, by rw [e] <;> rfl⟩ H
    ·refine s_1 rfl (s_val rfl rfl (r_gt rfl rfl rfl) (s_k 2 rfl ?_))
     refine s_dec (d := 43) rfl (fun h11 => ?_) (fun h11 => ?_)
     ·refine s_k 3 rfl (s_nil (q_then (c_yes rfl (c_seq (c_reg (s_k 2 rfl (s_nil (q_then (c_ret (q_thenR (q_ret1 rfl rfl ?_)))))))))))
      have e : sgPut st a b q ps = st := if_neg (fun h => by obtain ⟨h1, h2, h3, h4⟩ := h; omega)
      replace H := H.k1
      exact fin ⟨by rw [e] <;> rfl, by rw [e] <;> rfl⟩ H
     ·refine s_1 rfl (s_val rfl rfl (r_ge rfl rfl rfl) (s_1 rfl (s_nil (q_then ?_))))
      refine c_dec rfl (fun h12 => ?_) (fun h12 => ?_)
      ·refine c_seq (c_reg (s_k 2 rfl (s_nil (q_then (c_ret (q_thenR (q_ret1 rfl rfl ?_)))))))
       have e : sgPut st a b q ps = st := if_neg (fun h => by obtain ⟨h1, h2, h3, h4⟩ := h; omega)
       replace H := H.k1
       exact fin ⟨by rw [e] <;> rfl, by rw [e] <;> rfl⟩ H
      ·refine c_skip (q_then (c_seq ?_))
       have hmay : sgMay st a b q := ⟨by omega, by omega, by omega, by omega⟩
       have hq0 := hmay.1
       have hq1 := hmay.2.2.2
       unfold sgNext at hq0
       obtain ⟨mb13, kvs14, v15, us16, hst17, hnd18, hwk19, hlk20, hof21, H⟩ := H.stgOpen (a, b)
       replace H := H.h4 (A := blk sb [.map (some mb13)] 253) (B := mapK key2 mb13 (kvs14.map stV)) (C := osl (kHd kPair) v15 us16) (D := bigS stO (stK (a, b) kvs14))
       have hul : us16.length = (sgOf st a b).length := by have := congrArg List.length hof21; simpa using this
       obtain ⟨A22, c23, rfl, hc24, hm25, hp26⟩ := H.fA 2 rfl
       replace H := H.p4.p4.p2
       refine c_ord (.e 0 (.e 1 (.e 2 (.e 3 (.e 4 (.e 5 (.m 6 (.m 7 (.m 8 (.e 9 (.e 11 (.m 10 (.m 12 .z))))))))))))) (fun w => ∃ Ar, Hd w0 F0 w (blk sb [.map (some mb13)] 253 :: bigS stO (stK (a, b) kvs14) :: blk b6 [.int .i64 a, .int .i64 b] 250 :: Ar) [rsl kPair (.slice A1 ps.length c2) ps]) mo (by kernel_rfl) (fun w H => ⟨_, H⟩) H (fun w H => (d_1 rfl (d_val rfl rfl rfl (fun w ⟨Ar, H⟩ => r_nilP rfl rfl) (d_val rfl rfl rfl (fun w ⟨Ar, H⟩ => r_fa rfl fo253_0 rfl) (d_val rfl rfl rfl (fun w ⟨Ar, H⟩ => r_ld rfl ty251 rfl (H.cellI 0 rfl rfl)) (d_val rfl rfl rfl (fun w ⟨Ar, H⟩ => r_ldA (cs := [.int .i64 a, .int .i64 b]) rfl ty250 rfl rfl (H.cellsI 2 rfl rfl)) (d_1 rfl (d_main rfl (sc (clone_ok (.slice A1 ps.length c2) ps (by first | assumption | omega)) H (lR 0 rfl l0) rfl rfl (e_fn kn123 rfl rfl) ?_)))))))))
       rintro v27 _ w rfl H
       replace H := H.h1 (A := osl kPair v27 ps) |>.p3 |>.p3 |>.p3
       refine d_back ⟨_, H⟩ (d_main rfl ?_)
       obtain ⟨A29, c30, rfl, hc31, hm32, hp33⟩ := H.fA 3 rfl
       refine s_bsl (parts := [(0, .tmp 55)]) (vs := [.slice A29 ps.length c30]) (cs := [.slice A29 ps.length c30]) rfl rfl rfl sl22 zr35 rfl (by decide) (by decide) rfl rfl H (fun b28 w H => ?_)
       replace H : Hd _ _ _ [blk b28 [.slice A29 ps.length c30] 35, blk sb [.map (some mb13)] 253, bigS stO (stK (a, b) kvs14), blk b6 [.int .i64 a, .int .i64 b] 250, osl kPair (.slice A29 ps.length c30) ps, mapK key2 mb13 (kvs14.map stV), osl (kHd kPair) (.slice A22 us16.length c23) us16] [rsl kPair (.slice A1 ps.length c2) ps] := H
       replace H := H.p3.p3.p3
       refine d_back ⟨_, H⟩ (d_main rfl ?_)
       replace H := H.p5
       refine s_mentK zkt250 rfl rfl rfl un251 zr22 rfl (a, b) rfl H (fun st34 w H => ?_)
       rw [show (lookK (a, b) (kvs14.map stV)).getD (.slice none 0 0) = (.slice A22 us16.length c23) from hlk20] at H ⊢
       replace H : Hd _ _ _ [mapE key2 mb13 (setK (a, b) (.slice A22 us16.length c23) (kvs14.map stV)) (a, b) st34, blk sb [.map (some mb13)] 253, bigS stO (stK (a, b) kvs14), blk b6 [.int .i64 a, .int .i64 b] 250, blk b28 [.slice A29 ps.length c30] 35, osl kPair (.slice A29 ps.length c30) ps, osl (kHd kPair) (.slice A22 us16.length c23) us16] [rsl kPair (.slice A1 ps.length c2) ps] := H
       replace H := H.p3.p3.p3
       refine d_back ⟨_, H⟩ (d_1 rfl (d_1 rfl (d_main rfl ?_)))
       replace H := H.p6.p6.p6.p2
       refine s_appH rfl rfl rfl sl22 zr35 rfl (by decide) rfl rfl H (by first | omega | (simp only [List.length_append, List.length_cons, List.length_nil]; omega)) (fun v35 w H => ?_)
       replace H := H.h1 (A := osl (kHd kPair) v35 (us16 ++ [((.slice A29 ps.length c30 : Value), ps)])) |>.p3 |>.p3 |>.p3
       refine d_back ⟨_, H⟩ (d_main rfl ?_)
       replace H := H.p4
       refine s_mputK rfl rfl rfl rfl (a, b) rfl rfl zkt250.inj H (fun w H => ?_)
       replace H := H.h1 (A := mapK key2 mb13 (setK (a, b) v35 (setK (a, b) (.slice A22 us16.length c23) (kvs14.map stV))))
       rw [setK_setK] at H
       replace H : Hd _ _ _ [mapK key2 mb13 (setK (a, b) v35 (kvs14.map stV)), blk sb [.map (some mb13)] 253, bigS stO (stK (a, b) kvs14), blk b6 [.int .i64 a, .int .i64 b] 250, osl (kHd kPair) v35 (us16 ++ [((.slice A29 ps.length c30 : Value), ps)])] [rsl kPair (.slice A1 ps.length c2) ps] := H
       replace H := H.p3.p3.p3
       refine d_back ⟨_, H⟩ (d_nil (q_then (c_seq (c_reg (s_1 rfl (s_val rfl rfl (r_add (z := (sgNext st a b) + 1) rfl rfl rfl (w64 (by omega) (by omega))) (s_1 rfl (s_nil (q_then (c_ret (q_ret1 rfl rfl ?_)))))))))))
       replace H := H.p1.p4.p4.p3
       replace H := Hd.stgPut (k := (a, b)) (x := ps) hst17 hnd18 hof21 (by simp) H
       replace H := H.h1 (A := stgI 253 sb (sgAdd st a b ps)) |>.k1
       have e : sgPut st a b q ps = sgAdd st a b ps := if_pos hmay
       have e2 : sgNext (sgAdd st a b ps) a b = sgNext st a b + 1 := sgNext_add st a b ps
       exact fin ⟨by rw [e, e2] <;> rfl, by rw [e] <;> rfl⟩ H
set_option maxHeartbeats 4000000 in
theorem stTake_ok (sb : Nat) (st : Stg) (a : Int) (b : Int) (n : Int) (hb : (sgOf st a b).flatten.length ≤ 1000000) (hb2 : (sgOf st a b).length ≤ 1000000) :
    Cn Tryz.prog 171 [.pointer (some ⟨sb, 0, none⟩), .int .i64 a, .int .i64 b, .int .i64 n] [stgI 253 sb (st)] [] (fun v Bs => ∃ u : Value, v = .tuple #[u, .bool ((sgTake st a b n).isSome)] ∧ Bs = [osl kPair u ((sgTake st a b n).getD []), stgI 253 sb (st)]) := by
 intro w0 F0 H
 refine enter Tryz.func171 rfl rfl (Nat.le_of_ble_eq_true rfl) (c_seq (c_reg (s_k 2 rfl (s_nil (q_then (c_seq (c_seq (c_reg (s_1 rfl (s_val rfl rfl (r_peq rfl un183 rfl rfl) (s_k 2 rfl (s_val rfl rfl (r_lt rfl rfl rfl) (s_k 2 rfl ?_)))))))))))))
 refine s_dec (d := 16) rfl (fun h1 => ?_) (fun h1 => ?_)
 ·refine s_k 7 rfl (s_nil (q_then (c_yes rfl (c_seq (c_reg (s_k 2 rfl (s_nil (q_then (c_ret (q_thenR (q_ret2 rfl rfl rfl ?_)))))))))))
  have e : sgTake st a b n = none := if_pos (by omega)
  replace H := H.newnil kPair
  replace H : Hd _ _ _ [osl kPair (.slice none 0 0) [], stgI 253 sb (st)] [] := H
  replace H : Hd w0 F0 w0 [osl kPair (.slice none 0 0) ((sgTake st a b n).getD []), stgI 253 sb (st)] [] := by rw [e]; exact H
  replace H : Hd _ _ _ [osl kPair (.slice none 0 0) ((sgTake st a b n).getD []), stgI 253 sb (st)] [] := H
  exact fin ⟨_, by rw [e]; rfl, rfl⟩ H
 ·refine s_k 3 rfl (sc (stNext_ok sb st a b) H l0 rfl rfl (e_fn kn122 rfl rfl) ?_)
  rintro _ _ w ⟨rfl, rfl⟩ H
  refine s_1 rfl (s_val rfl rfl (r_ne rfl rfl rfl) (s_1 rfl (s_nil (q_then ?_))))
  replace H : Hd _ _ _ [stgI 253 sb (st)] [] := H
  refine c_dec rfl (fun h2 => ?_) (fun h2 => ?_)
  ·refine c_seq (c_reg (s_k 2 rfl (s_nil (q_then (c_ret (q_thenR (q_ret2 rfl rfl rfl ?_)))))))
   have e : sgTake st a b n = none := if_pos (by omega)
   replace H := H.newnil kPair
   replace H : Hd w0 F0 w [osl kPair (.slice none 0 0) ((sgTake st a b n).getD []), stgI 253 sb (st)] [] := by rw [e]; exact H
   exact fin ⟨_, by rw [e]; rfl, rfl⟩ H
  ·refine c_skip (q_then (c_seq ?_))
   obtain ⟨mb3, kvs4, v5, us6, hst7, hnd8, hwk9, hlk10, hof11, H⟩ := H.stgOpen (a, b)
   replace H := H.h4 (A := blk sb [.map (some mb3)] 253) (B := mapK key2 mb3 (kvs4.map stV)) (C := osl (kHd kPair) v5 us6) (D := bigS stO (stK (a, b) kvs4))
   have hul : us6.length = (sgOf st a b).length := by have := congrArg List.length hof11; simpa using this
   have hfl : flat2 us6 = (sgOf st a b).flatten := by rw [← hof11]; rfl
   have hfb : (flat2 us6).length ≤ 1000000 := by rw [hfl]; exact hb
   obtain ⟨A12, c13, rfl, hc14, hm15, hp16⟩ := H.fA 2 rfl
   refine c_reg (s_1 rfl (s_val rfl rfl (r_nilP rfl rfl) (s_val rfl rfl (r_fa rfl fo253_0 rfl) (s_val rfl rfl (r_ld rfl ty251 rfl (H.cellI 0 rfl rfl)) (s_k 2 rfl (s_val rfl rfl (r_bd (parts := [(0, .tmp 28), (1, .tmp 29)]) (vs := [.int .i64 a, .int .i64 b]) (cs := [.int .i64 a, .int .i64 b]) rfl bd250 rfl rfl) (s_val rfl rfl (r_lookK1 zkt250 rfl un251 zr22 rfl (a, b) rfl H 1 rfl (hlk10)) (sc (join_ok (.slice A12 us6.length c13) us6 (by first | assumption | omega) (by first | assumption | omega)) H (lA 2 rfl own_rd l0) rfl rfl (e_fn kn127 rfl rfl) ?_))))))))
   rintro v17 _ w rfl H
   replace H := H.h1 (A := osl kPair v17 (flat2 us6))
   refine s_k 2 rfl (s_nil (q_then (c_ret (q_ret2 rfl rfl rfl ?_))))
   replace H := H.p4.p4.p4.p4
   replace H := Hd.stgShut hst7 hnd8 hwk9 H
   replace H := H.h1 (A := stgI 253 sb (st))
   have e : sgTake st a b n = some (sgOf st a b).flatten := if_neg (by omega)
   replace H : Hd w0 F0 w [stgI 253 sb (st), osl kPair v17 ((sgTake st a b n).getD [])] [] := by rw [e, Option.getD_some, ← hfl]; exact H
   replace H := H.p1
   exact fin ⟨_, by rw [e]; rfl, rfl⟩ H
set_option maxHeartbeats 4000000 in
theorem stCount_ok (sb : Nat) (st : Stg) :
    Cn Tryz.prog 130 [.pointer (some ⟨sb, 0, none⟩)] [stgI 253 sb (st)] [] (fun v Bs => v = .int .i64 ((st.length : Nat) : Int) ∧ Bs = [stgI 253 sb (st)]) := by
 intro w0 F0 H
 refine enter Tryz.func130 rfl rfl (Nat.le_of_ble_eq_true rfl) (c_seq (c_reg (s_1 rfl (s_nil (q_then (c_seq (c_seq (c_reg (s_1 rfl (s_val rfl rfl (r_peq rfl un183 rfl rfl) (s_nil (q_then (c_no rfl (c_skip (q_then (c_seq ?_))))))))))))))))
 obtain ⟨mb1, kvs2, hst3, hnd4, H⟩ := H.stgA
 replace H : Hd _ _ _ [blk sb [.map (some mb1)] 253, mapK key2 mb1 (kvs2.map stV), bigS stO kvs2] [] := H
 refine c_reg (s_1 rfl (s_val rfl rfl (r_nilP rfl rfl) (s_val rfl rfl (r_fa rfl fo253_0 rfl) (s_val rfl rfl (r_ld rfl ty251 rfl (H.cellI 0 rfl rfl)) (s_val rfl rfl (r_lenK rfl un251 rfl H 1 rfl) (s_1 rfl (s_nil (q_then (c_ret (q_ret1 rfl rfl ?_))))))))))
 have e : (kvs2.map stV).length = st.length := by rw [← hst3]; simp
 replace H := Hd.stgC (st := st) hst3 H
 replace H := H.h1 (A := stgI 253 sb (st))
 exact fin ⟨by rw [e] <;> rfl, rfl⟩ H
set_option maxHeartbeats 4000000 in
theorem stDrop_ok (sb : Nat) (st : Stg) (a : Int) :
    Cn Tryz.prog 172 [.pointer (some ⟨sb, 0, none⟩), .int .i64 a] [stgI 253 sb (st)] [] (fun v Bs => ∃ z : Int, v = .int .i64 z ∧ Bs = [stgI 253 sb (sgDrop st a)]) := by
 intro w0 F0 H
 refine enter Tryz.func172 rfl rfl (Nat.le_of_ble_eq_true rfl) (c_seq (c_reg (s_1 rfl (s_nil (q_then (c_seq (c_seq (c_reg (s_1 rfl (s_val rfl rfl (r_peq rfl un183 rfl rfl) (s_nil (q_then (c_no rfl (c_skip (q_then (c_seq ?_))))))))))))))))
 obtain ⟨mb1, kvs2, hst3, hnd4, H⟩ := H.stgA
 replace H : Hd _ _ _ [blk sb [.map (some mb1)] 253, mapK key2 mb1 (kvs2.map stV), bigS stO kvs2] [] := H
 refine c_reg (s_1 rfl (s_val rfl rfl (r_nilP rfl rfl) (s_val rfl rfl (r_fa rfl fo253_0 rfl) (s_val rfl rfl (r_ld rfl ty251 rfl (H.cellI 0 rfl rfl)) (s_val rfl rfl (r_lenK rfl un251 rfl H 1 rfl) (s_1 rfl (s_nil (q_then (c_seq (c_seq (c_reg (s_1 rfl (s_val rfl rfl (r_nilP rfl rfl) (s_val rfl rfl (r_fa rfl fo253_0 rfl) (s_val rfl rfl (r_ld rfl ty251 rfl (H.cellI 0 rfl rfl)) ?_)))))))))))))))
 replace H := H.p1
 refine s_rangeK rfl rfl rfl un251 rfl H (fun it5 w H => ?_)
 replace H := H.h1 (A := mapR key2 mb1 it5 (kvs2.map stV) [])
 refine s_nil (q_then (c_block ?_))
 replace H := H.p1
 refine c_loop (σ := List StE × List (Nat × (Int × Int))) (fun (kvs, ps) => [(0, .pointer (some ⟨sb, 0, none⟩)), (1, .int .i64 a), (4, .int .i64 0), (5, .int .i64 (((kvs2.map stV).length : Nat) : Int)), (18, .pointer (some ⟨it5, 0, none⟩))]) (fun (kvs, ps) w => (Hd w0 F0 w [blk sb [.map (some mb1)] 253, mapR key2 mb1 it5 (kvs.map stV) ps, bigS stO kvs] []) ∧ (NodK (kvs.map stV)) ∧ (offS a kvs = offS a kvs2) ∧ (seenS a kvs ps)) (fun (kvs, ps) => unS kvs ps) (kvs2, []) ⟨rfl, rfl, rfl, rfl, rfl, trivial⟩ ⟨H, hnd4, rfl, fun e _ h => by cases h⟩ ?_
 rintro ⟨kvs, ps⟩ w ⟨H, hn, ho, hs⟩
 refine c_seq (c_reg ?_)
 replace H := H.p1.h3 (A := mapR key2 mb1 it5 (kvs.map stV) ps) (B := blk sb [.map (some mb1)] 253) (C := bigS stO kvs)
 refine s_nextK zkt250.inj rfl rfl rfl rfl H (fun r6 ps7 w hr8 H => ?_)
 replace H := H.h1 (A := mapR key2 mb1 it5 (kvs.map stV) ps7)
 refine s_val rfl rfl (r_next0 (enc := key2) rfl rfl) (s_nil (q_then (c_seq ?_)))
 refine c_cond (b := r6.isSome) rfl (fun h9 => ?_) (fun h9 => ?_)
 ·obtain ⟨⟨⟨ka10, kb11⟩, pv12⟩, rfl⟩ := Option.isSome_iff_exists.1 h9
  obtain ⟨hpm13, hpn14, s15, rfl⟩ := hr8
  refine c_skip (q_then (c_block (c_seq (c_reg (s_val rfl rfl ((show Run _ _ _ _ _ (.tuple #[.agg #[.int .i64 ka10, .int .i64 kb11], pv12]) _ from r_entryK (p := ((ka10, kb11), pv12)) rfl rfl hpm13 H 0 rfl)) (s_1 rfl (s_alloc rfl rfl rfl zr250 H (fun b16 w H => (s_st rfl rfl rfl ty250 rfl rfl H rfl (Nat.le_of_ble_eq_true rfl) (fun u hu => by simp [Value.cells] at hu; rcases hu with rfl | rfl <;> rfl) (fun w H => ?_))))))))))
  replace H := H.h1 (A := blk b16 [.int .i64 ka10, .int .i64 kb11] 250)
  refine s_nil (q_then (c_seq (c_reg (s_val rfl rfl (r_fa rfl fo250_0 rfl) (s_val rfl rfl (r_ld rfl ty3 rfl (H.cellI 0 rfl rfl)) (s_1 rfl (s_val rfl rfl (r_eq rfl rfl rfl) (s_nil (q_then ?_)))))))))
  refine c_dec rfl (fun h17 => ?_) (fun h17 => ?_)
  ·replace H := H.p3.p3.p2
   refine c_ord (.e 0 (.e 1 (.e 2 (.e 3 (.e 4 (.m 5 .z)))))) (fun w => ∃ Ar, Hd w0 F0 w (blk b16 [.int .i64 ka10, .int .i64 kb11] 250 :: blk sb [.map (some mb1)] 253 :: bigS stO kvs :: Ar) []) mo (by kernel_rfl) (fun w H => ⟨_, H⟩) H (fun w H => (d_1 rfl (d_val rfl rfl rfl (fun w ⟨Ar, H⟩ => r_nilP rfl rfl) (d_val rfl rfl rfl (fun w ⟨Ar, H⟩ => r_fa rfl fo253_0 rfl) (d_val rfl rfl rfl (fun w ⟨Ar, H⟩ => r_ld rfl ty251 rfl (H.cellI 1 rfl rfl)) (d_val rfl rfl rfl (fun w ⟨Ar, H⟩ => r_ldA (cs := [.int .i64 ka10, .int .i64 kb11]) rfl ty250 rfl rfl (H.cellsI 0 rfl rfl)) (d_main rfl ?_)))))))
   replace H := H.p3
   refine s_mdelR zkt250 rfl rfl rfl un251 rfl (ka10, kb11) rfl H (fun w H => ?_)
   replace H := H.h1 (A := mapR key2 mb1 it5 (delK (ka10, kb11) (kvs.map stV)) (ps ++ [(s15, (ka10, kb11))])) |>.p3 |>.p3 |>.p3
   refine d_back ⟨_, H⟩ (d_nil (q_blockN ?_))
   replace H := H.p3.p2.p3.k3
   replace H := Hd.stgX (ka10, kb11) hn H
   rw [stK_V] at H
   replace H : Hd _ _ _ [bigS stO (stK (ka10, kb11) kvs), blk sb [.map (some mb1)] 253, mapR key2 mb1 it5 ((stK (ka10, kb11) kvs).map stV) (ps ++ [(s15, (ka10, kb11))])] [] := H
   replace H := H.p2.p2
   have hn2 : NodK ((stK (ka10, kb11) kvs).map stV) := by rw [← stK_V]; exact del_keys hn
   exact q_round (s := (kvs, ps)) (stK (ka10, kb11) kvs, ps ++ [(s15, (ka10, kb11))]) ⟨rfl, rfl, rfl, rfl, rfl, trivial⟩ ⟨H, hn2, (off_del h17).trans ho, seen_del hs⟩ (by exact un_next hpm13 hpn14 (.inr rfl))
  ·refine c_skip (q_blockN ?_)
   replace H := H.p3.p2.p3.k3
   exact q_round (s := (kvs, ps)) (kvs, ps ++ [(s15, (ka10, kb11))]) ⟨rfl, rfl, rfl, rfl, rfl, trivial⟩ ⟨H, hn, ho, seen_keep hs h17⟩ (by exact un_next hpm13 hpn14 (.inl rfl))
 ·obtain rfl : r6 = none := by cases r6 with | none => rfl | some _ => cases h9
  have hall := hr8.2
  rw [hr8.1] at H
  replace H : Hd _ _ _ [mapR key2 mb1 it5 (kvs.map stV) ps, blk sb [.map (some mb1)] 253, bigS stO kvs] [] := H
  refine c_exit (q_thenE (q_thenE (q_blockE (q_then (c_seq ?_)))))
  replace H := H.mapRK |>.h1 (A := mapK key2 mb1 (kvs.map stV))
  have hend : kvs.map stE = sgDrop st a := by rw [← seen_end hs hall, ho, off_E, hst3]
  refine c_reg (s_k 2 rfl (s_val rfl rfl (r_nilP rfl rfl) (s_val rfl rfl (r_fa rfl fo253_0 rfl) (s_val rfl rfl (r_ld rfl ty251 rfl (H.cellI 1 rfl rfl)) (s_val rfl rfl (r_lenK rfl un251 rfl H 0 rfl) (s_val rfl rfl (r_sub (z := IntKind.i64.wrap ((((kvs2.map stV).length : Nat) : Int) - (((kvs.map stV).length : Nat) : Int))) rfl rfl rfl rfl) (s_1 rfl (s_nil (q_then (c_ret (q_ret1 rfl rfl ?_)))))))))))
  replace H := H.p2.p1.p2
  replace H := Hd.stgC (st := sgDrop st a) hend H
  replace H := H.h1 (A := stgI 253 sb (sgDrop st a))
  exact fin ⟨_, rfl, rfl⟩ H
end Go.Proofs.YthgehekecfpikaaGreatDoor.X

set_option linter.unusedVariables false
set_option linter.unusedSimpArgs false
namespace Go.Proofs.YthgehekecfpikaaGreatDoor.X
open Go
def redI (r : Nat) (vS : Value) (vM : Value) (vC : Value) (vR : Value) (vK : Value) (J : Job) (cw : Int) (ct : Int) (co : Int) (sb : Nat) (R : Red) : SP := ex fun hv : Nat → Value => ex fun vs : Value => ex fun us : List (Value × List Int) => star [pure_ ((us.map (fun u => u.2) = R.sets)), blk r (redC vS vM vC vR vK J cw ct co R.part R.ep R.g hv sb vs) 185, osl (kHd kPair) vS J.us, osl kIns vM J.map, osl kIns vC J.comb, osl kIns vR J.red, osl (kInt .i64) vK J.marks, prsS (R.g) hv, osl (kHd (kInt .i64)) vs us, stgI 253 sb (R.st)]
theorem redI_open (r : Nat) (vS : Value) (vM : Value) (vC : Value) (vR : Value) (vK : Value) (J : Job) (cw : Int) (ct : Int) (co : Int) (sb : Nat) (R : Red) {w0 w : World} {F0 : Foot} {As Rs : List SP} (H : Hd w0 F0 w (redI r vS vM vC vR vK J cw ct co sb R :: As) Rs) : ∃ hv : Nat → Value, ∃ vs : Value, ∃ us : List (Value × List Int), ((us.map (fun u => u.2) = R.sets)) ∧ Hd w0 F0 w ([blk r (redC vS vM vC vR vK J cw ct co R.part R.ep R.g hv sb vs) 185, osl (kHd kPair) vS J.us, osl kIns vM J.map, osl kIns vC J.comb, osl kIns vR J.red, osl (kInt .i64) vK J.marks, prsS (R.g) hv, osl (kHd (kInt .i64)) vs us, stgI 253 sb (R.st)] ++ As) Rs := by
 obtain ⟨hv, H⟩ := Hd.exA H
 obtain ⟨vs, H⟩ := Hd.exA H
 obtain ⟨us, H⟩ := Hd.exA H
 exact ⟨hv, vs, us, H.stA.puA⟩
theorem redI_shut (r : Nat) (vS : Value) (vM : Value) (vC : Value) (vR : Value) (vK : Value) (J : Job) (cw : Int) (ct : Int) (co : Int) (sb : Nat) (R : Red) (hv : Nat → Value) (vs : Value) (us : List (Value × List Int)) {w0 w : World} {F0 : Foot} {As Rs : List SP} (hp : (us.map (fun u => u.2) = R.sets)) (H : Hd w0 F0 w ([blk r (redC vS vM vC vR vK J cw ct co R.part R.ep R.g hv sb vs) 185, osl (kHd kPair) vS J.us, osl kIns vM J.map, osl kIns vC J.comb, osl kIns vR J.red, osl (kInt .i64) vK J.marks, prsS (R.g) hv, osl (kHd (kInt .i64)) vs us, stgI 253 sb (R.st)] ++ As) Rs) : Hd w0 F0 w (redI r vS vM vC vR vK J cw ct co sb R :: As) Rs := by
 have H1 := (show Hd w0 F0 w ([pure_ ((us.map (fun u => u.2) = R.sets)), blk r (redC vS vM vC vR vK J cw ct co R.part R.ep R.g hv sb vs) 185, osl (kHd kPair) vS J.us, osl kIns vM J.map, osl kIns vC J.comb, osl kIns vR J.red, osl (kInt .i64) vK J.marks, prsS (R.g) hv, osl (kHd (kInt .i64)) vs us, stgI 253 sb (R.st)] ++ As) Rs from H.puI hp).stI
 replace H1 := Hd.exI (A := fun us : List (Value × List Int) => star [pure_ ((us.map (fun u => u.2) = R.sets)), blk r (redC vS vM vC vR vK J cw ct co R.part R.ep R.g hv sb vs) 185, osl (kHd kPair) vS J.us, osl kIns vM J.map, osl kIns vC J.comb, osl kIns vR J.red, osl (kInt .i64) vK J.marks, prsS (R.g) hv, osl (kHd (kInt .i64)) vs us, stgI 253 sb (R.st)]) us H1
 replace H1 := Hd.exI (A := fun vs : Value => ex fun us : List (Value × List Int) => star [pure_ ((us.map (fun u => u.2) = R.sets)), blk r (redC vS vM vC vR vK J cw ct co R.part R.ep R.g hv sb vs) 185, osl (kHd kPair) vS J.us, osl kIns vM J.map, osl kIns vC J.comb, osl kIns vR J.red, osl (kInt .i64) vK J.marks, prsS (R.g) hv, osl (kHd (kInt .i64)) vs us, stgI 253 sb (R.st)]) vs H1
 replace H1 := Hd.exI (A := fun hv : Nat → Value => ex fun vs : Value => ex fun us : List (Value × List Int) => star [pure_ ((us.map (fun u => u.2) = R.sets)), blk r (redC vS vM vC vR vK J cw ct co R.part R.ep R.g hv sb vs) 185, osl (kHd kPair) vS J.us, osl kIns vM J.map, osl kIns vC J.comb, osl kIns vR J.red, osl (kInt .i64) vK J.marks, prsS (R.g) hv, osl (kHd (kInt .i64)) vs us, stgI 253 sb (R.st)]) hv H1
 exact H1
set_option maxHeartbeats 1000000 in
theorem due_ok (vmarks : Value) (marks : List Int) (n : Int) :
    Cn Tryz.prog 134 [vmarks, .int .i64 n] [] [rsl (kInt .i64) vmarks marks] (fun v Bs => v = .bool (decide (n ∈ marks)) ∧ Bs = []) := by
 intro w0 F0 H
 obtain ⟨A1, c2, rfl, hc3, hm4, hp5⟩ := H.fR 0 rfl
 refine enter Tryz.func134 rfl rfl (Nat.le_of_ble_eq_true rfl) (c_seq (c_reg (s_1 rfl (s_nil (q_then ?_)))))
 replace H : Hd _ _ _ [] [rsl (kInt .i64) (.slice A1 marks.length c2) marks] := H
 refine c_seq (c_reg (s_k 2 rfl (sc (containsI_ok (.slice A1 marks.length c2) marks n) H (lR 0 rfl l0) rfl rfl (e_fn kn136 rfl rfl) ?_)))
 rintro _ _ w ⟨rfl, rfl⟩ H
 exact s_1 rfl (s_nil (q_then (c_ret (q_ret1 rfl rfl (fin ⟨rfl, rfl⟩ H)))))
set_option maxHeartbeats 4000000 in
theorem looks_ok (r : Nat) (vS : Value) (vM : Value) (vC : Value) (vR : Value) (vK : Value) (J : Job) (cw : Int) (ct : Int) (co : Int) (sb : Nat) (R : Red) (n : Int) (hn : 0 ≤ n ∧ n < (J.us.length : Int)) (h6 : J.us.length ≤ 6) (hB : OkR 100000 R) (hmk : J.marks.length ≤ 1000) :
    Cn Tryz.prog 119 [.pointer (some ⟨r, 0, none⟩), .int .i64 n, .pointer (some ⟨r, 14 + (n).toNat * 5, none⟩)] [redI r vS vM vC vR vK J cw ct co sb R] [] (fun v Bs => ∃ rs : List Rec, Bs = [osl kRec v rs, redI r vS vM vC vR vK J cw ct co sb ((looksR J R (n).toNat).1)] ∧ (rs.map Rec.p = (looksR J R (n).toNat).2)) := by
 intro w0 F0 H
 obtain ⟨hv1, vs2, us3, hsets4, H⟩ := redI_open r vS vM vC vR vK J cw ct co sb R H
 replace H : Hd _ _ _ [blk r (redC vS vM vC vR vK J cw ct co R.part R.ep R.g hv1 sb vs2) 185, osl (kHd kPair) vS J.us, osl kIns vM J.map, osl kIns vC J.comb, osl kIns vR J.red, osl (kInt .i64) vK J.marks, prsS (R.g) hv1, osl (kHd (kInt .i64)) vs2 us3, stgI 253 sb (R.st)] [] := H
 obtain ⟨A5, c6, rfl, hc7, hm8, hp9⟩ := H.fA 1 rfl
 refine enter Tryz.func119 rfl rfl (Nat.le_of_ble_eq_true rfl) (c_seq (c_reg (s_1 rfl (s_nil (q_then (c_seq (c_seq (c_reg (s_1 rfl (s_val rfl rfl (r_nilP rfl rfl) (s_val rfl rfl (r_fa rfl fo181_2 rfl) (s_val rfl rfl (r_ld rfl ty4 rfl (H.cellI 0 rfl (redC_at2 (by omega)))) (s_val rfl rfl (r_not rfl rfl rfl) (s_nil (q_then ?_)))))))))))))))
 refine c_cond (b := !((R.g ((n).toNat)).told)) rfl (fun h10 => ?_) (fun h10 => ?_)
 ·refine c_seq (c_reg (s_1 rfl (s_nil (q_then (c_ret (q_thenR (q_ret1 rfl rfl ?_)))))))
  have e : looksR J R (n).toNat = (R, []) := looks_no1 (by simpa using h10)
  replace H := H.newnil kRec |>.p9 |>.p9 |>.p9 |>.p9 |>.p9 |>.p9 |>.p9 |>.p9 |>.p9
  replace H := redI_shut r (.slice A5 J.us.length c6) vM vC vR vK J cw ct co sb R hv1 vs2 us3 hsets4 H
  replace H := H.h1 (A := redI r (.slice A5 J.us.length c6) vM vC vR vK J cw ct co sb R) |>.p1
  exact fin ⟨[], by rw [e] <;> rfl, by rw [e]; rfl⟩ H
 ·refine c_skip (q_then (c_seq ?_))
  have hfl := hB.flat n (R.g (n).toNat).att
  have hsl := (hB.st n (R.g (n).toNat).att).1
  have hnn : (((n).toNat : Nat) : Int) = n := Int.toNat_of_nonneg hn.1
  refine c_ord (.e 0 (.e 1 (.e 2 (.e 3 (.e 4 (.e 5 (.e 6 (.e 7 (.e 8 (.e 9 (.e 10 (.e 11 (.e 12 (.m 13 (.e 14 (.e 15 (.e 16 (.e 17 (.e 18 .z))))))))))))))))))) (fun w => ∃ Ar, Hd w0 F0 w (blk r (redC (.slice A5 J.us.length c6) vM vC vR vK J cw ct co R.part R.ep R.g hv1 sb vs2) 185 :: osl (kHd kPair) (.slice A5 J.us.length c6) J.us :: osl kIns vM J.map :: osl kIns vC J.comb :: osl kIns vR J.red :: osl (kInt .i64) vK J.marks :: prsS (R.g) hv1 :: osl (kHd (kInt .i64)) vs2 us3 :: stgI 253 sb (R.st) :: Ar) []) mo (by kernel_rfl) (fun w H => ⟨_, H⟩) H (fun w H => (d_1 rfl (d_val rfl rfl rfl (fun w ⟨Ar, H⟩ => r_nilP rfl rfl) (d_val rfl rfl rfl (fun w ⟨Ar, H⟩ => r_fa rfl fo185_4 rfl) (d_val rfl rfl rfl (fun w ⟨Ar, H⟩ => r_ld rfl ty183 rfl (H.cellI 0 rfl rfl)) (d_1 rfl (d_1 rfl (d_val rfl rfl rfl (fun w ⟨Ar, H⟩ => r_nilP rfl rfl) (d_val rfl rfl rfl (fun w ⟨Ar, H⟩ => r_fa rfl fo181_3 rfl) ?_)))))))))
  refine d_val rfl rfl rfl (fun w ⟨Ar, H⟩ => r_ld rfl ty3 rfl (H.cellI 0 rfl (redC_at3 (by omega)))) (d_1 rfl (d_val rfl rfl rfl (fun w ⟨Ar, H⟩ => r_nilP rfl rfl) (d_val rfl rfl rfl (fun w ⟨Ar, H⟩ => r_fa rfl fo181_4 rfl) (d_val rfl rfl rfl (fun w ⟨Ar, H⟩ => r_ld rfl ty3 rfl (H.cellI 0 rfl (redC_at4 (by omega)))) (d_main rfl ?_)))))
  replace H := H.p8
  refine sc (stTake_ok sb R.st n ((R.g ((n).toNat)).att) ((R.g ((n).toNat)).cnt) (by first | assumption | omega) (by first | assumption | omega)) H l0 rfl rfl (e_fn kn171 rfl rfl) ?_
  rintro _ _ w ⟨u11, rfl, rfl⟩ H
  replace H := H.h1 (A := osl kPair u11 ((sgTake R.st n ((R.g ((n).toNat)).att) ((R.g ((n).toNat)).cnt)).getD [])) |>.p1 |>.p9 |>.p9 |>.p9 |>.p9 |>.p9 |>.p9 |>.p9 |>.p9
  refine d_back ⟨_, H⟩ (d_1 rfl (d_1 rfl (d_1 rfl (d_1 rfl (d_1 rfl (d_nil (q_then (c_seq (c_seq (c_reg (s_1 rfl (s_val rfl rfl (r_not rfl rfl rfl) (s_1 rfl ?_)))))))))))))
  refine s_boo (d := 35) (b := !((sgTake R.st n ((R.g ((n).toNat)).att) ((R.g ((n).toNat)).cnt)).isSome)) rfl (fun h12 => ?_) (fun h12 => ?_)
  ·refine s_k 4 rfl (s_nil (q_then (c_yes rfl (c_seq (c_reg (s_1 rfl (s_nil (q_then (c_ret (q_thenR (q_ret1 rfl rfl ?_)))))))))))
   have e : looksR J R (n).toNat = (R, []) := looks_no2 hnn (none_of (by simpa using h12))
   replace H := H.newnil kRec |>.p9 |>.p9 |>.p9 |>.p9 |>.p9 |>.p9 |>.p9 |>.p9 |>.p9 |>.k10
   replace H := redI_shut r (.slice A5 J.us.length c6) vM vC vR vK J cw ct co sb R hv1 vs2 us3 hsets4 H
   replace H := H.h1 (A := redI r (.slice A5 J.us.length c6) vM vC vR vK J cw ct co sb R) |>.p1
   exact fin ⟨[], by rw [e] <;> rfl, by rw [e]; rfl⟩ H
  ·refine s_1 rfl ?_
   obtain ⟨A13, c14, rfl, hc15, hm16, hp17⟩ := H.fA 9 rfl
   refine s_val rfl rfl (r_lenL rfl un35 rfl) (s_val rfl rfl (r_gt rfl rfl rfl) (s_1 rfl (s_nil (q_then ?_))))
   refine c_dec rfl (fun h18 => ?_) (fun h18 => ?_)
   ·refine c_seq (c_reg (s_1 rfl (s_nil (q_then (c_ret (q_thenR (q_ret1 rfl rfl ?_)))))))
    have e : looksR J R (n).toNat = (R, []) := looks_no3 hnn (some_getD ([] : List Pair) (by simpa using h12)) (by omega)
    replace H := H.newnil kRec |>.p9 |>.p9 |>.p9 |>.p9 |>.p9 |>.p9 |>.p9 |>.p9 |>.p9 |>.k10
    replace H := redI_shut r (.slice A5 J.us.length c6) vM vC vR vK J cw ct co sb R hv1 vs2 us3 hsets4 H
    replace H := H.h1 (A := redI r (.slice A5 J.us.length c6) vM vC vR vK J cw ct co sb R) |>.p1
    exact fin ⟨[], by rw [e] <;> rfl, by rw [e]; rfl⟩ H
   ·refine c_skip (q_then (c_seq ?_))
    have htk := some_getD ([] : List Pair) (by simpa using h12)
    have hto : (R.g (n).toNat).told = true := by simpa using h10
    have hpl : ((sgTake R.st n (R.g (n).toNat).att (R.g (n).toNat).cnt).getD []).length ≤ 40 := by omega
    refine c_reg (s_k 3 rfl (s_val rfl rfl (r_nilP rfl rfl) (s_val rfl rfl (r_fa rfl fo181_0 rfl) (s_st rfl rfl rfl ty4 rfl rfl H rfl (by show 14 + ((n).toNat) * 5 + 0 + 1 ≤ 46; omega) (fun u hu => by simp [Value.cells] at hu; subst hu; rfl) (fun w H => ?_)))))
    replace H : Hd w0 F0 w [blk r (redC (.slice A5 J.us.length c6) vM vC vR vK J cw ct co R.part R.ep (setD R.g ((n).toNat) { R.g ((n).toNat) with merged := true }) hv1 sb vs2) 185, osl (kHd kPair) (.slice A5 J.us.length c6) J.us, osl kIns vM J.map, osl kIns vC J.comb, osl kIns vR J.red, osl (kInt .i64) vK J.marks, prsS (R.g) hv1, osl (kHd (kInt .i64)) vs2 us3, stgI 253 sb (R.st), osl kPair (.slice A13 (((sgTake R.st n ((R.g ((n).toNat)).att) ((R.g ((n).toNat)).cnt)).getD []).length) c14) ((sgTake R.st n ((R.g ((n).toNat)).att) ((R.g ((n).toNat)).cnt)).getD [])] [] := by rw [← redC_put0 (show (n).toNat < 6 by omega) true]; exact H
    refine s_val rfl rfl (r_nilP rfl rfl) (s_val rfl rfl (r_fa rfl fo181_1 rfl) (s_st rfl rfl rfl ty35 rfl rfl H rfl (by show 14 + ((n).toNat) * 5 + 1 + 1 ≤ 46; omega) (fun u hu => by simp [Value.cells] at hu; subst hu; rfl) (fun w H => ?_)))
    replace H : Hd w0 F0 w [blk r (redC (.slice A5 J.us.length c6) vM vC vR vK J cw ct co R.part R.ep (setD R.g ((n).toNat) { R.g ((n).toNat) with merged := true }) (setD hv1 ((n).toNat) (.slice A13 (((sgTake R.st n ((R.g ((n).toNat)).att) ((R.g ((n).toNat)).cnt)).getD []).length) c14 : Value)) sb vs2) 185, osl (kHd kPair) (.slice A5 J.us.length c6) J.us, osl kIns vM J.map, osl kIns vC J.comb, osl kIns vR J.red, osl (kInt .i64) vK J.marks, prsS (R.g) hv1, osl (kHd (kInt .i64)) vs2 us3, stgI 253 sb (R.st), osl kPair (.slice A13 (((sgTake R.st n ((R.g ((n).toNat)).att) ((R.g ((n).toNat)).cnt)).getD []).length) c14) ((sgTake R.st n ((R.g ((n).toNat)).att) ((R.g ((n).toNat)).cnt)).getD [])] [] := by rw [← redC_put1 (show (n).toNat < 6 by omega) (.slice A13 (((sgTake R.st n ((R.g ((n).toNat)).att) ((R.g ((n).toNat)).cnt)).getD []).length) c14 : Value)]; exact H
    refine s_nil (q_then (c_seq (c_reg (s_1 rfl (s_val rfl rfl (r_nilP rfl rfl) (s_val rfl rfl (r_fa rfl fo185_4 rfl) (s_val rfl rfl (r_ld rfl ty183 rfl (H.cellI 0 rfl rfl)) (s_1 rfl ?_))))))))
    replace H := H.p8
    refine sc (stDrop_ok sb R.st n) H l0 rfl rfl (e_fn kn172 rfl rfl) ?_
    rintro _ _ w ⟨z19, rfl, rfl⟩ H
    replace H := H.h1 (A := stgI 253 sb (sgDrop R.st n))
    refine s_nil (q_then (c_seq (c_ord (.e 0 (.e 1 (.e 2 (.e 3 (.e 4 (.e 5 (.e 6 (.e 7 (.e 8 (.e 9 (.m 10 (.e 11 (.m 12 (.e 13 .z)))))))))))))) (fun w => ∃ Ar, Hd w0 F0 w (stgI 253 sb (sgDrop R.st n) :: blk r (redC (.slice A5 J.us.length c6) vM vC vR vK J cw ct co R.part R.ep (setD R.g ((n).toNat) { R.g ((n).toNat) with merged := true }) (setD hv1 ((n).toNat) (.slice A13 (((sgTake R.st n ((R.g ((n).toNat)).att) ((R.g ((n).toNat)).cnt)).getD []).length) c14 : Value)) sb vs2) 185 :: osl (kHd kPair) (.slice A5 J.us.length c6) J.us :: osl kIns vM J.map :: osl kIns vC J.comb :: osl kIns vR J.red :: osl (kInt .i64) vK J.marks :: prsS (R.g) hv1 :: osl (kHd (kInt .i64)) vs2 us3 :: osl kPair (.slice A13 (((sgTake R.st n ((R.g ((n).toNat)).att) ((R.g ((n).toNat)).cnt)).getD []).length) c14) ((sgTake R.st n ((R.g ((n).toNat)).att) ((R.g ((n).toNat)).cnt)).getD []) :: Ar) []) mo (by kernel_rfl) (fun w H => ⟨_, H⟩) H (fun w H => ?_))))
    refine d_1 rfl (d_val rfl rfl rfl (fun w ⟨Ar, H⟩ => r_nilP rfl rfl) (d_val rfl rfl rfl (fun w ⟨Ar, H⟩ => r_fa rfl fo185_1 rfl) (d_val rfl rfl rfl (fun w ⟨Ar, H⟩ => r_ld rfl ty3 rfl (H.cellI 1 rfl rfl)) (d_1 rfl (d_1 rfl (d_val rfl rfl rfl (fun w ⟨Ar, H⟩ => r_nilP rfl rfl) (d_val rfl rfl rfl (fun w ⟨Ar, H⟩ => r_fa rfl fo181_3 rfl) (d_val rfl rfl rfl (fun w ⟨Ar, H⟩ => r_ld rfl ty3 rfl (H.cellI 1 rfl ((redC_at3 (by omega)).trans (congrArg some (by rw [setD_self]))))) (d_1 rfl (d_main rfl (sc (clone_ok (.slice A13 (((sgTake R.st n ((R.g ((n).toNat)).att) ((R.g ((n).toNat)).cnt)).getD []).length) c14) ((sgTake R.st n ((R.g ((n).toNat)).att) ((R.g ((n).toNat)).cnt)).getD []) (by first | assumption | omega)) H (lA 9 rfl own_rd l0) rfl rfl (e_fn kn123 rfl rfl) ?_)))))))))))
    rintro v20 _ w rfl H
    obtain ⟨A21, c22, rfl, hc23, hm24, hp25⟩ := H.fA 0 rfl
    replace H : Hd _ _ _ [osl kPair (.slice A21 (((sgTake R.st n ((R.g ((n).toNat)).att) ((R.g ((n).toNat)).cnt)).getD []).length) c22) ((sgTake R.st n ((R.g ((n).toNat)).att) ((R.g ((n).toNat)).cnt)).getD []), stgI 253 sb (sgDrop R.st n), blk r (redC (.slice A5 J.us.length c6) vM vC vR vK J cw ct co R.part R.ep (setD R.g ((n).toNat) { R.g ((n).toNat) with merged := true }) (setD hv1 ((n).toNat) (.slice A13 (((sgTake R.st n ((R.g ((n).toNat)).att) ((R.g ((n).toNat)).cnt)).getD []).length) c14 : Value)) sb vs2) 185, osl (kHd kPair) (.slice A5 J.us.length c6) J.us, osl kIns vM J.map, osl kIns vC J.comb, osl kIns vR J.red, osl (kInt .i64) vK J.marks, prsS (R.g) hv1, osl (kHd (kInt .i64)) vs2 us3, osl kPair (.slice A13 (((sgTake R.st n ((R.g ((n).toNat)).att) ((R.g ((n).toNat)).cnt)).getD []).length) c14) ((sgTake R.st n ((R.g ((n).toNat)).att) ((R.g ((n).toNat)).cnt)).getD [])] [] := H
    replace H := H.pick 10 rfl |>.pick 10 rfl |>.pick 10 rfl |>.pick 10 rfl |>.pick 10 rfl |>.pick 10 rfl |>.pick 10 rfl |>.pick 10 rfl |>.pick 10 rfl |>.pick 10 rfl
    refine d_back ⟨_, H⟩ (d_val rfl rfl rfl (fun w ⟨Ar, H⟩ => r_bd (parts := [(0, .const (.int .i64 4)), (1, .tmp 56), (2, .tmp 57), (3, .tmp 61), (6, .tmp 63)]) (vs := [.int .i64 4, .int .i64 R.part, .int .i64 n, .int .i64 ((R.g (n).toNat).att), .slice A21 (((sgTake R.st n ((R.g ((n).toNat)).att) ((R.g ((n).toNat)).cnt)).getD []).length) c22]) (cs := [.int .i64 4, .int .i64 R.part, .int .i64 n, .int .i64 ((R.g (n).toNat).att), .int .i64 0, .slice none 0 0, .slice A21 (((sgTake R.st n ((R.g ((n).toNat)).att) ((R.g ((n).toNat)).cnt)).getD []).length) c22]) rfl bd37 rfl rfl) (d_main rfl (s_bsl (parts := [(0, .tmp 64)]) (vs := [.agg #[.int .i64 4, .int .i64 R.part, .int .i64 n, .int .i64 ((R.g (n).toNat).att), .int .i64 0, .slice none 0 0, .slice A21 (((sgTake R.st n ((R.g ((n).toNat)).att) ((R.g ((n).toNat)).cnt)).getD []).length) c22]]) (cs := [.int .i64 4, .int .i64 R.part, .int .i64 n, .int .i64 ((R.g (n).toNat).att), .int .i64 0, .slice none 0 0, .slice A21 (((sgTake R.st n ((R.g ((n).toNat)).att) ((R.g ((n).toNat)).cnt)).getD []).length) c22]) rfl rfl rfl sl29 zr37 rfl (by decide) (by decide) rfl rfl H (fun b26 w H => ?_))))
    replace H := H.h1 (A := blk b26 [.int .i64 4, .int .i64 R.part, .int .i64 n, .int .i64 ((R.g (n).toNat).att), .int .i64 0, .slice none 0 0, .slice A21 (((sgTake R.st n ((R.g ((n).toNat)).att) ((R.g ((n).toNat)).cnt)).getD []).length) c22] 37) |>.pick 10 rfl |>.pick 10 rfl |>.pick 10 rfl |>.pick 10 rfl |>.pick 10 rfl |>.pick 10 rfl |>.pick 10 rfl |>.pick 10 rfl |>.pick 10 rfl |>.pick 10 rfl
    refine d_back ⟨_, H⟩ (d_1 rfl (d_nil (q_then (c_seq (c_seq ?_)))))
    obtain ⟨R1, hR1⟩ : ∃ R1 : Red, R1 = { R with g := setD R.g (n).toNat { R.g (n).toNat with merged := true, pairs := (sgTake R.st n (R.g (n).toNat).att (R.g (n).toNat).cnt).getD [] }, st := sgDrop R.st n } := ⟨_, rfl⟩
    replace H := H.pick 11 rfl |>.p1 |>.p9 |>.p8 |>.p8 |>.p8 |>.p8 |>.p8 |>.p8 |>.p9 |>.pick 10 rfl |>.prsU (i := (n).toNat) (x := ({ R.g (n).toNat with merged := true, pairs := (sgTake R.st n (R.g (n).toNat).att (R.g (n).toNat).cnt).getD [] } : SpD)) (by omega)
    replace H : Hd w0 F0 w [prsS (R1.g) (setD hv1 ((n).toNat) (.slice A13 (((sgTake R.st n ((R.g ((n).toNat)).att) ((R.g ((n).toNat)).cnt)).getD []).length) c14 : Value)), blk r (redC (.slice A5 J.us.length c6) vM vC vR vK J cw ct co R1.part R1.ep R1.g (setD hv1 ((n).toNat) (.slice A13 (((sgTake R.st n ((R.g ((n).toNat)).att) ((R.g ((n).toNat)).cnt)).getD []).length) c14 : Value)) sb vs2) 185, osl (kHd kPair) (.slice A5 J.us.length c6) J.us, osl kIns vM J.map, osl kIns vC J.comb, osl kIns vR J.red, osl (kInt .i64) vK J.marks, osl (kHd (kInt .i64)) vs2 us3, stgI 253 sb (R1.st), osl kPair (.slice A21 (((sgTake R.st n ((R.g ((n).toNat)).att) ((R.g ((n).toNat)).cnt)).getD []).length) c22) ((sgTake R.st n ((R.g ((n).toNat)).att) ((R.g ((n).toNat)).cnt)).getD []), blk b26 [.int .i64 4, .int .i64 R.part, .int .i64 n, .int .i64 ((R.g (n).toNat).att), .int .i64 0, .slice none 0 0, .slice A21 (((sgTake R.st n ((R.g ((n).toNat)).att) ((R.g ((n).toNat)).cnt)).getD []).length) c22] 37] [] := by
      rw [hR1]
      rw [← redC_congr (g := setD R.g (n).toNat { R.g (n).toNat with merged := true }) (g' := setD R.g (n).toNat ({ R.g (n).toNat with merged := true, pairs := (sgTake R.st n (R.g (n).toNat).att (R.g (n).toNat).cnt).getD [] } : SpD)) (fun j => by by_cases e : j = (n).toNat <;> first | (subst e; rw [setD_self, setD_self]; exact ⟨rfl, rfl, rfl, rfl⟩) | (rw [setD_ne _ _ e, setD_ne _ _ e]; exact ⟨rfl, rfl, rfl, rfl⟩))]
      exact H
    have hs1 : R1.sets = R.sets := by rw [hR1]
    have hul := congrArg List.length hsets4
    rw [List.length_map] at hul
    have hbs := hB.sets
    refine c_reg (s_1 rfl (sc (merged_ok r A5 c6 vM vC vR vK J cw ct co R1.part R1.ep R1 (setD hv1 ((n).toNat) (.slice A13 (((sgTake R.st n ((R.g ((n).toNat)).att) ((R.g ((n).toNat)).cnt)).getD []).length) c14 : Value)) sb vs2 (by first | assumption | omega)) H (lA 1 rfl (fun _ h => h) l0) rfl rfl (e_fn kn51 rfl rfl) ?_))
    rintro v27 _ w rfl H
    obtain ⟨A28, c29, rfl, hc30, hm31, hp32⟩ := H.fA 0 rfl
    have hml := merged_len J.us.length R1
    refine s_1 rfl (s_nil (q_then ?_))
    replace H : Hd _ _ _ [osl (kInt .i64) (.slice A28 ((mergedL J.us.length R1).length) c29) (mergedL J.us.length R1), prsS (R1.g) (setD hv1 ((n).toNat) (.slice A13 (((sgTake R.st n ((R.g ((n).toNat)).att) ((R.g ((n).toNat)).cnt)).getD []).length) c14 : Value)), blk r (redC (.slice A5 J.us.length c6) vM vC vR vK J cw ct co R1.part R1.ep R1.g (setD hv1 ((n).toNat) (.slice A13 (((sgTake R.st n ((R.g ((n).toNat)).att) ((R.g ((n).toNat)).cnt)).getD []).length) c14 : Value)) sb vs2) 185, osl (kHd kPair) (.slice A5 J.us.length c6) J.us, osl kIns vM J.map, osl kIns vC J.comb, osl kIns vR J.red, osl (kInt .i64) vK J.marks, osl (kHd (kInt .i64)) vs2 us3, stgI 253 sb (R1.st), osl kPair (.slice A21 (((sgTake R.st n ((R.g ((n).toNat)).att) ((R.g ((n).toNat)).cnt)).getD []).length) c22) ((sgTake R.st n ((R.g ((n).toNat)).att) ((R.g ((n).toNat)).cnt)).getD []), blk b26 [.int .i64 4, .int .i64 R.part, .int .i64 n, .int .i64 ((R.g (n).toNat).att), .int .i64 0, .slice none 0 0, .slice A21 (((sgTake R.st n ((R.g ((n).toNat)).att) ((R.g ((n).toNat)).cnt)).getD []).length) c22] 37] [] := H
    refine c_seq (c_reg (s_1 rfl (s_val rfl rfl (r_nilP rfl rfl) (s_val rfl rfl (r_fa rfl fo185_0 rfl) (s_val rfl rfl (r_fa rfl fo28_0 rfl) (s_val rfl rfl (r_fa rfl fo26_8 rfl) (s_val rfl rfl (r_ld rfl ty24 rfl (H.cellI 2 rfl rfl)) (s_1 rfl (s_val rfl rfl (r_lenL rfl un24 rfl) (sc (due_ok vK J.marks (((mergedL J.us.length R1).length : Nat) : Int)) H (lA 7 rfl own_rd l0) rfl rfl (e_fn kn134 rfl rfl) ?_))))))))))
    rintro _ _ w ⟨rfl, rfl⟩ H
    refine s_nil (q_then ?_)
    refine c_dec rfl (fun h33 => ?_) (fun h33 => ?_)
    ·refine c_seq ?_
     replace H := H.sel 12 [0, 1, 3, 4, 5, 6, 7, 9, 10, 11, 2, 8] [] rfl (by kernel_rfl)
     replace H : Hd _ _ _ [osl (kInt .i64) (.slice A28 ((mergedL J.us.length R1).length) c29) (mergedL J.us.length R1), prsS (R1.g) (setD hv1 ((n).toNat) (.slice A13 (((sgTake R.st n ((R.g ((n).toNat)).att) ((R.g ((n).toNat)).cnt)).getD []).length) c14 : Value)), osl (kHd kPair) (.slice A5 J.us.length c6) J.us, osl kIns vM J.map, osl kIns vC J.comb, osl kIns vR J.red, osl (kInt .i64) vK J.marks, stgI 253 sb (R1.st), osl kPair (.slice A21 (((sgTake R.st n ((R.g ((n).toNat)).att) ((R.g ((n).toNat)).cnt)).getD []).length) c22) ((sgTake R.st n ((R.g ((n).toNat)).att) ((R.g ((n).toNat)).cnt)).getD []), blk b26 [.int .i64 4, .int .i64 R.part, .int .i64 n, .int .i64 ((R.g (n).toNat).att), .int .i64 0, .slice none 0 0, .slice A21 (((sgTake R.st n ((R.g ((n).toNat)).att) ((R.g ((n).toNat)).cnt)).getD []).length) c22] 37, blk r (redC (.slice A5 J.us.length c6) vM vC vR vK J cw ct co R1.part R1.ep R1.g (setD hv1 ((n).toNat) (.slice A13 (((sgTake R.st n ((R.g ((n).toNat)).att) ((R.g ((n).toNat)).cnt)).getD []).length) c14 : Value)) sb vs2) 185, osl (kHd (kInt .i64)) vs2 us3] [] := H
     refine c_ord (.e 0 (.e 1 (.e 2 (.e 3 (.e 5 (.b 4 6 (.m 6 (.m 7 (.m 8 (.e 9 (.e 10 (.m 11 .z)))))) (.b 4 7 (.m 7 (.m 8 (.e 9 (.e 10 (.m 11 .z))))) (.m 4 (.m 8 (.e 9 (.e 10 (.m 11 .z)))))))))))) (fun w => ∃ Ar, Hd w0 F0 w (osl (kInt .i64) (.slice A28 ((mergedL J.us.length R1).length) c29) (mergedL J.us.length R1) :: prsS (R1.g) (setD hv1 ((n).toNat) (.slice A13 (((sgTake R.st n ((R.g ((n).toNat)).att) ((R.g ((n).toNat)).cnt)).getD []).length) c14 : Value)) :: osl (kHd kPair) (.slice A5 J.us.length c6) J.us :: osl kIns vM J.map :: osl kIns vC J.comb :: osl kIns vR J.red :: osl (kInt .i64) vK J.marks :: stgI 253 sb (R1.st) :: osl kPair (.slice A21 (((sgTake R.st n ((R.g ((n).toNat)).att) ((R.g ((n).toNat)).cnt)).getD []).length) c22) ((sgTake R.st n ((R.g ((n).toNat)).att) ((R.g ((n).toNat)).cnt)).getD []) :: blk b26 [.int .i64 4, .int .i64 R.part, .int .i64 n, .int .i64 ((R.g (n).toNat).att), .int .i64 0, .slice none 0 0, .slice A21 (((sgTake R.st n ((R.g ((n).toNat)).att) ((R.g ((n).toNat)).cnt)).getD []).length) c22] 37 :: Ar) []) mo (by kernel_rfl) (fun w H => ⟨_, H⟩) H (fun w H => ?_)
     refine d_1 rfl (d_1 rfl (d_val rfl rfl rfl (fun w ⟨Ar, H⟩ => r_nilP rfl rfl) (d_val rfl rfl rfl (fun w ⟨Ar, H⟩ => r_fa rfl fo185_5 rfl) (d_1 rfl ?_))))
     refine d_both rfl rfl ?_ ?_
     ·refine s_val rfl rfl (r_ld rfl ty144 rfl (H.cellI 10 rfl rfl)) (d_back ⟨_, H⟩ (d_main rfl (sc (cloneInt_ok (.slice A28 ((mergedL J.us.length R1).length) c29) (mergedL J.us.length R1) (by first | assumption | omega)) H (lA 0 rfl own_rd l0) rfl rfl (e_fn kn129 rfl rfl) ?_)))
      rintro v34 _ w rfl H
      replace H := H.h1 (A := osl (kInt .i64) v34 (mergedL J.us.length R1)) |>.pick 10 rfl |>.pick 10 rfl |>.pick 10 rfl |>.pick 10 rfl |>.pick 10 rfl |>.pick 10 rfl |>.pick 10 rfl |>.pick 10 rfl |>.pick 10 rfl |>.pick 10 rfl
      refine d_back ⟨_, H⟩ (d_main rfl ?_)
      obtain ⟨A36, c37, rfl, hc38, hm39, hp40⟩ := H.fA 10 rfl
      refine s_bsl (parts := [(0, .tmp 83)]) (vs := [.slice A36 ((mergedL J.us.length R1).length) c37]) (cs := [.slice A36 ((mergedL J.us.length R1).length) c37]) rfl rfl rfl sl144 zr24 rfl (by decide) (by decide) rfl rfl H (fun b35 w H => ?_)
      replace H : Hd _ _ _ [blk b35 [.slice A36 ((mergedL J.us.length R1).length) c37] 24, osl (kInt .i64) (.slice A28 ((mergedL J.us.length R1).length) c29) (mergedL J.us.length R1), prsS (R1.g) (setD hv1 ((n).toNat) (.slice A13 (((sgTake R.st n ((R.g ((n).toNat)).att) ((R.g ((n).toNat)).cnt)).getD []).length) c14 : Value)), osl (kHd kPair) (.slice A5 J.us.length c6) J.us, osl kIns vM J.map, osl kIns vC J.comb, osl kIns vR J.red, osl (kInt .i64) vK J.marks, stgI 253 sb (R1.st), osl kPair (.slice A21 (((sgTake R.st n ((R.g ((n).toNat)).att) ((R.g ((n).toNat)).cnt)).getD []).length) c22) ((sgTake R.st n ((R.g ((n).toNat)).att) ((R.g ((n).toNat)).cnt)).getD []), blk b26 [.int .i64 4, .int .i64 R.part, .int .i64 n, .int .i64 ((R.g (n).toNat).att), .int .i64 0, .slice none 0 0, .slice A21 (((sgTake R.st n ((R.g ((n).toNat)).att) ((R.g ((n).toNat)).cnt)).getD []).length) c22] 37, osl (kInt .i64) (.slice A36 ((mergedL J.us.length R1).length) c37) (mergedL J.us.length R1), blk r (redC (.slice A5 J.us.length c6) vM vC vR vK J cw ct co R1.part R1.ep R1.g (setD hv1 ((n).toNat) (.slice A13 (((sgTake R.st n ((R.g ((n).toNat)).att) ((R.g ((n).toNat)).cnt)).getD []).length) c14 : Value)) sb vs2) 185, osl (kHd (kInt .i64)) vs2 us3] [] := H
      replace H := H.pick 10 rfl |>.pick 10 rfl |>.pick 10 rfl |>.pick 10 rfl |>.pick 10 rfl |>.pick 10 rfl |>.pick 10 rfl |>.pick 10 rfl |>.pick 10 rfl |>.pick 10 rfl
      refine d_back ⟨_, H⟩ (d_main rfl ?_)
      replace H := H.pick 13 rfl |>.pick 12 rfl |>.pick 12 rfl |>.p2
      refine s_appH rfl rfl rfl sl144 zr24 rfl (by decide) rfl rfl H (by first | omega | (simp only [List.length_append, List.length_cons, List.length_nil]; omega)) (fun v41 w H => ?_)
      replace H := H.h1 (A := osl (kHd (kInt .i64)) v41 (us3 ++ [((.slice A36 ((mergedL J.us.length R1).length) c37 : Value), mergedL J.us.length R1)])) |>.pick 10 rfl |>.pick 10 rfl |>.pick 10 rfl |>.pick 10 rfl |>.pick 10 rfl |>.pick 10 rfl |>.pick 10 rfl |>.pick 10 rfl |>.pick 10 rfl |>.pick 10 rfl
      refine d_back ⟨_, H⟩ (d_val rfl rfl rfl (fun w ⟨Ar, H⟩ => r_nilP rfl rfl) (d_val rfl rfl rfl (fun w ⟨Ar, H⟩ => r_fa rfl fo185_5 rfl) (d_main rfl ?_)))
      obtain ⟨A42, c43, rfl, hc44, hm45, hp46⟩ := H.fA 10 rfl
      replace H := H.pick 11 rfl
      refine s_st rfl rfl rfl ty144 rfl rfl H rfl (Nat.le_of_ble_eq_true rfl) (fun u hu => by simp [Value.cells] at hu; subst hu; rfl) (fun w H => ?_)
      replace H : Hd _ _ _ [blk r (redC (.slice A5 J.us.length c6) vM vC vR vK J cw ct co R1.part R1.ep R1.g (setD hv1 ((n).toNat) (.slice A13 (((sgTake R.st n ((R.g ((n).toNat)).att) ((R.g ((n).toNat)).cnt)).getD []).length) c14 : Value)) sb (.slice A42 ((us3 ++ [((.slice A36 ((mergedL J.us.length R1).length) c37 : Value), mergedL J.us.length R1)]).length) c43)) 185, osl (kInt .i64) (.slice A28 ((mergedL J.us.length R1).length) c29) (mergedL J.us.length R1), prsS (R1.g) (setD hv1 ((n).toNat) (.slice A13 (((sgTake R.st n ((R.g ((n).toNat)).att) ((R.g ((n).toNat)).cnt)).getD []).length) c14 : Value)), osl (kHd kPair) (.slice A5 J.us.length c6) J.us, osl kIns vM J.map, osl kIns vC J.comb, osl kIns vR J.red, osl (kInt .i64) vK J.marks, stgI 253 sb (R1.st), osl kPair (.slice A21 (((sgTake R.st n ((R.g ((n).toNat)).att) ((R.g ((n).toNat)).cnt)).getD []).length) c22) ((sgTake R.st n ((R.g ((n).toNat)).att) ((R.g ((n).toNat)).cnt)).getD []), blk b26 [.int .i64 4, .int .i64 R.part, .int .i64 n, .int .i64 ((R.g (n).toNat).att), .int .i64 0, .slice none 0 0, .slice A21 (((sgTake R.st n ((R.g ((n).toNat)).att) ((R.g ((n).toNat)).cnt)).getD []).length) c22] 37, osl (kHd (kInt .i64)) (.slice A42 ((us3 ++ [((.slice A36 ((mergedL J.us.length R1).length) c37 : Value), mergedL J.us.length R1)]).length) c43) (us3 ++ [((.slice A36 ((mergedL J.us.length R1).length) c37 : Value), mergedL J.us.length R1)])] [] := H
      replace H := H.pick 10 rfl |>.pick 10 rfl |>.pick 10 rfl |>.pick 10 rfl |>.pick 10 rfl |>.pick 10 rfl |>.pick 10 rfl |>.pick 10 rfl |>.pick 10 rfl |>.pick 10 rfl
      refine d_back ⟨_, H⟩ (d_nil (q_then (c_reg (s_k 2 rfl (s_val rfl rfl (r_nilP rfl rfl) (s_val rfl rfl (r_fa rfl fo185_1 rfl) (s_val rfl rfl (r_ld rfl ty3 rfl (H.cellI 10 rfl rfl)) (s_1 rfl (s_val rfl rfl (r_bd (parts := [(0, .const (.int .i64 5)), (1, .tmp 92), (5, .tmp 93)]) (vs := [.int .i64 5, .int .i64 R1.part, .slice A28 ((mergedL J.us.length R1).length) c29]) (cs := [.int .i64 5, .int .i64 R1.part, .int .i64 0, .int .i64 0, .int .i64 0, .slice A28 ((mergedL J.us.length R1).length) c29, .slice none 0 0]) rfl bd37 rfl rfl) (s_bsl (parts := [(0, .tmp 94)]) (vs := [.agg #[.int .i64 5, .int .i64 R1.part, .int .i64 0, .int .i64 0, .int .i64 0, .slice A28 ((mergedL J.us.length R1).length) c29, .slice none 0 0]]) (cs := [.int .i64 5, .int .i64 R1.part, .int .i64 0, .int .i64 0, .int .i64 0, .slice A28 ((mergedL J.us.length R1).length) c29, .slice none 0 0]) rfl rfl rfl sl29 zr37 rfl (by decide) (by decide) rfl rfl H (fun b47 w H => ?_)))))))))))
      replace H := H.h1 (A := blk b47 [.int .i64 5, .int .i64 R1.part, .int .i64 0, .int .i64 0, .int .i64 0, .slice A28 ((mergedL J.us.length R1).length) c29, .slice none 0 0] 37) |>.pick 10 rfl
      replace H : Hd w0 F0 w [osl kRecF (.slice (some ⟨b26, 0, none⟩) 1 1) [(⟨4, R.part, n, (R.g (n).toNat).att, 0, ⟨none, 0, 0⟩, ⟨A21, ((sgTake R.st n ((R.g ((n).toNat)).att) ((R.g ((n).toNat)).cnt)).getD []).length, c22⟩⟩ : RecF)], blk b47 [.int .i64 5, .int .i64 R1.part, .int .i64 0, .int .i64 0, .int .i64 0, .slice A28 ((mergedL J.us.length R1).length) c29, .slice none 0 0] 37, osl (kInt .i64) (.slice A28 ((mergedL J.us.length R1).length) c29) (mergedL J.us.length R1), prsS (R1.g) (setD hv1 ((n).toNat) (.slice A13 (((sgTake R.st n ((R.g ((n).toNat)).att) ((R.g ((n).toNat)).cnt)).getD []).length) c14 : Value)), osl (kHd kPair) (.slice A5 J.us.length c6) J.us, osl kIns vM J.map, osl kIns vC J.comb, osl kIns vR J.red, osl (kInt .i64) vK J.marks, stgI 253 sb (R1.st), osl kPair (.slice A21 (((sgTake R.st n ((R.g ((n).toNat)).att) ((R.g ((n).toNat)).cnt)).getD []).length) c22) ((sgTake R.st n ((R.g ((n).toNat)).att) ((R.g ((n).toNat)).cnt)).getD []), blk r (redC (.slice A5 J.us.length c6) vM vC vR vK J cw ct co R1.part R1.ep R1.g (setD hv1 ((n).toNat) (.slice A13 (((sgTake R.st n ((R.g ((n).toNat)).att) ((R.g ((n).toNat)).cnt)).getD []).length) c14 : Value)) sb (.slice A42 ((us3 ++ [((.slice A36 ((mergedL J.us.length R1).length) c37 : Value), mergedL J.us.length R1)]).length) c43)) 185, osl (kHd (kInt .i64)) (.slice A42 ((us3 ++ [((.slice A36 ((mergedL J.us.length R1).length) c37 : Value), mergedL J.us.length R1)]).length) c43) (us3 ++ [((.slice A36 ((mergedL J.us.length R1).length) c37 : Value), mergedL J.us.length R1)])] [] := H.turn (fun F h => blk_osl h rfl (by decide) rfl)
      refine s_appF (xs := [(⟨4, R.part, n, (R.g (n).toNat).att, 0, ⟨none, 0, 0⟩, ⟨A21, ((sgTake R.st n ((R.g ((n).toNat)).att) ((R.g ((n).toNat)).cnt)).getD []).length, c22⟩⟩ : RecF)]) (ys := [(⟨5, R1.part, 0, 0, 0, ⟨A28, (mergedL J.us.length R1).length, c29⟩, ⟨none, 0, 0⟩⟩ : RecF)]) rfl rfl rfl sl29 zr37 rfl (by decide) rfl rfl H (by first | omega | (simp only [List.length_append, List.length_cons, List.length_nil]; omega)) (fun F hA hR => blk_rsl (hA _ (List.mem_of_getElem? (i := 0) rfl)) rfl (by decide) (RepsR.flat_eq.2 rfl)) (fun v48 w H => ?_)
      replace H := H.h1 (A := osl kRecF v48 ([(⟨4, R.part, n, (R.g (n).toNat).att, 0, ⟨none, 0, 0⟩, ⟨A21, ((sgTake R.st n ((R.g ((n).toNat)).att) ((R.g ((n).toNat)).cnt)).getD []).length, c22⟩⟩ : RecF)] ++ [(⟨5, R1.part, 0, 0, 0, ⟨A28, (mergedL J.us.length R1).length, c29⟩, ⟨none, 0, 0⟩⟩ : RecF)]))
      refine s_1 rfl (s_nil (q_then (c_seq (c_reg (s_k 2 rfl (s_nil (q_then (c_ret (q_ret1 rfl rfl ?_)))))))))
      have e := looks_two hnn hto htk hpl hR1 h33
      replace H := H.p2.pick 10 rfl |>.p2 |>.pick 10 rfl |>.pick 12 rfl |>.p6 |>.pick 11 rfl |>.pick 11 rfl |>.pick 11 rfl |>.pick 11 rfl |>.pick 11 rfl |>.pick 12 rfl |>.keep 12
      replace H : Hd _ _ _ [blk r (redC (.slice A5 J.us.length c6) vM vC vR vK J cw ct co (({ R1 with sets := R1.sets ++ [mergedL J.us.length R1] } : Red).part) (({ R1 with sets := R1.sets ++ [mergedL J.us.length R1] } : Red).ep) (({ R1 with sets := R1.sets ++ [mergedL J.us.length R1] } : Red).g) (setD hv1 ((n).toNat) (.slice A13 (((sgTake R.st n ((R.g ((n).toNat)).att) ((R.g ((n).toNat)).cnt)).getD []).length) c14 : Value)) sb (.slice A42 ((us3 ++ [((.slice A36 ((mergedL J.us.length R1).length) c37 : Value), mergedL J.us.length R1)]).length) c43)) 185, osl (kHd kPair) (.slice A5 J.us.length c6) J.us, osl kIns vM J.map, osl kIns vC J.comb, osl kIns vR J.red, osl (kInt .i64) vK J.marks, prsS (({ R1 with sets := R1.sets ++ [mergedL J.us.length R1] } : Red).g) (setD hv1 ((n).toNat) (.slice A13 (((sgTake R.st n ((R.g ((n).toNat)).att) ((R.g ((n).toNat)).cnt)).getD []).length) c14 : Value)), osl (kHd (kInt .i64)) (.slice A42 ((us3 ++ [((.slice A36 ((mergedL J.us.length R1).length) c37 : Value), mergedL J.us.length R1)]).length) c43) (us3 ++ [((.slice A36 ((mergedL J.us.length R1).length) c37 : Value), mergedL J.us.length R1)]), stgI 253 sb (({ R1 with sets := R1.sets ++ [mergedL J.us.length R1] } : Red).st), osl kRecF v48 ([(⟨4, R.part, n, (R.g (n).toNat).att, 0, ⟨none, 0, 0⟩, ⟨A21, ((sgTake R.st n ((R.g ((n).toNat)).att) ((R.g ((n).toNat)).cnt)).getD []).length, c22⟩⟩ : RecF)] ++ [(⟨5, R1.part, 0, 0, 0, ⟨A28, (mergedL J.us.length R1).length, c29⟩, ⟨none, 0, 0⟩⟩ : RecF)]), osl kPair (.slice A21 (((sgTake R.st n ((R.g ((n).toNat)).att) ((R.g ((n).toNat)).cnt)).getD []).length) c22) ((sgTake R.st n ((R.g ((n).toNat)).att) ((R.g ((n).toNat)).cnt)).getD []), osl (kInt .i64) (.slice A28 ((mergedL J.us.length R1).length) c29) (mergedL J.us.length R1)] [] := H
      replace H := redI_shut r (.slice A5 J.us.length c6) vM vC vR vK J cw ct co sb ({ R1 with sets := R1.sets ++ [mergedL J.us.length R1] } : Red) (setD hv1 ((n).toNat) (.slice A13 (((sgTake R.st n ((R.g ((n).toNat)).att) ((R.g ((n).toNat)).cnt)).getD []).length) c14 : Value)) (.slice A42 ((us3 ++ [((.slice A36 ((mergedL J.us.length R1).length) c37 : Value), mergedL J.us.length R1)]).length) c43) (us3 ++ [((.slice A36 ((mergedL J.us.length R1).length) c37 : Value), mergedL J.us.length R1)]) (by rw [List.map_append, hsets4, ← hs1]; rfl) H
      replace H := H.h1 (A := redI r (.slice A5 J.us.length c6) vM vC vR vK J cw ct co sb ({ R1 with sets := R1.sets ++ [mergedL J.us.length R1] } : Red)) |>.rec0 |>.h1 (A := recS []) |>.p3
      replace H := Hd.recN (r := (⟨4, R.part, n, (R.g (n).toNat).att, 0, .slice none 0 0, [], .slice A21 (((sgTake R.st n ((R.g ((n).toNat)).att) ((R.g ((n).toNat)).cnt)).getD []).length) c22, (sgTake R.st n (R.g (n).toNat).att (R.g (n).toNat).cnt).getD []⟩ : Rec)) (H.newnil (kInt .i64))
      replace H := H.h1 (A := recS ([] ++ [(⟨4, R.part, n, (R.g (n).toNat).att, 0, .slice none 0 0, [], .slice A21 (((sgTake R.st n ((R.g ((n).toNat)).att) ((R.g ((n).toNat)).cnt)).getD []).length) c22, (sgTake R.st n (R.g (n).toNat).att (R.g (n).toNat).cnt).getD []⟩ : Rec)])) |>.newnil kPair |>.p4
      replace H := Hd.recN (r := (⟨5, R1.part, 0, 0, 0, .slice A28 ((mergedL J.us.length R1).length) c29, mergedL J.us.length R1, .slice none 0 0, []⟩ : Rec)) H
      replace H := H.h1 (A := recS ([] ++ [(⟨4, R.part, n, (R.g (n).toNat).att, 0, .slice none 0 0, [], .slice A21 (((sgTake R.st n ((R.g ((n).toNat)).att) ((R.g ((n).toNat)).cnt)).getD []).length) c22, (sgTake R.st n (R.g (n).toNat).att (R.g (n).toNat).cnt).getD []⟩ : Rec)] ++ [(⟨5, R1.part, 0, 0, 0, .slice A28 ((mergedL J.us.length R1).length) c29, mergedL J.us.length R1, .slice none 0 0, []⟩ : Rec)])) |>.p2 |>.h1 (A := osl kRecF v48 (([] ++ [(⟨4, R.part, n, (R.g (n).toNat).att, 0, .slice none 0 0, [], .slice A21 (((sgTake R.st n ((R.g ((n).toNat)).att) ((R.g ((n).toNat)).cnt)).getD []).length) c22, (sgTake R.st n (R.g (n).toNat).att (R.g (n).toNat).cnt).getD []⟩ : Rec)] ++ [(⟨5, R1.part, 0, 0, 0, .slice A28 ((mergedL J.us.length R1).length) c29, mergedL J.us.length R1, .slice none 0 0, []⟩ : Rec)]).map toF)) |>.recI |>.h1 (A := osl kRec v48 ([] ++ [(⟨4, R.part, n, (R.g (n).toNat).att, 0, .slice none 0 0, [], .slice A21 (((sgTake R.st n ((R.g ((n).toNat)).att) ((R.g ((n).toNat)).cnt)).getD []).length) c22, (sgTake R.st n (R.g (n).toNat).att (R.g (n).toNat).cnt).getD []⟩ : Rec)] ++ [(⟨5, R1.part, 0, 0, 0, .slice A28 ((mergedL J.us.length R1).length) c29, mergedL J.us.length R1, .slice none 0 0, []⟩ : Rec)]))
      exact fin ⟨[] ++ [(⟨4, R.part, n, (R.g (n).toNat).att, 0, .slice none 0 0, [], .slice A21 (((sgTake R.st n ((R.g ((n).toNat)).att) ((R.g ((n).toNat)).cnt)).getD []).length) c22, (sgTake R.st n (R.g (n).toNat).att (R.g (n).toNat).cnt).getD []⟩ : Rec)] ++ [(⟨5, R1.part, 0, 0, 0, .slice A28 ((mergedL J.us.length R1).length) c29, mergedL J.us.length R1, .slice none 0 0, []⟩ : Rec)], by rw [e] <;> rfl, by rw [e, hR1]; rfl⟩ H
     ·refine sc (cloneInt_ok (.slice A28 ((mergedL J.us.length R1).length) c29) (mergedL J.us.length R1) (by first | assumption | omega)) H (lA 0 rfl own_rd l0) rfl rfl (e_fn kn129 rfl rfl) ?_
      rintro v49 _ w rfl H
      replace H := H.h1 (A := osl (kInt .i64) v49 (mergedL J.us.length R1)) |>.pick 10 rfl |>.pick 10 rfl |>.pick 10 rfl |>.pick 10 rfl |>.pick 10 rfl |>.pick 10 rfl |>.pick 10 rfl |>.pick 10 rfl |>.pick 10 rfl |>.pick 10 rfl
      refine d_back ⟨_, H⟩ ?_
      refine d_both rfl rfl ?_ ?_
      ·refine s_val rfl rfl (r_ld rfl ty144 rfl (H.cellI 11 rfl rfl)) (d_back ⟨_, H⟩ (d_main rfl ?_))
       obtain ⟨A51, c52, rfl, hc53, hm54, hp55⟩ := H.fA 10 rfl
       refine s_bsl (parts := [(0, .tmp 83)]) (vs := [.slice A51 ((mergedL J.us.length R1).length) c52]) (cs := [.slice A51 ((mergedL J.us.length R1).length) c52]) rfl rfl rfl sl144 zr24 rfl (by decide) (by decide) rfl rfl H (fun b50 w H => ?_)
       replace H : Hd _ _ _ [blk b50 [.slice A51 ((mergedL J.us.length R1).length) c52] 24, osl (kInt .i64) (.slice A28 ((mergedL J.us.length R1).length) c29) (mergedL J.us.length R1), prsS (R1.g) (setD hv1 ((n).toNat) (.slice A13 (((sgTake R.st n ((R.g ((n).toNat)).att) ((R.g ((n).toNat)).cnt)).getD []).length) c14 : Value)), osl (kHd kPair) (.slice A5 J.us.length c6) J.us, osl kIns vM J.map, osl kIns vC J.comb, osl kIns vR J.red, osl (kInt .i64) vK J.marks, stgI 253 sb (R1.st), osl kPair (.slice A21 (((sgTake R.st n ((R.g ((n).toNat)).att) ((R.g ((n).toNat)).cnt)).getD []).length) c22) ((sgTake R.st n ((R.g ((n).toNat)).att) ((R.g ((n).toNat)).cnt)).getD []), blk b26 [.int .i64 4, .int .i64 R.part, .int .i64 n, .int .i64 ((R.g (n).toNat).att), .int .i64 0, .slice none 0 0, .slice A21 (((sgTake R.st n ((R.g ((n).toNat)).att) ((R.g ((n).toNat)).cnt)).getD []).length) c22] 37, osl (kInt .i64) (.slice A51 ((mergedL J.us.length R1).length) c52) (mergedL J.us.length R1), blk r (redC (.slice A5 J.us.length c6) vM vC vR vK J cw ct co R1.part R1.ep R1.g (setD hv1 ((n).toNat) (.slice A13 (((sgTake R.st n ((R.g ((n).toNat)).att) ((R.g ((n).toNat)).cnt)).getD []).length) c14 : Value)) sb vs2) 185, osl (kHd (kInt .i64)) vs2 us3] [] := H
       replace H := H.pick 10 rfl |>.pick 10 rfl |>.pick 10 rfl |>.pick 10 rfl |>.pick 10 rfl |>.pick 10 rfl |>.pick 10 rfl |>.pick 10 rfl |>.pick 10 rfl |>.pick 10 rfl
       refine d_back ⟨_, H⟩ (d_main rfl ?_)
       replace H := H.pick 13 rfl |>.pick 12 rfl |>.pick 12 rfl |>.p2
       refine s_appH rfl rfl rfl sl144 zr24 rfl (by decide) rfl rfl H (by first | omega | (simp only [List.length_append, List.length_cons, List.length_nil]; omega)) (fun v56 w H => ?_)
       replace H := H.h1 (A := osl (kHd (kInt .i64)) v56 (us3 ++ [((.slice A51 ((mergedL J.us.length R1).length) c52 : Value), mergedL J.us.length R1)])) |>.pick 10 rfl |>.pick 10 rfl |>.pick 10 rfl |>.pick 10 rfl |>.pick 10 rfl |>.pick 10 rfl |>.pick 10 rfl |>.pick 10 rfl |>.pick 10 rfl |>.pick 10 rfl
       refine d_back ⟨_, H⟩ (d_val rfl rfl rfl (fun w ⟨Ar, H⟩ => r_nilP rfl rfl) (d_val rfl rfl rfl (fun w ⟨Ar, H⟩ => r_fa rfl fo185_5 rfl) (d_main rfl ?_)))
       obtain ⟨A57, c58, rfl, hc59, hm60, hp61⟩ := H.fA 10 rfl
       replace H := H.pick 11 rfl
       refine s_st rfl rfl rfl ty144 rfl rfl H rfl (Nat.le_of_ble_eq_true rfl) (fun u hu => by simp [Value.cells] at hu; subst hu; rfl) (fun w H => ?_)
       replace H : Hd _ _ _ [blk r (redC (.slice A5 J.us.length c6) vM vC vR vK J cw ct co R1.part R1.ep R1.g (setD hv1 ((n).toNat) (.slice A13 (((sgTake R.st n ((R.g ((n).toNat)).att) ((R.g ((n).toNat)).cnt)).getD []).length) c14 : Value)) sb (.slice A57 ((us3 ++ [((.slice A51 ((mergedL J.us.length R1).length) c52 : Value), mergedL J.us.length R1)]).length) c58)) 185, osl (kInt .i64) (.slice A28 ((mergedL J.us.length R1).length) c29) (mergedL J.us.length R1), prsS (R1.g) (setD hv1 ((n).toNat) (.slice A13 (((sgTake R.st n ((R.g ((n).toNat)).att) ((R.g ((n).toNat)).cnt)).getD []).length) c14 : Value)), osl (kHd kPair) (.slice A5 J.us.length c6) J.us, osl kIns vM J.map, osl kIns vC J.comb, osl kIns vR J.red, osl (kInt .i64) vK J.marks, stgI 253 sb (R1.st), osl kPair (.slice A21 (((sgTake R.st n ((R.g ((n).toNat)).att) ((R.g ((n).toNat)).cnt)).getD []).length) c22) ((sgTake R.st n ((R.g ((n).toNat)).att) ((R.g ((n).toNat)).cnt)).getD []), blk b26 [.int .i64 4, .int .i64 R.part, .int .i64 n, .int .i64 ((R.g (n).toNat).att), .int .i64 0, .slice none 0 0, .slice A21 (((sgTake R.st n ((R.g ((n).toNat)).att) ((R.g ((n).toNat)).cnt)).getD []).length) c22] 37, osl (kHd (kInt .i64)) (.slice A57 ((us3 ++ [((.slice A51 ((mergedL J.us.length R1).length) c52 : Value), mergedL J.us.length R1)]).length) c58) (us3 ++ [((.slice A51 ((mergedL J.us.length R1).length) c52 : Value), mergedL J.us.length R1)])] [] := H
       replace H := H.pick 10 rfl |>.pick 10 rfl |>.pick 10 rfl |>.pick 10 rfl |>.pick 10 rfl |>.pick 10 rfl |>.pick 10 rfl |>.pick 10 rfl |>.pick 10 rfl |>.pick 10 rfl
       refine d_back ⟨_, H⟩ (d_nil (q_then (c_reg (s_k 2 rfl (s_val rfl rfl (r_nilP rfl rfl) (s_val rfl rfl (r_fa rfl fo185_1 rfl) (s_val rfl rfl (r_ld rfl ty3 rfl (H.cellI 10 rfl rfl)) (s_1 rfl (s_val rfl rfl (r_bd (parts := [(0, .const (.int .i64 5)), (1, .tmp 92), (5, .tmp 93)]) (vs := [.int .i64 5, .int .i64 R1.part, .slice A28 ((mergedL J.us.length R1).length) c29]) (cs := [.int .i64 5, .int .i64 R1.part, .int .i64 0, .int .i64 0, .int .i64 0, .slice A28 ((mergedL J.us.length R1).length) c29, .slice none 0 0]) rfl bd37 rfl rfl) (s_bsl (parts := [(0, .tmp 94)]) (vs := [.agg #[.int .i64 5, .int .i64 R1.part, .int .i64 0, .int .i64 0, .int .i64 0, .slice A28 ((mergedL J.us.length R1).length) c29, .slice none 0 0]]) (cs := [.int .i64 5, .int .i64 R1.part, .int .i64 0, .int .i64 0, .int .i64 0, .slice A28 ((mergedL J.us.length R1).length) c29, .slice none 0 0]) rfl rfl rfl sl29 zr37 rfl (by decide) (by decide) rfl rfl H (fun b62 w H => ?_)))))))))))
       replace H := H.h1 (A := blk b62 [.int .i64 5, .int .i64 R1.part, .int .i64 0, .int .i64 0, .int .i64 0, .slice A28 ((mergedL J.us.length R1).length) c29, .slice none 0 0] 37) |>.pick 10 rfl
       replace H : Hd w0 F0 w [osl kRecF (.slice (some ⟨b26, 0, none⟩) 1 1) [(⟨4, R.part, n, (R.g (n).toNat).att, 0, ⟨none, 0, 0⟩, ⟨A21, ((sgTake R.st n ((R.g ((n).toNat)).att) ((R.g ((n).toNat)).cnt)).getD []).length, c22⟩⟩ : RecF)], blk b62 [.int .i64 5, .int .i64 R1.part, .int .i64 0, .int .i64 0, .int .i64 0, .slice A28 ((mergedL J.us.length R1).length) c29, .slice none 0 0] 37, osl (kInt .i64) (.slice A28 ((mergedL J.us.length R1).length) c29) (mergedL J.us.length R1), prsS (R1.g) (setD hv1 ((n).toNat) (.slice A13 (((sgTake R.st n ((R.g ((n).toNat)).att) ((R.g ((n).toNat)).cnt)).getD []).length) c14 : Value)), osl (kHd kPair) (.slice A5 J.us.length c6) J.us, osl kIns vM J.map, osl kIns vC J.comb, osl kIns vR J.red, osl (kInt .i64) vK J.marks, stgI 253 sb (R1.st), osl kPair (.slice A21 (((sgTake R.st n ((R.g ((n).toNat)).att) ((R.g ((n).toNat)).cnt)).getD []).length) c22) ((sgTake R.st n ((R.g ((n).toNat)).att) ((R.g ((n).toNat)).cnt)).getD []), blk r (redC (.slice A5 J.us.length c6) vM vC vR vK J cw ct co R1.part R1.ep R1.g (setD hv1 ((n).toNat) (.slice A13 (((sgTake R.st n ((R.g ((n).toNat)).att) ((R.g ((n).toNat)).cnt)).getD []).length) c14 : Value)) sb (.slice A57 ((us3 ++ [((.slice A51 ((mergedL J.us.length R1).length) c52 : Value), mergedL J.us.length R1)]).length) c58)) 185, osl (kHd (kInt .i64)) (.slice A57 ((us3 ++ [((.slice A51 ((mergedL J.us.length R1).length) c52 : Value), mergedL J.us.length R1)]).length) c58) (us3 ++ [((.slice A51 ((mergedL J.us.length R1).length) c52 : Value), mergedL J.us.length R1)])] [] := H.turn (fun F h => blk_osl h rfl (by decide) rfl)
       refine s_appF (xs := [(⟨4, R.part, n, (R.g (n).toNat).att, 0, ⟨none, 0, 0⟩, ⟨A21, ((sgTake R.st n ((R.g ((n).toNat)).att) ((R.g ((n).toNat)).cnt)).getD []).length, c22⟩⟩ : RecF)]) (ys := [(⟨5, R1.part, 0, 0, 0, ⟨A28, (mergedL J.us.length R1).length, c29⟩, ⟨none, 0, 0⟩⟩ : RecF)]) rfl rfl rfl sl29 zr37 rfl (by decide) rfl rfl H (by first | omega | (simp only [List.length_append, List.length_cons, List.length_nil]; omega)) (fun F hA hR => blk_rsl (hA _ (List.mem_of_getElem? (i := 0) rfl)) rfl (by decide) (RepsR.flat_eq.2 rfl)) (fun v63 w H => ?_)
       replace H := H.h1 (A := osl kRecF v63 ([(⟨4, R.part, n, (R.g (n).toNat).att, 0, ⟨none, 0, 0⟩, ⟨A21, ((sgTake R.st n ((R.g ((n).toNat)).att) ((R.g ((n).toNat)).cnt)).getD []).length, c22⟩⟩ : RecF)] ++ [(⟨5, R1.part, 0, 0, 0, ⟨A28, (mergedL J.us.length R1).length, c29⟩, ⟨none, 0, 0⟩⟩ : RecF)]))
       refine s_1 rfl (s_nil (q_then (c_seq (c_reg (s_k 2 rfl (s_nil (q_then (c_ret (q_ret1 rfl rfl ?_)))))))))
       have e := looks_two hnn hto htk hpl hR1 h33
       replace H := H.p2.pick 10 rfl |>.p2 |>.pick 10 rfl |>.pick 12 rfl |>.p6 |>.pick 11 rfl |>.pick 11 rfl |>.pick 11 rfl |>.pick 11 rfl |>.pick 11 rfl |>.pick 12 rfl |>.keep 12
       replace H : Hd _ _ _ [blk r (redC (.slice A5 J.us.length c6) vM vC vR vK J cw ct co (({ R1 with sets := R1.sets ++ [mergedL J.us.length R1] } : Red).part) (({ R1 with sets := R1.sets ++ [mergedL J.us.length R1] } : Red).ep) (({ R1 with sets := R1.sets ++ [mergedL J.us.length R1] } : Red).g) (setD hv1 ((n).toNat) (.slice A13 (((sgTake R.st n ((R.g ((n).toNat)).att) ((R.g ((n).toNat)).cnt)).getD []).length) c14 : Value)) sb (.slice A57 ((us3 ++ [((.slice A51 ((mergedL J.us.length R1).length) c52 : Value), mergedL J.us.length R1)]).length) c58)) 185, osl (kHd kPair) (.slice A5 J.us.length c6) J.us, osl kIns vM J.map, osl kIns vC J.comb, osl kIns vR J.red, osl (kInt .i64) vK J.marks, prsS (({ R1 with sets := R1.sets ++ [mergedL J.us.length R1] } : Red).g) (setD hv1 ((n).toNat) (.slice A13 (((sgTake R.st n ((R.g ((n).toNat)).att) ((R.g ((n).toNat)).cnt)).getD []).length) c14 : Value)), osl (kHd (kInt .i64)) (.slice A57 ((us3 ++ [((.slice A51 ((mergedL J.us.length R1).length) c52 : Value), mergedL J.us.length R1)]).length) c58) (us3 ++ [((.slice A51 ((mergedL J.us.length R1).length) c52 : Value), mergedL J.us.length R1)]), stgI 253 sb (({ R1 with sets := R1.sets ++ [mergedL J.us.length R1] } : Red).st), osl kRecF v63 ([(⟨4, R.part, n, (R.g (n).toNat).att, 0, ⟨none, 0, 0⟩, ⟨A21, ((sgTake R.st n ((R.g ((n).toNat)).att) ((R.g ((n).toNat)).cnt)).getD []).length, c22⟩⟩ : RecF)] ++ [(⟨5, R1.part, 0, 0, 0, ⟨A28, (mergedL J.us.length R1).length, c29⟩, ⟨none, 0, 0⟩⟩ : RecF)]), osl kPair (.slice A21 (((sgTake R.st n ((R.g ((n).toNat)).att) ((R.g ((n).toNat)).cnt)).getD []).length) c22) ((sgTake R.st n ((R.g ((n).toNat)).att) ((R.g ((n).toNat)).cnt)).getD []), osl (kInt .i64) (.slice A28 ((mergedL J.us.length R1).length) c29) (mergedL J.us.length R1)] [] := H
       replace H := redI_shut r (.slice A5 J.us.length c6) vM vC vR vK J cw ct co sb ({ R1 with sets := R1.sets ++ [mergedL J.us.length R1] } : Red) (setD hv1 ((n).toNat) (.slice A13 (((sgTake R.st n ((R.g ((n).toNat)).att) ((R.g ((n).toNat)).cnt)).getD []).length) c14 : Value)) (.slice A57 ((us3 ++ [((.slice A51 ((mergedL J.us.length R1).length) c52 : Value), mergedL J.us.length R1)]).length) c58) (us3 ++ [((.slice A51 ((mergedL J.us.length R1).length) c52 : Value), mergedL J.us.length R1)]) (by rw [List.map_append, hsets4, ← hs1]; rfl) H
       replace H := H.h1 (A := redI r (.slice A5 J.us.length c6) vM vC vR vK J cw ct co sb ({ R1 with sets := R1.sets ++ [mergedL J.us.length R1] } : Red)) |>.rec0 |>.h1 (A := recS []) |>.p3
       replace H := Hd.recN (r := (⟨4, R.part, n, (R.g (n).toNat).att, 0, .slice none 0 0, [], .slice A21 (((sgTake R.st n ((R.g ((n).toNat)).att) ((R.g ((n).toNat)).cnt)).getD []).length) c22, (sgTake R.st n (R.g (n).toNat).att (R.g (n).toNat).cnt).getD []⟩ : Rec)) (H.newnil (kInt .i64))
       replace H := H.h1 (A := recS ([] ++ [(⟨4, R.part, n, (R.g (n).toNat).att, 0, .slice none 0 0, [], .slice A21 (((sgTake R.st n ((R.g ((n).toNat)).att) ((R.g ((n).toNat)).cnt)).getD []).length) c22, (sgTake R.st n (R.g (n).toNat).att (R.g (n).toNat).cnt).getD []⟩ : Rec)])) |>.newnil kPair |>.p4
       replace H := Hd.recN (r := (⟨5, R1.part, 0, 0, 0, .slice A28 ((mergedL J.us.length R1).length) c29, mergedL J.us.length R1, .slice none 0 0, []⟩ : Rec)) H
       replace H := H.h1 (A := recS ([] ++ [(⟨4, R.part, n, (R.g (n).toNat).att, 0, .slice none 0 0, [], .slice A21 (((sgTake R.st n ((R.g ((n).toNat)).att) ((R.g ((n).toNat)).cnt)).getD []).length) c22, (sgTake R.st n (R.g (n).toNat).att (R.g (n).toNat).cnt).getD []⟩ : Rec)] ++ [(⟨5, R1.part, 0, 0, 0, .slice A28 ((mergedL J.us.length R1).length) c29, mergedL J.us.length R1, .slice none 0 0, []⟩ : Rec)])) |>.p2 |>.h1 (A := osl kRecF v63 (([] ++ [(⟨4, R.part, n, (R.g (n).toNat).att, 0, .slice none 0 0, [], .slice A21 (((sgTake R.st n ((R.g ((n).toNat)).att) ((R.g ((n).toNat)).cnt)).getD []).length) c22, (sgTake R.st n (R.g (n).toNat).att (R.g (n).toNat).cnt).getD []⟩ : Rec)] ++ [(⟨5, R1.part, 0, 0, 0, .slice A28 ((mergedL J.us.length R1).length) c29, mergedL J.us.length R1, .slice none 0 0, []⟩ : Rec)]).map toF)) |>.recI |>.h1 (A := osl kRec v63 ([] ++ [(⟨4, R.part, n, (R.g (n).toNat).att, 0, .slice none 0 0, [], .slice A21 (((sgTake R.st n ((R.g ((n).toNat)).att) ((R.g ((n).toNat)).cnt)).getD []).length) c22, (sgTake R.st n (R.g (n).toNat).att (R.g (n).toNat).cnt).getD []⟩ : Rec)] ++ [(⟨5, R1.part, 0, 0, 0, .slice A28 ((mergedL J.us.length R1).length) c29, mergedL J.us.length R1, .slice none 0 0, []⟩ : Rec)]))
       exact fin ⟨[] ++ [(⟨4, R.part, n, (R.g (n).toNat).att, 0, .slice none 0 0, [], .slice A21 (((sgTake R.st n ((R.g ((n).toNat)).att) ((R.g ((n).toNat)).cnt)).getD []).length) c22, (sgTake R.st n (R.g (n).toNat).att (R.g (n).toNat).cnt).getD []⟩ : Rec)] ++ [(⟨5, R1.part, 0, 0, 0, .slice A28 ((mergedL J.us.length R1).length) c29, mergedL J.us.length R1, .slice none 0 0, []⟩ : Rec)], by rw [e] <;> rfl, by rw [e, hR1]; rfl⟩ H
      ·obtain ⟨A65, c66, rfl, hc67, hm68, hp69⟩ := H.fA 10 rfl
       refine s_bsl (parts := [(0, .tmp 83)]) (vs := [.slice A65 ((mergedL J.us.length R1).length) c66]) (cs := [.slice A65 ((mergedL J.us.length R1).length) c66]) rfl rfl rfl sl144 zr24 rfl (by decide) (by decide) rfl rfl H (fun b64 w H => ?_)
       replace H : Hd _ _ _ [blk b64 [.slice A65 ((mergedL J.us.length R1).length) c66] 24, osl (kInt .i64) (.slice A28 ((mergedL J.us.length R1).length) c29) (mergedL J.us.length R1), prsS (R1.g) (setD hv1 ((n).toNat) (.slice A13 (((sgTake R.st n ((R.g ((n).toNat)).att) ((R.g ((n).toNat)).cnt)).getD []).length) c14 : Value)), osl (kHd kPair) (.slice A5 J.us.length c6) J.us, osl kIns vM J.map, osl kIns vC J.comb, osl kIns vR J.red, osl (kInt .i64) vK J.marks, stgI 253 sb (R1.st), osl kPair (.slice A21 (((sgTake R.st n ((R.g ((n).toNat)).att) ((R.g ((n).toNat)).cnt)).getD []).length) c22) ((sgTake R.st n ((R.g ((n).toNat)).att) ((R.g ((n).toNat)).cnt)).getD []), blk b26 [.int .i64 4, .int .i64 R.part, .int .i64 n, .int .i64 ((R.g (n).toNat).att), .int .i64 0, .slice none 0 0, .slice A21 (((sgTake R.st n ((R.g ((n).toNat)).att) ((R.g ((n).toNat)).cnt)).getD []).length) c22] 37, osl (kInt .i64) (.slice A65 ((mergedL J.us.length R1).length) c66) (mergedL J.us.length R1), blk r (redC (.slice A5 J.us.length c6) vM vC vR vK J cw ct co R1.part R1.ep R1.g (setD hv1 ((n).toNat) (.slice A13 (((sgTake R.st n ((R.g ((n).toNat)).att) ((R.g ((n).toNat)).cnt)).getD []).length) c14 : Value)) sb vs2) 185, osl (kHd (kInt .i64)) vs2 us3] [] := H
       replace H := H.pick 10 rfl |>.pick 10 rfl |>.pick 10 rfl |>.pick 10 rfl |>.pick 10 rfl |>.pick 10 rfl |>.pick 10 rfl |>.pick 10 rfl |>.pick 10 rfl |>.pick 10 rfl
       refine d_back ⟨_, H⟩ (d_main rfl (s_val rfl rfl (r_ld rfl ty144 rfl (H.cellI 12 rfl rfl)) (d_back ⟨_, H⟩ (d_main rfl ?_))))
       replace H := H.pick 13 rfl |>.pick 12 rfl |>.pick 12 rfl |>.p2
       refine s_appH rfl rfl rfl sl144 zr24 rfl (by decide) rfl rfl H (by first | omega | (simp only [List.length_append, List.length_cons, List.length_nil]; omega)) (fun v70 w H => ?_)
       replace H := H.h1 (A := osl (kHd (kInt .i64)) v70 (us3 ++ [((.slice A65 ((mergedL J.us.length R1).length) c66 : Value), mergedL J.us.length R1)])) |>.pick 10 rfl |>.pick 10 rfl |>.pick 10 rfl |>.pick 10 rfl |>.pick 10 rfl |>.pick 10 rfl |>.pick 10 rfl |>.pick 10 rfl |>.pick 10 rfl |>.pick 10 rfl
       refine d_back ⟨_, H⟩ (d_val rfl rfl rfl (fun w ⟨Ar, H⟩ => r_nilP rfl rfl) (d_val rfl rfl rfl (fun w ⟨Ar, H⟩ => r_fa rfl fo185_5 rfl) (d_main rfl ?_)))
       obtain ⟨A71, c72, rfl, hc73, hm74, hp75⟩ := H.fA 10 rfl
       replace H := H.pick 11 rfl
       refine s_st rfl rfl rfl ty144 rfl rfl H rfl (Nat.le_of_ble_eq_true rfl) (fun u hu => by simp [Value.cells] at hu; subst hu; rfl) (fun w H => ?_)
       replace H : Hd _ _ _ [blk r (redC (.slice A5 J.us.length c6) vM vC vR vK J cw ct co R1.part R1.ep R1.g (setD hv1 ((n).toNat) (.slice A13 (((sgTake R.st n ((R.g ((n).toNat)).att) ((R.g ((n).toNat)).cnt)).getD []).length) c14 : Value)) sb (.slice A71 ((us3 ++ [((.slice A65 ((mergedL J.us.length R1).length) c66 : Value), mergedL J.us.length R1)]).length) c72)) 185, osl (kInt .i64) (.slice A28 ((mergedL J.us.length R1).length) c29) (mergedL J.us.length R1), prsS (R1.g) (setD hv1 ((n).toNat) (.slice A13 (((sgTake R.st n ((R.g ((n).toNat)).att) ((R.g ((n).toNat)).cnt)).getD []).length) c14 : Value)), osl (kHd kPair) (.slice A5 J.us.length c6) J.us, osl kIns vM J.map, osl kIns vC J.comb, osl kIns vR J.red, osl (kInt .i64) vK J.marks, stgI 253 sb (R1.st), osl kPair (.slice A21 (((sgTake R.st n ((R.g ((n).toNat)).att) ((R.g ((n).toNat)).cnt)).getD []).length) c22) ((sgTake R.st n ((R.g ((n).toNat)).att) ((R.g ((n).toNat)).cnt)).getD []), blk b26 [.int .i64 4, .int .i64 R.part, .int .i64 n, .int .i64 ((R.g (n).toNat).att), .int .i64 0, .slice none 0 0, .slice A21 (((sgTake R.st n ((R.g ((n).toNat)).att) ((R.g ((n).toNat)).cnt)).getD []).length) c22] 37, osl (kHd (kInt .i64)) (.slice A71 ((us3 ++ [((.slice A65 ((mergedL J.us.length R1).length) c66 : Value), mergedL J.us.length R1)]).length) c72) (us3 ++ [((.slice A65 ((mergedL J.us.length R1).length) c66 : Value), mergedL J.us.length R1)])] [] := H
       replace H := H.pick 10 rfl |>.pick 10 rfl |>.pick 10 rfl |>.pick 10 rfl |>.pick 10 rfl |>.pick 10 rfl |>.pick 10 rfl |>.pick 10 rfl |>.pick 10 rfl |>.pick 10 rfl
       refine d_back ⟨_, H⟩ (d_nil (q_then (c_reg (s_k 2 rfl (s_val rfl rfl (r_nilP rfl rfl) (s_val rfl rfl (r_fa rfl fo185_1 rfl) (s_val rfl rfl (r_ld rfl ty3 rfl (H.cellI 10 rfl rfl)) (s_1 rfl (s_val rfl rfl (r_bd (parts := [(0, .const (.int .i64 5)), (1, .tmp 92), (5, .tmp 93)]) (vs := [.int .i64 5, .int .i64 R1.part, .slice A28 ((mergedL J.us.length R1).length) c29]) (cs := [.int .i64 5, .int .i64 R1.part, .int .i64 0, .int .i64 0, .int .i64 0, .slice A28 ((mergedL J.us.length R1).length) c29, .slice none 0 0]) rfl bd37 rfl rfl) (s_bsl (parts := [(0, .tmp 94)]) (vs := [.agg #[.int .i64 5, .int .i64 R1.part, .int .i64 0, .int .i64 0, .int .i64 0, .slice A28 ((mergedL J.us.length R1).length) c29, .slice none 0 0]]) (cs := [.int .i64 5, .int .i64 R1.part, .int .i64 0, .int .i64 0, .int .i64 0, .slice A28 ((mergedL J.us.length R1).length) c29, .slice none 0 0]) rfl rfl rfl sl29 zr37 rfl (by decide) (by decide) rfl rfl H (fun b76 w H => ?_)))))))))))
       replace H := H.h1 (A := blk b76 [.int .i64 5, .int .i64 R1.part, .int .i64 0, .int .i64 0, .int .i64 0, .slice A28 ((mergedL J.us.length R1).length) c29, .slice none 0 0] 37) |>.pick 10 rfl
       replace H : Hd w0 F0 w [osl kRecF (.slice (some ⟨b26, 0, none⟩) 1 1) [(⟨4, R.part, n, (R.g (n).toNat).att, 0, ⟨none, 0, 0⟩, ⟨A21, ((sgTake R.st n ((R.g ((n).toNat)).att) ((R.g ((n).toNat)).cnt)).getD []).length, c22⟩⟩ : RecF)], blk b76 [.int .i64 5, .int .i64 R1.part, .int .i64 0, .int .i64 0, .int .i64 0, .slice A28 ((mergedL J.us.length R1).length) c29, .slice none 0 0] 37, osl (kInt .i64) (.slice A28 ((mergedL J.us.length R1).length) c29) (mergedL J.us.length R1), prsS (R1.g) (setD hv1 ((n).toNat) (.slice A13 (((sgTake R.st n ((R.g ((n).toNat)).att) ((R.g ((n).toNat)).cnt)).getD []).length) c14 : Value)), osl (kHd kPair) (.slice A5 J.us.length c6) J.us, osl kIns vM J.map, osl kIns vC J.comb, osl kIns vR J.red, osl (kInt .i64) vK J.marks, stgI 253 sb (R1.st), osl kPair (.slice A21 (((sgTake R.st n ((R.g ((n).toNat)).att) ((R.g ((n).toNat)).cnt)).getD []).length) c22) ((sgTake R.st n ((R.g ((n).toNat)).att) ((R.g ((n).toNat)).cnt)).getD []), blk r (redC (.slice A5 J.us.length c6) vM vC vR vK J cw ct co R1.part R1.ep R1.g (setD hv1 ((n).toNat) (.slice A13 (((sgTake R.st n ((R.g ((n).toNat)).att) ((R.g ((n).toNat)).cnt)).getD []).length) c14 : Value)) sb (.slice A71 ((us3 ++ [((.slice A65 ((mergedL J.us.length R1).length) c66 : Value), mergedL J.us.length R1)]).length) c72)) 185, osl (kHd (kInt .i64)) (.slice A71 ((us3 ++ [((.slice A65 ((mergedL J.us.length R1).length) c66 : Value), mergedL J.us.length R1)]).length) c72) (us3 ++ [((.slice A65 ((mergedL J.us.length R1).length) c66 : Value), mergedL J.us.length R1)])] [] := H.turn (fun F h => blk_osl h rfl (by decide) rfl)
       refine s_appF (xs := [(⟨4, R.part, n, (R.g (n).toNat).att, 0, ⟨none, 0, 0⟩, ⟨A21, ((sgTake R.st n ((R.g ((n).toNat)).att) ((R.g ((n).toNat)).cnt)).getD []).length, c22⟩⟩ : RecF)]) (ys := [(⟨5, R1.part, 0, 0, 0, ⟨A28, (mergedL J.us.length R1).length, c29⟩, ⟨none, 0, 0⟩⟩ : RecF)]) rfl rfl rfl sl29 zr37 rfl (by decide) rfl rfl H (by first | omega | (simp only [List.length_append, List.length_cons, List.length_nil]; omega)) (fun F hA hR => blk_rsl (hA _ (List.mem_of_getElem? (i := 0) rfl)) rfl (by decide) (RepsR.flat_eq.2 rfl)) (fun v77 w H => ?_)
       replace H := H.h1 (A := osl kRecF v77 ([(⟨4, R.part, n, (R.g (n).toNat).att, 0, ⟨none, 0, 0⟩, ⟨A21, ((sgTake R.st n ((R.g ((n).toNat)).att) ((R.g ((n).toNat)).cnt)).getD []).length, c22⟩⟩ : RecF)] ++ [(⟨5, R1.part, 0, 0, 0, ⟨A28, (mergedL J.us.length R1).length, c29⟩, ⟨none, 0, 0⟩⟩ : RecF)]))
       refine s_1 rfl (s_nil (q_then (c_seq (c_reg (s_k 2 rfl (s_nil (q_then (c_ret (q_ret1 rfl rfl ?_)))))))))
       have e := looks_two hnn hto htk hpl hR1 h33
       replace H := H.p2.pick 10 rfl |>.p2 |>.pick 10 rfl |>.pick 12 rfl |>.p6 |>.pick 11 rfl |>.pick 11 rfl |>.pick 11 rfl |>.pick 11 rfl |>.pick 11 rfl |>.pick 12 rfl |>.keep 12
       replace H : Hd _ _ _ [blk r (redC (.slice A5 J.us.length c6) vM vC vR vK J cw ct co (({ R1 with sets := R1.sets ++ [mergedL J.us.length R1] } : Red).part) (({ R1 with sets := R1.sets ++ [mergedL J.us.length R1] } : Red).ep) (({ R1 with sets := R1.sets ++ [mergedL J.us.length R1] } : Red).g) (setD hv1 ((n).toNat) (.slice A13 (((sgTake R.st n ((R.g ((n).toNat)).att) ((R.g ((n).toNat)).cnt)).getD []).length) c14 : Value)) sb (.slice A71 ((us3 ++ [((.slice A65 ((mergedL J.us.length R1).length) c66 : Value), mergedL J.us.length R1)]).length) c72)) 185, osl (kHd kPair) (.slice A5 J.us.length c6) J.us, osl kIns vM J.map, osl kIns vC J.comb, osl kIns vR J.red, osl (kInt .i64) vK J.marks, prsS (({ R1 with sets := R1.sets ++ [mergedL J.us.length R1] } : Red).g) (setD hv1 ((n).toNat) (.slice A13 (((sgTake R.st n ((R.g ((n).toNat)).att) ((R.g ((n).toNat)).cnt)).getD []).length) c14 : Value)), osl (kHd (kInt .i64)) (.slice A71 ((us3 ++ [((.slice A65 ((mergedL J.us.length R1).length) c66 : Value), mergedL J.us.length R1)]).length) c72) (us3 ++ [((.slice A65 ((mergedL J.us.length R1).length) c66 : Value), mergedL J.us.length R1)]), stgI 253 sb (({ R1 with sets := R1.sets ++ [mergedL J.us.length R1] } : Red).st), osl kRecF v77 ([(⟨4, R.part, n, (R.g (n).toNat).att, 0, ⟨none, 0, 0⟩, ⟨A21, ((sgTake R.st n ((R.g ((n).toNat)).att) ((R.g ((n).toNat)).cnt)).getD []).length, c22⟩⟩ : RecF)] ++ [(⟨5, R1.part, 0, 0, 0, ⟨A28, (mergedL J.us.length R1).length, c29⟩, ⟨none, 0, 0⟩⟩ : RecF)]), osl kPair (.slice A21 (((sgTake R.st n ((R.g ((n).toNat)).att) ((R.g ((n).toNat)).cnt)).getD []).length) c22) ((sgTake R.st n ((R.g ((n).toNat)).att) ((R.g ((n).toNat)).cnt)).getD []), osl (kInt .i64) (.slice A28 ((mergedL J.us.length R1).length) c29) (mergedL J.us.length R1)] [] := H
       replace H := redI_shut r (.slice A5 J.us.length c6) vM vC vR vK J cw ct co sb ({ R1 with sets := R1.sets ++ [mergedL J.us.length R1] } : Red) (setD hv1 ((n).toNat) (.slice A13 (((sgTake R.st n ((R.g ((n).toNat)).att) ((R.g ((n).toNat)).cnt)).getD []).length) c14 : Value)) (.slice A71 ((us3 ++ [((.slice A65 ((mergedL J.us.length R1).length) c66 : Value), mergedL J.us.length R1)]).length) c72) (us3 ++ [((.slice A65 ((mergedL J.us.length R1).length) c66 : Value), mergedL J.us.length R1)]) (by rw [List.map_append, hsets4, ← hs1]; rfl) H
       replace H := H.h1 (A := redI r (.slice A5 J.us.length c6) vM vC vR vK J cw ct co sb ({ R1 with sets := R1.sets ++ [mergedL J.us.length R1] } : Red)) |>.rec0 |>.h1 (A := recS []) |>.p3
       replace H := Hd.recN (r := (⟨4, R.part, n, (R.g (n).toNat).att, 0, .slice none 0 0, [], .slice A21 (((sgTake R.st n ((R.g ((n).toNat)).att) ((R.g ((n).toNat)).cnt)).getD []).length) c22, (sgTake R.st n (R.g (n).toNat).att (R.g (n).toNat).cnt).getD []⟩ : Rec)) (H.newnil (kInt .i64))
       replace H := H.h1 (A := recS ([] ++ [(⟨4, R.part, n, (R.g (n).toNat).att, 0, .slice none 0 0, [], .slice A21 (((sgTake R.st n ((R.g ((n).toNat)).att) ((R.g ((n).toNat)).cnt)).getD []).length) c22, (sgTake R.st n (R.g (n).toNat).att (R.g (n).toNat).cnt).getD []⟩ : Rec)])) |>.newnil kPair |>.p4
       replace H := Hd.recN (r := (⟨5, R1.part, 0, 0, 0, .slice A28 ((mergedL J.us.length R1).length) c29, mergedL J.us.length R1, .slice none 0 0, []⟩ : Rec)) H
       replace H := H.h1 (A := recS ([] ++ [(⟨4, R.part, n, (R.g (n).toNat).att, 0, .slice none 0 0, [], .slice A21 (((sgTake R.st n ((R.g ((n).toNat)).att) ((R.g ((n).toNat)).cnt)).getD []).length) c22, (sgTake R.st n (R.g (n).toNat).att (R.g (n).toNat).cnt).getD []⟩ : Rec)] ++ [(⟨5, R1.part, 0, 0, 0, .slice A28 ((mergedL J.us.length R1).length) c29, mergedL J.us.length R1, .slice none 0 0, []⟩ : Rec)])) |>.p2 |>.h1 (A := osl kRecF v77 (([] ++ [(⟨4, R.part, n, (R.g (n).toNat).att, 0, .slice none 0 0, [], .slice A21 (((sgTake R.st n ((R.g ((n).toNat)).att) ((R.g ((n).toNat)).cnt)).getD []).length) c22, (sgTake R.st n (R.g (n).toNat).att (R.g (n).toNat).cnt).getD []⟩ : Rec)] ++ [(⟨5, R1.part, 0, 0, 0, .slice A28 ((mergedL J.us.length R1).length) c29, mergedL J.us.length R1, .slice none 0 0, []⟩ : Rec)]).map toF)) |>.recI |>.h1 (A := osl kRec v77 ([] ++ [(⟨4, R.part, n, (R.g (n).toNat).att, 0, .slice none 0 0, [], .slice A21 (((sgTake R.st n ((R.g ((n).toNat)).att) ((R.g ((n).toNat)).cnt)).getD []).length) c22, (sgTake R.st n (R.g (n).toNat).att (R.g (n).toNat).cnt).getD []⟩ : Rec)] ++ [(⟨5, R1.part, 0, 0, 0, .slice A28 ((mergedL J.us.length R1).length) c29, mergedL J.us.length R1, .slice none 0 0, []⟩ : Rec)]))
       exact fin ⟨[] ++ [(⟨4, R.part, n, (R.g (n).toNat).att, 0, .slice none 0 0, [], .slice A21 (((sgTake R.st n ((R.g ((n).toNat)).att) ((R.g ((n).toNat)).cnt)).getD []).length) c22, (sgTake R.st n (R.g (n).toNat).att (R.g (n).toNat).cnt).getD []⟩ : Rec)] ++ [(⟨5, R1.part, 0, 0, 0, .slice A28 ((mergedL J.us.length R1).length) c29, mergedL J.us.length R1, .slice none 0 0, []⟩ : Rec)], by rw [e] <;> rfl, by rw [e, hR1]; rfl⟩ H
    ·refine c_skip (q_then (c_seq (c_reg (s_k 2 rfl (s_nil (q_then (c_ret (q_ret1 rfl rfl ?_))))))))
     replace H := H.pick 11 rfl
     replace H : Hd _ _ _ [blk b26 [.int .i64 4, .int .i64 R.part, .int .i64 n, .int .i64 ((R.g (n).toNat).att), .int .i64 0, .slice none 0 0, .slice A21 (((sgTake R.st n ((R.g ((n).toNat)).att) ((R.g ((n).toNat)).cnt)).getD []).length) c22] 37, osl (kInt .i64) (.slice A28 ((mergedL J.us.length R1).length) c29) (mergedL J.us.length R1), prsS (R1.g) (setD hv1 ((n).toNat) (.slice A13 (((sgTake R.st n ((R.g ((n).toNat)).att) ((R.g ((n).toNat)).cnt)).getD []).length) c14 : Value)), blk r (redC (.slice A5 J.us.length c6) vM vC vR vK J cw ct co R1.part R1.ep R1.g (setD hv1 ((n).toNat) (.slice A13 (((sgTake R.st n ((R.g ((n).toNat)).att) ((R.g ((n).toNat)).cnt)).getD []).length) c14 : Value)) sb vs2) 185, osl (kHd kPair) (.slice A5 J.us.length c6) J.us, osl kIns vM J.map, osl kIns vC J.comb, osl kIns vR J.red, osl (kInt .i64) vK J.marks, osl (kHd (kInt .i64)) vs2 us3, stgI 253 sb (R1.st), osl kPair (.slice A21 (((sgTake R.st n ((R.g ((n).toNat)).att) ((R.g ((n).toNat)).cnt)).getD []).length) c22) ((sgTake R.st n ((R.g ((n).toNat)).att) ((R.g ((n).toNat)).cnt)).getD [])] [] := H
     replace H : Hd w0 F0 w [osl kRecF (.slice (some ⟨b26, 0, none⟩) 1 1) [(⟨4, R.part, n, (R.g (n).toNat).att, 0, ⟨none, 0, 0⟩, ⟨A21, ((sgTake R.st n ((R.g ((n).toNat)).att) ((R.g ((n).toNat)).cnt)).getD []).length, c22⟩⟩ : RecF)], osl (kInt .i64) (.slice A28 ((mergedL J.us.length R1).length) c29) (mergedL J.us.length R1), prsS (R1.g) (setD hv1 ((n).toNat) (.slice A13 (((sgTake R.st n ((R.g ((n).toNat)).att) ((R.g ((n).toNat)).cnt)).getD []).length) c14 : Value)), blk r (redC (.slice A5 J.us.length c6) vM vC vR vK J cw ct co R1.part R1.ep R1.g (setD hv1 ((n).toNat) (.slice A13 (((sgTake R.st n ((R.g ((n).toNat)).att) ((R.g ((n).toNat)).cnt)).getD []).length) c14 : Value)) sb vs2) 185, osl (kHd kPair) (.slice A5 J.us.length c6) J.us, osl kIns vM J.map, osl kIns vC J.comb, osl kIns vR J.red, osl (kInt .i64) vK J.marks, osl (kHd (kInt .i64)) vs2 us3, stgI 253 sb (R1.st), osl kPair (.slice A21 (((sgTake R.st n ((R.g ((n).toNat)).att) ((R.g ((n).toNat)).cnt)).getD []).length) c22) ((sgTake R.st n ((R.g ((n).toNat)).att) ((R.g ((n).toNat)).cnt)).getD [])] [] := H.turn (fun F h => blk_osl h rfl (by decide) rfl)
     have e := looks_one hnn hto htk hpl hR1 h33
     replace H := H.pick 11 rfl |>.p1 |>.pick 11 rfl |>.pick 11 rfl |>.p5 |>.pick 11 rfl |>.pick 11 rfl |>.pick 11 rfl |>.pick 11 rfl |>.pick 11 rfl |>.pick 11 rfl |>.keep 11
     replace H := redI_shut r (.slice A5 J.us.length c6) vM vC vR vK J cw ct co sb R1 (setD hv1 ((n).toNat) (.slice A13 (((sgTake R.st n ((R.g ((n).toNat)).att) ((R.g ((n).toNat)).cnt)).getD []).length) c14 : Value)) vs2 us3 (hsets4.trans hs1.symm) H
     replace H := H.h1 (A := redI r (.slice A5 J.us.length c6) vM vC vR vK J cw ct co sb R1) |>.rec0 |>.h1 (A := recS []) |>.p3
     replace H := Hd.recN (r := (⟨4, R.part, n, (R.g (n).toNat).att, 0, .slice none 0 0, [], .slice A21 (((sgTake R.st n ((R.g ((n).toNat)).att) ((R.g ((n).toNat)).cnt)).getD []).length) c22, (sgTake R.st n (R.g (n).toNat).att (R.g (n).toNat).cnt).getD []⟩ : Rec)) (H.newnil (kInt .i64))
     replace H := H.h1 (A := recS ([] ++ [(⟨4, R.part, n, (R.g (n).toNat).att, 0, .slice none 0 0, [], .slice A21 (((sgTake R.st n ((R.g ((n).toNat)).att) ((R.g ((n).toNat)).cnt)).getD []).length) c22, (sgTake R.st n (R.g (n).toNat).att (R.g (n).toNat).cnt).getD []⟩ : Rec)])) |>.p2 |>.h1 (A := osl kRecF (.slice (some ⟨b26, 0, none⟩) 1 1) (([] ++ [(⟨4, R.part, n, (R.g (n).toNat).att, 0, .slice none 0 0, [], .slice A21 (((sgTake R.st n ((R.g ((n).toNat)).att) ((R.g ((n).toNat)).cnt)).getD []).length) c22, (sgTake R.st n (R.g (n).toNat).att (R.g (n).toNat).cnt).getD []⟩ : Rec)]).map toF)) |>.recI |>.h1 (A := osl kRec (.slice (some ⟨b26, 0, none⟩) 1 1) ([] ++ [(⟨4, R.part, n, (R.g (n).toNat).att, 0, .slice none 0 0, [], .slice A21 (((sgTake R.st n ((R.g ((n).toNat)).att) ((R.g ((n).toNat)).cnt)).getD []).length) c22, (sgTake R.st n (R.g (n).toNat).att (R.g (n).toNat).cnt).getD []⟩ : Rec)]))
     exact fin ⟨[] ++ [(⟨4, R.part, n, (R.g (n).toNat).att, 0, .slice none 0 0, [], .slice A21 (((sgTake R.st n ((R.g ((n).toNat)).att) ((R.g ((n).toNat)).cnt)).getD []).length) c22, (sgTake R.st n (R.g (n).toNat).att (R.g (n).toNat).cnt).getD []⟩ : Rec)], by rw [e] <;> rfl, by rw [e, hR1]; rfl⟩ H
end Go.Proofs.YthgehekecfpikaaGreatDoor.X

set_option linter.unusedVariables false
set_option linter.unusedSimpArgs false
namespace Go.Proofs.YthgehekecfpikaaGreatDoor.X
open Go
set_option maxHeartbeats 4000000 in
theorem rwon_ok (r : Nat) (vS : Value) (vM : Value) (vC : Value) (vR : Value) (vK : Value) (J : Job) (cw : Int) (ct : Int) (co : Int) (sb : Nat) (R : Red) (sp : Int) (att : Int) (cnt : Int) (h6 : J.us.length ≤ 6) (hB : OkR 100000 R) (hmk : J.marks.length ≤ 1000) :
    Cn Tryz.prog 49 [.pointer (some ⟨r, 0, none⟩), .int .i64 sp, .int .i64 att, .int .i64 cnt] [redI r vS vM vC vR vK J cw ct co sb R] [] (fun v Bs => ∃ rs : List Rec, Bs = [osl kRec v rs, redI r vS vM vC vR vK J cw ct co sb ((wonR J ct R sp att cnt).1)] ∧ (rs.map Rec.p = (wonR J ct R sp att cnt).2)) := by
 intro w0 F0 H
 obtain ⟨hv1, vs2, us3, hsets4, H⟩ := redI_open r vS vM vC vR vK J cw ct co sb R H
 replace H : Hd _ _ _ [blk r (redC vS vM vC vR vK J cw ct co R.part R.ep R.g hv1 sb vs2) 185, osl (kHd kPair) vS J.us, osl kIns vM J.map, osl kIns vC J.comb, osl kIns vR J.red, osl (kInt .i64) vK J.marks, prsS (R.g) hv1, osl (kHd (kInt .i64)) vs2 us3, stgI 253 sb (R.st)] [] := H
 obtain ⟨A5, c6, rfl, hc7, hm8, hp9⟩ := H.fA 1 rfl
 refine enter Tryz.func49 rfl rfl (Nat.le_of_ble_eq_true rfl) (c_seq (c_reg (s_1 rfl (s_nil (q_then (c_seq ?_))))))
 by_cases hin10 : 0 ≤ sp ∧ sp < ((J.us.length : Nat) : Int)
 ·refine c_reg (s_k 2 rfl (sc (at_ok r A5 J.us.length c6 vM vC vR vK J cw ct co R.part R.ep R.g hv1 sb vs2 sp (by first | assumption | omega) (by first | assumption | omega)) H (lA 0 rfl (fun _ h => h) l0) rfl rfl (e_fn kn118 rfl rfl) ?_))
  rintro _ _ w ⟨rfl, rfl⟩ H
  refine s_1 rfl (s_nil (q_then (c_seq (c_seq (c_reg (s_1 rfl (s_val rfl rfl (r_peq rfl un178 rfl rfl) (s_k 2 rfl (s_val rfl rfl (r_nilP rfl rfl) (s_val rfl rfl (r_fa rfl fo181_0 rfl) (s_val rfl rfl (r_ld rfl ty4 rfl (H.cellI 0 rfl (redC_at0 (by omega)))) (s_k 2 rfl ?_))))))))))))
  refine s_boo (d := 21) (b := (R.g ((sp).toNat)).merged) rfl (fun h11 => ?_) (fun h11 => ?_)
  ·refine s_k 12 rfl (s_k 6 rfl (s_nil (q_then (c_yes rfl (c_seq (c_reg (s_1 rfl (s_nil (q_then (c_ret (q_thenR (q_ret1 rfl rfl ?_))))))))))))
   have e : wonR J ct R sp att cnt = (R, []) := if_pos (.inr (.inl (by simpa using h11)))
   replace H := H.newnil kRec |>.p9 |>.p9 |>.p9 |>.p9 |>.p9 |>.p9 |>.p9 |>.p9 |>.p9
   replace H := redI_shut r (.slice A5 J.us.length c6) vM vC vR vK J cw ct co sb R hv1 vs2 us3 hsets4 H
   replace H := H.h1 (A := redI r (.slice A5 J.us.length c6) vM vC vR vK J cw ct co sb R) |>.p1
   exact fin ⟨[], by rw [e] <;> rfl, by rw [e]; rfl⟩ H
  ·refine s_1 rfl (s_val rfl rfl (r_nilP rfl rfl) (s_val rfl rfl (r_fa rfl fo181_2 rfl) (s_val rfl rfl (r_ld rfl ty4 rfl (H.cellI 0 rfl (redC_at2 (by omega)))) (s_k 2 rfl ?_))))
   refine s_boo (d := 27) (b := (R.g ((sp).toNat)).told) rfl (fun h12 => ?_) (fun h12 => ?_)
   ·refine s_k 12 rfl (s_nil (q_then (c_yes rfl (c_seq (c_reg (s_1 rfl (s_nil (q_then (c_ret (q_thenR (q_ret1 rfl rfl ?_)))))))))))
    have e : wonR J ct R sp att cnt = (R, []) := if_pos (.inr (.inr (.inl (by simpa using h12))))
    replace H := H.newnil kRec |>.p9 |>.p9 |>.p9 |>.p9 |>.p9 |>.p9 |>.p9 |>.p9 |>.p9
    replace H := redI_shut r (.slice A5 J.us.length c6) vM vC vR vK J cw ct co sb R hv1 vs2 us3 hsets4 H
    replace H := H.h1 (A := redI r (.slice A5 J.us.length c6) vM vC vR vK J cw ct co sb R) |>.p1
    exact fin ⟨[], by rw [e] <;> rfl, by rw [e]; rfl⟩ H
   ·refine s_1 rfl (s_val rfl rfl (r_lt rfl rfl rfl) (s_k 2 rfl ?_))
    refine s_dec (d := 31) rfl (fun h13 => ?_) (fun h13 => ?_)
    ·refine s_k 8 rfl (s_nil (q_then (c_yes rfl (c_seq (c_reg (s_1 rfl (s_nil (q_then (c_ret (q_thenR (q_ret1 rfl rfl ?_)))))))))))
     have e : wonR J ct R sp att cnt = (R, []) := if_pos (.inr (.inr (.inr (.inl h13))))
     replace H := H.newnil kRec |>.p9 |>.p9 |>.p9 |>.p9 |>.p9 |>.p9 |>.p9 |>.p9 |>.p9
     replace H := redI_shut r (.slice A5 J.us.length c6) vM vC vR vK J cw ct co sb R hv1 vs2 us3 hsets4 H
     replace H := H.h1 (A := redI r (.slice A5 J.us.length c6) vM vC vR vK J cw ct co sb R) |>.p1
     exact fin ⟨[], by rw [e] <;> rfl, by rw [e]; rfl⟩ H
    ·refine s_k 2 rfl (s_val rfl rfl (r_nilP rfl rfl) (s_val rfl rfl (r_fa rfl fo185_0 rfl) (s_val rfl rfl (r_fa rfl fo28_2 rfl) (s_val rfl rfl (r_ld rfl ty3 rfl (H.cellI 0 rfl rfl)) (s_val rfl rfl (r_gt rfl rfl rfl) (s_1 rfl (s_nil (q_then ?_))))))))
     refine c_dec rfl (fun h14 => ?_) (fun h14 => ?_)
     ·refine c_seq (c_reg (s_1 rfl (s_nil (q_then (c_ret (q_thenR (q_ret1 rfl rfl ?_)))))))
      have e : wonR J ct R sp att cnt = (R, []) := if_pos (.inr (.inr (.inr (.inr (by omega)))))
      replace H := H.newnil kRec |>.p9 |>.p9 |>.p9 |>.p9 |>.p9 |>.p9 |>.p9 |>.p9 |>.p9
      replace H := redI_shut r (.slice A5 J.us.length c6) vM vC vR vK J cw ct co sb R hv1 vs2 us3 hsets4 H
      replace H := H.h1 (A := redI r (.slice A5 J.us.length c6) vM vC vR vK J cw ct co sb R) |>.p1
      exact fin ⟨[], by rw [e] <;> rfl, by rw [e]; rfl⟩ H
     ·refine c_skip (q_then (c_seq (c_reg (s_k 5 rfl (s_val rfl rfl (r_nilP rfl rfl) (s_val rfl rfl (r_fa rfl fo181_2 rfl) (s_st rfl rfl rfl ty4 rfl rfl H rfl (by show 14 + ((sp).toNat) * 5 + 2 + 1 ≤ 46; omega) (fun u hu => by simp [Value.cells] at hu; subst hu; rfl) (fun w H => ?_))))))))
      replace H : Hd w0 F0 w [blk r (redC (.slice A5 J.us.length c6) vM vC vR vK J cw ct co R.part R.ep (setD R.g ((sp).toNat) { R.g ((sp).toNat) with told := true }) hv1 sb vs2) 185, osl (kHd kPair) (.slice A5 J.us.length c6) J.us, osl kIns vM J.map, osl kIns vC J.comb, osl kIns vR J.red, osl (kInt .i64) vK J.marks, prsS (R.g) hv1, osl (kHd (kInt .i64)) vs2 us3, stgI 253 sb (R.st)] [] := by rw [← redC_put2 (show (sp).toNat < 6 by omega) true]; exact H
      refine s_val rfl rfl (r_nilP rfl rfl) (s_val rfl rfl (r_fa rfl fo181_3 rfl) (s_st rfl rfl rfl ty3 rfl rfl H rfl (by show 14 + ((sp).toNat) * 5 + 3 + 1 ≤ 46; omega) (fun u hu => by simp [Value.cells] at hu; subst hu; rfl) (fun w H => ?_)))
      replace H : Hd w0 F0 w [blk r (redC (.slice A5 J.us.length c6) vM vC vR vK J cw ct co R.part R.ep (setD (setD R.g ((sp).toNat) { R.g ((sp).toNat) with told := true }) ((sp).toNat) { (setD R.g ((sp).toNat) { R.g ((sp).toNat) with told := true }) ((sp).toNat) with att := att }) hv1 sb vs2) 185, osl (kHd kPair) (.slice A5 J.us.length c6) J.us, osl kIns vM J.map, osl kIns vC J.comb, osl kIns vR J.red, osl (kInt .i64) vK J.marks, prsS (R.g) hv1, osl (kHd (kInt .i64)) vs2 us3, stgI 253 sb (R.st)] [] := by rw [← redC_put3 (show (sp).toNat < 6 by omega) att]; exact H
      refine s_val rfl rfl (r_nilP rfl rfl) (s_val rfl rfl (r_fa rfl fo181_4 rfl) (s_st rfl rfl rfl ty3 rfl rfl H rfl (by show 14 + ((sp).toNat) * 5 + 4 + 1 ≤ 46; omega) (fun u hu => by simp [Value.cells] at hu; subst hu; rfl) (fun w H => ?_)))
      replace H : Hd w0 F0 w [blk r (redC (.slice A5 J.us.length c6) vM vC vR vK J cw ct co R.part R.ep (setD (setD (setD R.g ((sp).toNat) { R.g ((sp).toNat) with told := true }) ((sp).toNat) { (setD R.g ((sp).toNat) { R.g ((sp).toNat) with told := true }) ((sp).toNat) with att := att }) ((sp).toNat) { (setD (setD R.g ((sp).toNat) { R.g ((sp).toNat) with told := true }) ((sp).toNat) { (setD R.g ((sp).toNat) { R.g ((sp).toNat) with told := true }) ((sp).toNat) with att := att }) ((sp).toNat) with cnt := cnt }) hv1 sb vs2) 185, osl (kHd kPair) (.slice A5 J.us.length c6) J.us, osl kIns vM J.map, osl kIns vC J.comb, osl kIns vR J.red, osl (kInt .i64) vK J.marks, prsS (R.g) hv1, osl (kHd (kInt .i64)) vs2 us3, stgI 253 sb (R.st)] [] := by rw [← redC_put4 (show (sp).toNat < 6 by omega) cnt]; exact H
      refine s_nil (q_then (c_seq ?_))
      rw [show setD (setD (setD R.g ((sp).toNat) { R.g ((sp).toNat) with told := true }) ((sp).toNat) { (setD R.g ((sp).toNat) { R.g ((sp).toNat) with told := true }) ((sp).toNat) with att := att }) ((sp).toNat) { (setD (setD R.g ((sp).toNat) { R.g ((sp).toNat) with told := true }) ((sp).toNat) { (setD R.g ((sp).toNat) { R.g ((sp).toNat) with told := true }) ((sp).toNat) with att := att }) ((sp).toNat) with cnt := cnt } = setD R.g (sp).toNat { R.g (sp).toNat with told := true, att := att, cnt := cnt } from by simp only [setD_setD, setD_self]] at H
      replace H : Hd _ _ _ [blk r (redC (.slice A5 J.us.length c6) vM vC vR vK J cw ct co R.part R.ep (setD R.g (sp).toNat { R.g (sp).toNat with told := true, att := att, cnt := cnt }) hv1 sb vs2) 185, osl (kHd kPair) (.slice A5 J.us.length c6) J.us, osl kIns vM J.map, osl kIns vC J.comb, osl kIns vR J.red, osl (kInt .i64) vK J.marks, prsS (R.g) hv1, osl (kHd (kInt .i64)) vs2 us3, stgI 253 sb (R.st)] [] := H
      rw [prsS_congr (g := R.g) (g' := setD R.g (sp).toNat { R.g (sp).toNat with told := true, att := att, cnt := cnt }) (setD_pairs rfl)] at H
      replace H : Hd _ _ _ [blk r (redC (.slice A5 J.us.length c6) vM vC vR vK J cw ct co R.part R.ep (setD R.g (sp).toNat { R.g (sp).toNat with told := true, att := att, cnt := cnt }) hv1 sb vs2) 185, osl (kHd kPair) (.slice A5 J.us.length c6) J.us, osl kIns vM J.map, osl kIns vC J.comb, osl kIns vR J.red, osl (kInt .i64) vK J.marks, prsS (setD R.g (sp).toNat { R.g (sp).toNat with told := true, att := att, cnt := cnt }) hv1, osl (kHd (kInt .i64)) vs2 us3, stgI 253 sb (R.st)] [] := H
      have hB2 : OkR 100000 ({ R with g := setD R.g (sp).toNat { R.g (sp).toNat with told := true, att := att, cnt := cnt } } : Red) := ⟨fun i => by show (setD R.g (sp).toNat { R.g (sp).toNat with told := true, att := att, cnt := cnt } i).pairs.length ≤ 1000; rw [← setD_pairs (k := (sp).toNat) (x := { R.g (sp).toNat with told := true, att := att, cnt := cnt }) rfl]; exact hB.pairs i, hB.st, hB.sets, hB.setl⟩
      replace H : Hd _ _ _ [blk r (redC (.slice A5 J.us.length c6) vM vC vR vK J cw ct co (({ R with g := setD R.g (sp).toNat { R.g (sp).toNat with told := true, att := att, cnt := cnt } } : Red).part) (({ R with g := setD R.g (sp).toNat { R.g (sp).toNat with told := true, att := att, cnt := cnt } } : Red).ep) (({ R with g := setD R.g (sp).toNat { R.g (sp).toNat with told := true, att := att, cnt := cnt } } : Red).g) hv1 sb vs2) 185, osl (kHd kPair) (.slice A5 J.us.length c6) J.us, osl kIns vM J.map, osl kIns vC J.comb, osl kIns vR J.red, osl (kInt .i64) vK J.marks, prsS (({ R with g := setD R.g (sp).toNat { R.g (sp).toNat with told := true, att := att, cnt := cnt } } : Red).g) hv1, osl (kHd (kInt .i64)) vs2 us3, stgI 253 sb (({ R with g := setD R.g (sp).toNat { R.g (sp).toNat with told := true, att := att, cnt := cnt } } : Red).st)] [] := H
      replace H := redI_shut r (.slice A5 J.us.length c6) vM vC vR vK J cw ct co sb ({ R with g := setD R.g (sp).toNat { R.g (sp).toNat with told := true, att := att, cnt := cnt } } : Red) hv1 vs2 us3 hsets4 H
      replace H := H.h1 (A := redI r (.slice A5 J.us.length c6) vM vC vR vK J cw ct co sb ({ R with g := setD R.g (sp).toNat { R.g (sp).toNat with told := true, att := att, cnt := cnt } } : Red))
      refine c_reg (s_k 3 rfl (sc (looks_ok r (.slice A5 J.us.length c6) vM vC vR vK J cw ct co sb ({ R with g := setD R.g (sp).toNat { R.g (sp).toNat with told := true, att := att, cnt := cnt } } : Red) sp (by first | assumption | omega) (by first | assumption | omega) (by first | assumption | omega) (by first | assumption | omega)) H l0 rfl rfl (e_fn kn119 rfl rfl) ?_))
      rintro v17 _ w ⟨rs15, rfl, hf16⟩ H
      replace H := H.h2 (A := osl kRec v17 rs15) (B := redI r (.slice A5 J.us.length c6) vM vC vR vK J cw ct co sb ((looksR J ({ R with g := setD R.g (sp).toNat { R.g (sp).toNat with told := true, att := att, cnt := cnt } } : Red) (sp).toNat).1))
      refine s_1 rfl (s_nil (q_then (c_ret (q_ret1 rfl rfl ?_))))
      have e : wonR J ct R sp att cnt = looksR J ({ R with g := setD R.g (sp).toNat { R.g (sp).toNat with told := true, att := att, cnt := cnt } } : Red) (sp).toNat := if_neg (fun h => by rcases h with h | h | h | h | h; exact h hin10; exact absurd h (by rw [h11]; decide); exact absurd h (by rw [h12]; decide); omega; omega)
      exact fin ⟨rs15, by rw [e] <;> rfl, by rw [e]; exact hf16⟩ H
 ·refine c_reg (s_k 2 rfl (sc (at_no r A5 J.us.length c6 vM vC vR vK J cw ct co R.part R.ep R.g hv1 sb vs2 sp (by first | assumption | omega)) H (lA 0 rfl (fun _ h => h) l0) rfl rfl (e_fn kn118 rfl rfl) ?_))
  rintro _ _ w ⟨rfl, rfl⟩ H
  refine s_1 rfl (s_nil (q_then (c_seq (c_seq (c_reg (s_1 rfl (s_val rfl rfl (r_peq rfl un178 rfl rfl) (s_k 12 rfl (s_k 12 rfl (s_1 rfl (s_nil (q_then (c_yes rfl (c_seq (c_reg (s_1 rfl (s_nil (q_then (c_ret (q_thenR (q_ret1 rfl rfl ?_)))))))))))))))))))))
  have e : wonR J ct R sp att cnt = (R, []) := if_pos (.inl hin10)
  replace H := H.newnil kRec |>.p9 |>.p9 |>.p9 |>.p9 |>.p9 |>.p9 |>.p9 |>.p9 |>.p9
  replace H := redI_shut r (.slice A5 J.us.length c6) vM vC vR vK J cw ct co sb R hv1 vs2 us3 hsets4 H
  replace H := H.h1 (A := redI r (.slice A5 J.us.length c6) vM vC vR vK J cw ct co sb R) |>.p1
  exact fin ⟨[], by rw [e] <;> rfl, by rw [e]; rfl⟩ H
end Go.Proofs.YthgehekecfpikaaGreatDoor.X

set_option linter.unusedVariables false
set_option linter.unusedSimpArgs false
namespace Go.Proofs.YthgehekecfpikaaGreatDoor.X
open Go
set_option maxHeartbeats 4000000 in
theorem rpush_ok (r : Nat) (vS : Value) (vM : Value) (vC : Value) (vR : Value) (vK : Value) (J : Job) (cw : Int) (ct : Int) (co : Int) (sb : Nat) (R : Red) (m : Msg) (vset : Value) (vps : Value) (h6 : J.us.length ≤ 6) (hB : OkR 99999 R) (hmk : J.marks.length ≤ 1000) :
    Cn Tryz.prog 50 [.pointer (some ⟨r, 0, none⟩), .agg #[.int .i64 m.kind, .int .i64 m.sp, .int .i64 m.att, .int .i64 m.part, .int .i64 m.seq, .int .i64 m.next, .int .i64 m.ep, .int .i64 m.why, vset, vps]] [redI r vS vM vC vR vK J cw ct co sb R] [rsl (kInt .i64) vset m.set, rsl kPair vps m.pairs] (fun v Bs => ∃ u : Value, ∃ rs : List Rec, v = .tuple #[.agg #[.int .i64 (((pushR J R m).2.1).kind), .int .i64 (((pushR J R m).2.1).sp), .int .i64 (((pushR J R m).2.1).att), .int .i64 (((pushR J R m).2.1).part), .int .i64 (((pushR J R m).2.1).seq), .int .i64 (((pushR J R m).2.1).next), .int .i64 (((pushR J R m).2.1).ep), .int .i64 (((pushR J R m).2.1).why), .slice none 0 0, .slice none 0 0], u] ∧ Bs = [osl kRec u rs, redI r vS vM vC vR vK J cw ct co sb ((pushR J R m).1)] ∧ (rs.map Rec.p = (pushR J R m).2.2)) := by
 intro w0 F0 H
 obtain ⟨A1, c2, rfl, hc3, hm4, hp5⟩ := H.fR 0 rfl
 obtain ⟨A6, c7, rfl, hc8, hm9, hp10⟩ := H.fR 1 rfl
 replace H : Hd _ _ _ [redI r vS vM vC vR vK J cw ct co sb R] [rsl (kInt .i64) (.slice A1 m.set.length c2) m.set, rsl kPair (.slice A6 m.pairs.length c7) m.pairs] := H
 obtain ⟨hv11, vs12, us13, hsets14, H⟩ := redI_open r vS vM vC vR vK J cw ct co sb R H
 replace H : Hd _ _ _ [blk r (redC vS vM vC vR vK J cw ct co R.part R.ep R.g hv11 sb vs12) 185, osl (kHd kPair) vS J.us, osl kIns vM J.map, osl kIns vC J.comb, osl kIns vR J.red, osl (kInt .i64) vK J.marks, prsS (R.g) hv11, osl (kHd (kInt .i64)) vs12 us13, stgI 253 sb (R.st)] [rsl (kInt .i64) (.slice A1 m.set.length c2) m.set, rsl kPair (.slice A6 m.pairs.length c7) m.pairs] := H
 obtain ⟨A15, c16, rfl, hc17, hm18, hp19⟩ := H.fA 1 rfl
 refine enter Tryz.func50 rfl rfl (Nat.le_of_ble_eq_true rfl) (c_seq (c_reg (s_box rfl rfl rfl rfl H (fun b20 w H => (s_alloc rfl rfl rfl zr64 H (fun b21 w H => ?_))))))
 replace H := H.h2 (A := blk b21 [.int .i64 0, .int .i64 0, .int .i64 0, .int .i64 0, .int .i64 0, .int .i64 0, .int .i64 0, .int .i64 0, .slice none 0 0, .slice none 0 0] 64) (B := blk b20 [.int .i64 m.kind, .int .i64 m.sp, .int .i64 m.att, .int .i64 m.part, .int .i64 m.seq, .int .i64 m.next, .int .i64 m.ep, .int .i64 m.why, .slice A1 m.set.length c2, .slice A6 m.pairs.length c7] 64)
 refine s_1 rfl (s_nil (q_then (c_seq ?_)))
 by_cases hin22 : 0 ≤ m.sp ∧ m.sp < ((J.us.length : Nat) : Int)
 ·refine c_reg (s_1 rfl (s_val rfl rfl (r_fa rfl fo64_1 rfl) (s_val rfl rfl (r_ld rfl ty3 rfl (H.cellI 1 rfl rfl)) (sc (at_ok r A15 J.us.length c16 vM vC vR vK J cw ct co R.part R.ep R.g hv11 sb vs12 m.sp (by first | assumption | omega) (by first | assumption | omega)) H (lA 2 rfl (fun _ h => h) l0) rfl rfl (e_fn kn118 rfl rfl) ?_))))
  rintro _ _ w ⟨rfl, rfl⟩ H
  refine s_1 rfl (s_nil (q_then (c_seq (c_seq (c_draw mo (by kernel_rfl) H (u_1 rfl (u_val rfl rfl (fun w H => r_peq rfl un178 rfl rfl) (u_1 rfl (u_val rfl rfl (fun w H => r_fa rfl fo64_0 rfl) (u_val rfl rfl (fun w H => r_ld rfl ty3 rfl (H.cellI 1 rfl rfl)) (u_val rfl rfl (fun w H => r_ne rfl rfl rfl) (u_k 2 rfl ?_))))))))))))
  refine u_dec (d := 20) rfl (fun h23 => ?_) (fun h23 => ?_)
  ·refine u_k 8 rfl (u_end (fun w H => (q_then (c_yes rfl (c_seq (c_reg (s_val rfl rfl (r_bd (parts := []) (vs := []) (cs := [.int .i64 0, .int .i64 0, .int .i64 0, .int .i64 0, .int .i64 0, .int .i64 0, .int .i64 0, .int .i64 0, .slice none 0 0, .slice none 0 0]) rfl bd64 rfl rfl) (s_st rfl rfl rfl ty64 rfl rfl H rfl (Nat.le_of_ble_eq_true rfl) (fun u hu => by simp [Value.cells] at hu; rcases hu with rfl | rfl | rfl | rfl | rfl | rfl | rfl | rfl | rfl | rfl <;> rfl) (fun w H => (s_1 rfl (s_nil (q_then (c_ret (q_thenR (q_retCT (cs := [.int .i64 0, .int .i64 0, .int .i64 0, .int .i64 0, .int .i64 0, .int .i64 0, .int .i64 0, .int .i64 0, .slice none 0 0, .slice none 0 0]) (v := .slice none 0 0) rfl rfl rfl ty64 rfl (H.cellsI 0 rfl rfl) ?_)))))))))))))))
   have e : pushR J R m = (R, msg0, []) := pushR_no (.inr (.inl (by omega)))
   replace H := H.newnil kRec |>.pick 11 rfl |>.pick 11 rfl |>.pick 11 rfl |>.pick 11 rfl |>.pick 11 rfl |>.pick 11 rfl |>.pick 11 rfl |>.pick 11 rfl |>.pick 11 rfl |>.k10
   replace H := redI_shut r (.slice A15 J.us.length c16) vM vC vR vK J cw ct co sb R hv11 vs12 us13 hsets14 H
   replace H := H.h1 (A := redI r (.slice A15 J.us.length c16) vM vC vR vK J cw ct co sb R) |>.p1
   exact fin ⟨(.slice none 0 0), [], by rw [e] <;> rfl, by rw [e] <;> rfl, by rw [e]; rfl⟩ H
  ·refine u_val rfl rfl (fun w H => r_fa rfl fo64_3 rfl) (u_val rfl rfl (fun w H => r_ld rfl ty3 rfl (H.cellI 1 rfl rfl)) (u_1 rfl (u_val rfl rfl (fun w H => r_nilP rfl rfl) (u_val rfl rfl (fun w H => r_fa rfl fo185_1 rfl) (u_val rfl rfl (fun w H => r_ld rfl ty3 rfl (H.cellI 2 rfl rfl)) (u_val rfl rfl (fun w H => r_ne rfl rfl rfl) (u_1 rfl (u_end (fun w H => (q_then ?_))))))))))
   refine c_dec rfl (fun h24 => ?_) (fun h24 => ?_)
   ·refine c_seq (c_reg (s_val rfl rfl (r_bd (parts := []) (vs := []) (cs := [.int .i64 0, .int .i64 0, .int .i64 0, .int .i64 0, .int .i64 0, .int .i64 0, .int .i64 0, .int .i64 0, .slice none 0 0, .slice none 0 0]) rfl bd64 rfl rfl) (s_st rfl rfl rfl ty64 rfl rfl H rfl (Nat.le_of_ble_eq_true rfl) (fun u hu => by simp [Value.cells] at hu; rcases hu with rfl | rfl | rfl | rfl | rfl | rfl | rfl | rfl | rfl | rfl <;> rfl) (fun w H => ?_))))
    replace H : Hd _ _ _ [blk b21 [.int .i64 0, .int .i64 0, .int .i64 0, .int .i64 0, .int .i64 0, .int .i64 0, .int .i64 0, .int .i64 0, .slice none 0 0, .slice none 0 0] 64, blk b20 [.int .i64 m.kind, .int .i64 m.sp, .int .i64 m.att, .int .i64 m.part, .int .i64 m.seq, .int .i64 m.next, .int .i64 m.ep, .int .i64 m.why, .slice A1 m.set.length c2, .slice A6 m.pairs.length c7] 64, blk r (redC (.slice A15 J.us.length c16) vM vC vR vK J cw ct co R.part R.ep R.g hv11 sb vs12) 185, osl (kHd kPair) (.slice A15 J.us.length c16) J.us, osl kIns vM J.map, osl kIns vC J.comb, osl kIns vR J.red, osl (kInt .i64) vK J.marks, prsS (R.g) hv11, osl (kHd (kInt .i64)) vs12 us13, stgI 253 sb (R.st)] [rsl (kInt .i64) (.slice A1 m.set.length c2) m.set, rsl kPair (.slice A6 m.pairs.length c7) m.pairs] := H
    refine s_1 rfl (s_nil (q_then (c_ret (q_thenR (q_retCT (cs := [.int .i64 0, .int .i64 0, .int .i64 0, .int .i64 0, .int .i64 0, .int .i64 0, .int .i64 0, .int .i64 0, .slice none 0 0, .slice none 0 0]) (v := .slice none 0 0) rfl rfl rfl ty64 rfl (H.cellsI 0 rfl rfl) ?_)))))
    have e : pushR J R m = (R, msg0, []) := pushR_no (.inr (.inr (by omega)))
    replace H := H.newnil kRec |>.pick 11 rfl |>.pick 11 rfl |>.pick 11 rfl |>.pick 11 rfl |>.pick 11 rfl |>.pick 11 rfl |>.pick 11 rfl |>.pick 11 rfl |>.pick 11 rfl |>.k10
    replace H := redI_shut r (.slice A15 J.us.length c16) vM vC vR vK J cw ct co sb R hv11 vs12 us13 hsets14 H
    replace H := H.h1 (A := redI r (.slice A15 J.us.length c16) vM vC vR vK J cw ct co sb R) |>.p1
    exact fin ⟨(.slice none 0 0), [], by rw [e] <;> rfl, by rw [e] <;> rfl, by rw [e]; rfl⟩ H
   ·refine c_skip (q_then (c_seq (c_ord (.e 0 (.e 1 (.e 2 (.e 3 (.e 4 (.e 5 (.e 6 (.e 7 (.e 8 (.e 9 (.e 10 (.e 11 (.e 12 (.m 13 (.m 14 .z))))))))))))))) (fun w => ∃ Ar, Hd w0 F0 w (blk b21 [.int .i64 0, .int .i64 0, .int .i64 0, .int .i64 0, .int .i64 0, .int .i64 0, .int .i64 0, .int .i64 0, .slice none 0 0, .slice none 0 0] 64 :: blk b20 [.int .i64 m.kind, .int .i64 m.sp, .int .i64 m.att, .int .i64 m.part, .int .i64 m.seq, .int .i64 m.next, .int .i64 m.ep, .int .i64 m.why, .slice A1 m.set.length c2, .slice A6 m.pairs.length c7] 64 :: blk r (redC (.slice A15 J.us.length c16) vM vC vR vK J cw ct co R.part R.ep R.g hv11 sb vs12) 185 :: osl (kHd kPair) (.slice A15 J.us.length c16) J.us :: osl kIns vM J.map :: osl kIns vC J.comb :: osl kIns vR J.red :: osl (kInt .i64) vK J.marks :: prsS (R.g) hv11 :: osl (kHd (kInt .i64)) vs12 us13 :: stgI 253 sb (R.st) :: Ar) [rsl (kInt .i64) (.slice A1 m.set.length c2) m.set, rsl kPair (.slice A6 m.pairs.length c7) m.pairs]) mo (by kernel_rfl) (fun w H => ⟨_, H⟩) H (fun w H => ?_))))
    refine d_val rfl rfl rfl (fun w ⟨Ar, H⟩ => r_fa rfl fo64_1 rfl) (d_val rfl rfl rfl (fun w ⟨Ar, H⟩ => r_ld rfl ty3 rfl (H.cellI 1 rfl rfl)) (d_val rfl rfl rfl (fun w ⟨Ar, H⟩ => r_fa rfl fo64_2 rfl) (d_val rfl rfl rfl (fun w ⟨Ar, H⟩ => r_ld rfl ty3 rfl (H.cellI 1 rfl rfl)) (d_1 rfl (d_val rfl rfl rfl (fun w ⟨Ar, H⟩ => r_nilP rfl rfl) (d_val rfl rfl rfl (fun w ⟨Ar, H⟩ => r_fa rfl fo185_1 rfl) (d_val rfl rfl rfl (fun w ⟨Ar, H⟩ => r_ld rfl ty3 rfl (H.cellI 2 rfl rfl)) (d_1 rfl (d_val rfl rfl rfl (fun w ⟨Ar, H⟩ => r_nilP rfl rfl) (d_val rfl rfl rfl (fun w ⟨Ar, H⟩ => r_fa rfl fo185_2 rfl) (d_val rfl rfl rfl (fun w ⟨Ar, H⟩ => r_ld rfl ty3 rfl (H.cellI 2 rfl rfl)) (d_val rfl rfl rfl (fun w ⟨Ar, H⟩ => r_bd (parts := [(0, .const (.int .i64 3)), (1, .tmp 31), (2, .tmp 33), (3, .tmp 37), (6, .tmp 41)]) (vs := [.int .i64 3, .int .i64 m.sp, .int .i64 m.att, .int .i64 R.part, .int .i64 R.ep]) (cs := [.int .i64 3, .int .i64 m.sp, .int .i64 m.att, .int .i64 R.part, .int .i64 0, .int .i64 0, .int .i64 R.ep, .int .i64 0, .slice none 0 0, .slice none 0 0]) rfl bd64 rfl rfl) ?_))))))))))))
    refine d_main rfl (s_alloc rfl rfl rfl zr64 H (fun b25 w H => ?_))
    replace H : Hd _ _ _ [blk b25 [.int .i64 0, .int .i64 0, .int .i64 0, .int .i64 0, .int .i64 0, .int .i64 0, .int .i64 0, .int .i64 0, .slice none 0 0, .slice none 0 0] 64, blk b21 [.int .i64 0, .int .i64 0, .int .i64 0, .int .i64 0, .int .i64 0, .int .i64 0, .int .i64 0, .int .i64 0, .slice none 0 0, .slice none 0 0] 64, blk b20 [.int .i64 m.kind, .int .i64 m.sp, .int .i64 m.att, .int .i64 m.part, .int .i64 m.seq, .int .i64 m.next, .int .i64 m.ep, .int .i64 m.why, .slice A1 m.set.length c2, .slice A6 m.pairs.length c7] 64, blk r (redC (.slice A15 J.us.length c16) vM vC vR vK J cw ct co R.part R.ep R.g hv11 sb vs12) 185, osl (kHd kPair) (.slice A15 J.us.length c16) J.us, osl kIns vM J.map, osl kIns vC J.comb, osl kIns vR J.red, osl (kInt .i64) vK J.marks, prsS (R.g) hv11, osl (kHd (kInt .i64)) vs12 us13, stgI 253 sb (R.st)] [rsl (kInt .i64) (.slice A1 m.set.length c2) m.set, rsl kPair (.slice A6 m.pairs.length c7) m.pairs] := H
    replace H := H.pick 11 rfl |>.pick 11 rfl |>.pick 11 rfl |>.pick 11 rfl |>.pick 11 rfl |>.pick 11 rfl |>.pick 11 rfl |>.pick 11 rfl |>.pick 11 rfl |>.pick 11 rfl |>.pick 11 rfl
    refine d_back ⟨_, H⟩ (d_main rfl ?_)
    replace H := H.pick 11 rfl
    refine s_st rfl rfl rfl ty64 rfl rfl H rfl (Nat.le_of_ble_eq_true rfl) (fun u hu => by simp [Value.cells] at hu; rcases hu with rfl | rfl | rfl | rfl | rfl | rfl | rfl | rfl | rfl | rfl <;> rfl) (fun w H => ?_)
    replace H := H.h1 (A := blk b25 [.int .i64 3, .int .i64 m.sp, .int .i64 m.att, .int .i64 R.part, .int .i64 0, .int .i64 0, .int .i64 R.ep, .int .i64 0, .slice none 0 0, .slice none 0 0] 64) |>.pick 11 rfl |>.pick 11 rfl |>.pick 11 rfl |>.pick 11 rfl |>.pick 11 rfl |>.pick 11 rfl |>.pick 11 rfl |>.pick 11 rfl |>.pick 11 rfl |>.pick 11 rfl |>.pick 11 rfl
    refine d_back ⟨_, H⟩ (d_nil (q_then (c_seq (c_reg (s_1 rfl (s_nil (q_then (c_seq (c_seq (c_reg (s_1 rfl (s_val rfl rfl (r_nilP rfl rfl) (s_val rfl rfl (r_fa rfl fo181_0 rfl) (s_val rfl rfl (r_ld rfl ty4 rfl (H.cellI 2 rfl (redC_at0 (by omega)))) (s_val rfl rfl (r_not rfl rfl rfl) (s_1 rfl ?_))))))))))))))))
    refine s_boo (d := 48) (b := !((R.g ((m.sp).toNat)).merged)) rfl (fun h26 => ?_) (fun h26 => ?_)
    ·refine s_val rfl rfl (r_fa rfl fo64_9 rfl) (s_val rfl rfl (r_ld rfl ty35 rfl (H.cellI 1 rfl rfl)) (s_val rfl rfl (r_lenL rfl un35 rfl) (s_val rfl rfl (r_le rfl rfl rfl) (s_k 2 rfl ?_))))
     refine s_dec (d := 54) rfl (fun h27 => ?_) (fun h27 => ?_)
     ·refine s_val rfl rfl (r_fa rfl fo64_9 rfl) (s_val rfl rfl (r_ld rfl ty35 rfl (H.cellI 1 rfl rfl)) (sc (pMayL_ok (.slice A6 m.pairs.length c7) m.pairs) H (lR 1 rfl l0) rfl rfl (e_fn kn120 rfl rfl) ?_))
      rintro _ _ w ⟨rfl, rfl⟩ H
      refine s_1 rfl (s_nil (q_then ?_))
      refine c_dec rfl (fun h28 => ?_) (fun h28 => ?_)
      ·refine c_seq ?_
       replace H := H.sel 12 [0, 1, 2, 3, 4, 5, 6, 7, 8, 9, 11, 10] [] rfl (by kernel_rfl)
       replace H : Hd _ _ _ [blk b21 [.int .i64 0, .int .i64 0, .int .i64 0, .int .i64 0, .int .i64 0, .int .i64 0, .int .i64 0, .int .i64 0, .slice none 0 0, .slice none 0 0] 64, blk b20 [.int .i64 m.kind, .int .i64 m.sp, .int .i64 m.att, .int .i64 m.part, .int .i64 m.seq, .int .i64 m.next, .int .i64 m.ep, .int .i64 m.why, .slice A1 m.set.length c2, .slice A6 m.pairs.length c7] 64, blk r (redC (.slice A15 J.us.length c16) vM vC vR vK J cw ct co R.part R.ep R.g hv11 sb vs12) 185, osl (kHd kPair) (.slice A15 J.us.length c16) J.us, osl kIns vM J.map, osl kIns vC J.comb, osl kIns vR J.red, osl (kInt .i64) vK J.marks, prsS (R.g) hv11, osl (kHd (kInt .i64)) vs12 us13, blk b25 [.int .i64 3, .int .i64 m.sp, .int .i64 m.att, .int .i64 R.part, .int .i64 0, .int .i64 0, .int .i64 R.ep, .int .i64 0, .slice none 0 0, .slice none 0 0] 64, stgI 253 sb (R.st)] [rsl (kInt .i64) (.slice A1 m.set.length c2) m.set, rsl kPair (.slice A6 m.pairs.length c7) m.pairs] := H
       refine c_ord (.e 0 (.e 1 (.e 2 (.e 3 (.e 4 (.e 5 (.e 6 (.e 7 (.e 8 (.e 9 (.e 10 (.e 11 (.m 12 .z))))))))))))) (fun w => ∃ Ar, Hd w0 F0 w (blk b21 [.int .i64 0, .int .i64 0, .int .i64 0, .int .i64 0, .int .i64 0, .int .i64 0, .int .i64 0, .int .i64 0, .slice none 0 0, .slice none 0 0] 64 :: blk b20 [.int .i64 m.kind, .int .i64 m.sp, .int .i64 m.att, .int .i64 m.part, .int .i64 m.seq, .int .i64 m.next, .int .i64 m.ep, .int .i64 m.why, .slice A1 m.set.length c2, .slice A6 m.pairs.length c7] 64 :: blk r (redC (.slice A15 J.us.length c16) vM vC vR vK J cw ct co R.part R.ep R.g hv11 sb vs12) 185 :: osl (kHd kPair) (.slice A15 J.us.length c16) J.us :: osl kIns vM J.map :: osl kIns vC J.comb :: osl kIns vR J.red :: osl (kInt .i64) vK J.marks :: prsS (R.g) hv11 :: osl (kHd (kInt .i64)) vs12 us13 :: blk b25 [.int .i64 3, .int .i64 m.sp, .int .i64 m.att, .int .i64 R.part, .int .i64 0, .int .i64 0, .int .i64 R.ep, .int .i64 0, .slice none 0 0, .slice none 0 0] 64 :: Ar) [rsl (kInt .i64) (.slice A1 m.set.length c2) m.set, rsl kPair (.slice A6 m.pairs.length c7) m.pairs]) mo (by kernel_rfl) (fun w H => ⟨_, H⟩) H (fun w H => ?_)
       refine d_1 rfl (d_val rfl rfl rfl (fun w ⟨Ar, H⟩ => r_nilP rfl rfl) (d_val rfl rfl rfl (fun w ⟨Ar, H⟩ => r_fa rfl fo185_4 rfl) (d_val rfl rfl rfl (fun w ⟨Ar, H⟩ => r_ld rfl ty183 rfl (H.cellI 2 rfl rfl)) (d_val rfl rfl rfl (fun w ⟨Ar, H⟩ => r_fa rfl fo64_1 rfl) (d_val rfl rfl rfl (fun w ⟨Ar, H⟩ => r_ld rfl ty3 rfl (H.cellI 1 rfl rfl)) (d_val rfl rfl rfl (fun w ⟨Ar, H⟩ => r_fa rfl fo64_2 rfl) (d_val rfl rfl rfl (fun w ⟨Ar, H⟩ => r_ld rfl ty3 rfl (H.cellI 1 rfl rfl)) (d_val rfl rfl rfl (fun w ⟨Ar, H⟩ => r_fa rfl fo64_4 rfl) (d_val rfl rfl rfl (fun w ⟨Ar, H⟩ => r_ld rfl ty3 rfl (H.cellI 1 rfl rfl)) (d_val rfl rfl rfl (fun w ⟨Ar, H⟩ => r_fa rfl fo64_9 rfl) (d_val rfl rfl rfl (fun w ⟨Ar, H⟩ => r_ld rfl ty35 rfl (H.cellI 1 rfl rfl)) (d_main rfl ?_))))))))))))
       replace H := H.pick 11 rfl
       refine sc (stPut_ok sb R.st m.sp m.att m.seq (.slice A6 m.pairs.length c7) m.pairs (by first | assumption | omega)) H (lR 1 rfl l0) rfl rfl (e_fn kn121 rfl rfl) ?_
       rintro _ _ w ⟨rfl, rfl⟩ H
       replace H := H.h1 (A := stgI 253 sb (sgPut R.st m.sp m.att m.seq m.pairs)) |>.pick 11 rfl |>.pick 11 rfl |>.pick 11 rfl |>.pick 11 rfl |>.pick 11 rfl |>.pick 11 rfl |>.pick 11 rfl |>.pick 11 rfl |>.pick 11 rfl |>.pick 11 rfl |>.pick 11 rfl
       refine d_back ⟨_, H⟩ (d_nil (q_then (c_reg (s_1 rfl (s_val rfl rfl (r_fa rfl fo64_1 rfl) (s_val rfl rfl (r_ld rfl ty3 rfl (H.cellI 1 rfl rfl)) (s_1 rfl ?_)))))))
       have hB2 : OkR 100000 ({ R with st := sgPut R.st m.sp m.att m.seq m.pairs } : Red) := ⟨hB.pairs, hB.st.put (by omega), Nat.le_succ_of_le hB.sets, hB.setl⟩
       replace H := H.pick 11 rfl |>.pick 10 rfl |>.pick 10 rfl |>.pick 10 rfl |>.pick 10 rfl |>.pick 10 rfl |>.pick 10 rfl |>.pick 10 rfl |>.pick 10 rfl
       replace H : Hd _ _ _ [blk r (redC (.slice A15 J.us.length c16) vM vC vR vK J cw ct co (({ R with st := sgPut R.st m.sp m.att m.seq m.pairs } : Red).part) (({ R with st := sgPut R.st m.sp m.att m.seq m.pairs } : Red).ep) (({ R with st := sgPut R.st m.sp m.att m.seq m.pairs } : Red).g) hv11 sb vs12) 185, osl (kHd kPair) (.slice A15 J.us.length c16) J.us, osl kIns vM J.map, osl kIns vC J.comb, osl kIns vR J.red, osl (kInt .i64) vK J.marks, prsS (({ R with st := sgPut R.st m.sp m.att m.seq m.pairs } : Red).g) hv11, osl (kHd (kInt .i64)) vs12 us13, stgI 253 sb (({ R with st := sgPut R.st m.sp m.att m.seq m.pairs } : Red).st), blk b21 [.int .i64 0, .int .i64 0, .int .i64 0, .int .i64 0, .int .i64 0, .int .i64 0, .int .i64 0, .int .i64 0, .slice none 0 0, .slice none 0 0] 64, blk b20 [.int .i64 m.kind, .int .i64 m.sp, .int .i64 m.att, .int .i64 m.part, .int .i64 m.seq, .int .i64 m.next, .int .i64 m.ep, .int .i64 m.why, .slice A1 m.set.length c2, .slice A6 m.pairs.length c7] 64, blk b25 [.int .i64 3, .int .i64 m.sp, .int .i64 m.att, .int .i64 R.part, .int .i64 0, .int .i64 0, .int .i64 R.ep, .int .i64 0, .slice none 0 0, .slice none 0 0] 64] [rsl (kInt .i64) (.slice A1 m.set.length c2) m.set, rsl kPair (.slice A6 m.pairs.length c7) m.pairs] := H
       replace H := redI_shut r (.slice A15 J.us.length c16) vM vC vR vK J cw ct co sb ({ R with st := sgPut R.st m.sp m.att m.seq m.pairs } : Red) hv11 vs12 us13 hsets14 H
       replace H := H.h1 (A := redI r (.slice A15 J.us.length c16) vM vC vR vK J cw ct co sb ({ R with st := sgPut R.st m.sp m.att m.seq m.pairs } : Red))
       refine sc (looks_ok r (.slice A15 J.us.length c16) vM vC vR vK J cw ct co sb ({ R with st := sgPut R.st m.sp m.att m.seq m.pairs } : Red) m.sp (by first | assumption | omega) (by first | assumption | omega) (by first | assumption | omega) (by first | assumption | omega)) H l0 rfl rfl (e_fn kn119 rfl rfl) ?_
       rintro v31 _ w ⟨rs29, rfl, hf30⟩ H
       obtain ⟨R32, hR33⟩ : ∃ z : Red, z = (looksR J ({ R with st := sgPut R.st m.sp m.att m.seq m.pairs } : Red) (m.sp).toNat).1 := ⟨_, rfl⟩
       rw [← hR33] at H
       replace H : Hd _ _ _ [osl kRec v31 rs29, redI r (.slice A15 J.us.length c16) vM vC vR vK J cw ct co sb R32, blk b21 [.int .i64 0, .int .i64 0, .int .i64 0, .int .i64 0, .int .i64 0, .int .i64 0, .int .i64 0, .int .i64 0, .slice none 0 0, .slice none 0 0] 64, blk b20 [.int .i64 m.kind, .int .i64 m.sp, .int .i64 m.att, .int .i64 m.part, .int .i64 m.seq, .int .i64 m.next, .int .i64 m.ep, .int .i64 m.why, .slice A1 m.set.length c2, .slice A6 m.pairs.length c7] 64, blk b25 [.int .i64 3, .int .i64 m.sp, .int .i64 m.att, .int .i64 R.part, .int .i64 0, .int .i64 0, .int .i64 R.ep, .int .i64 0, .slice none 0 0, .slice none 0 0] 64] [rsl (kInt .i64) (.slice A1 m.set.length c2) m.set, rsl kPair (.slice A6 m.pairs.length c7) m.pairs] := H
       replace H := H.p1
       obtain ⟨hv34, vs35, us36, hsets37, H⟩ := redI_open r (.slice A15 J.us.length c16) vM vC vR vK J cw ct co sb R32 H
       replace H : Hd _ _ _ [blk r (redC (.slice A15 J.us.length c16) vM vC vR vK J cw ct co R32.part R32.ep R32.g hv34 sb vs35) 185, osl (kHd kPair) (.slice A15 J.us.length c16) J.us, osl kIns vM J.map, osl kIns vC J.comb, osl kIns vR J.red, osl (kInt .i64) vK J.marks, prsS (R32.g) hv34, osl (kHd (kInt .i64)) vs35 us36, stgI 253 sb (R32.st), osl kRec v31 rs29, blk b21 [.int .i64 0, .int .i64 0, .int .i64 0, .int .i64 0, .int .i64 0, .int .i64 0, .int .i64 0, .int .i64 0, .slice none 0 0, .slice none 0 0] 64, blk b20 [.int .i64 m.kind, .int .i64 m.sp, .int .i64 m.att, .int .i64 m.part, .int .i64 m.seq, .int .i64 m.next, .int .i64 m.ep, .int .i64 m.why, .slice A1 m.set.length c2, .slice A6 m.pairs.length c7] 64, blk b25 [.int .i64 3, .int .i64 m.sp, .int .i64 m.att, .int .i64 R.part, .int .i64 0, .int .i64 0, .int .i64 R.ep, .int .i64 0, .slice none 0 0, .slice none 0 0] 64] [rsl (kInt .i64) (.slice A1 m.set.length c2) m.set, rsl kPair (.slice A6 m.pairs.length c7) m.pairs] := H
       refine s_1 rfl (s_nil (q_then (c_seq (c_ord (.e 0 (.e 1 (.e 2 (.e 3 (.e 4 (.e 5 (.e 6 (.e 7 (.m 8 (.e 9 (.m 10 .z))))))))))) (fun w => ∃ Ar, Hd w0 F0 w (blk r (redC (.slice A15 J.us.length c16) vM vC vR vK J cw ct co R32.part R32.ep R32.g hv34 sb vs35) 185 :: osl (kHd kPair) (.slice A15 J.us.length c16) J.us :: osl kIns vM J.map :: osl kIns vC J.comb :: osl kIns vR J.red :: osl (kInt .i64) vK J.marks :: prsS (R32.g) hv34 :: osl (kHd (kInt .i64)) vs35 us36 :: stgI 253 sb (R32.st) :: osl kRec v31 rs29 :: blk b21 [.int .i64 0, .int .i64 0, .int .i64 0, .int .i64 0, .int .i64 0, .int .i64 0, .int .i64 0, .int .i64 0, .slice none 0 0, .slice none 0 0] 64 :: blk b20 [.int .i64 m.kind, .int .i64 m.sp, .int .i64 m.att, .int .i64 m.part, .int .i64 m.seq, .int .i64 m.next, .int .i64 m.ep, .int .i64 m.why, .slice A1 m.set.length c2, .slice A6 m.pairs.length c7] 64 :: Ar) [rsl (kInt .i64) (.slice A1 m.set.length c2) m.set, rsl kPair (.slice A6 m.pairs.length c7) m.pairs]) mo (by kernel_rfl) (fun w H => ⟨_, H⟩) H (fun w H => ?_)))))
       refine d_1 rfl (d_val rfl rfl rfl (fun w ⟨Ar, H⟩ => r_nilP rfl rfl) (d_val rfl rfl rfl (fun w ⟨Ar, H⟩ => r_fa rfl fo185_4 rfl) (d_val rfl rfl rfl (fun w ⟨Ar, H⟩ => r_ld rfl ty183 rfl (H.cellI 0 rfl rfl)) (d_val rfl rfl rfl (fun w ⟨Ar, H⟩ => r_fa rfl fo64_1 rfl) (d_val rfl rfl rfl (fun w ⟨Ar, H⟩ => r_ld rfl ty3 rfl (H.cellI 11 rfl rfl)) (d_val rfl rfl rfl (fun w ⟨Ar, H⟩ => r_fa rfl fo64_2 rfl) (d_val rfl rfl rfl (fun w ⟨Ar, H⟩ => r_ld rfl ty3 rfl (H.cellI 11 rfl rfl)) (d_main rfl ?_))))))))
       replace H := H.p8
       refine sc (stNext_ok sb R32.st m.sp m.att) H l0 rfl rfl (e_fn kn122 rfl rfl) ?_
       rintro _ _ w ⟨rfl, rfl⟩ H
       replace H := H.p8.p8.p8.p8.p8.p8.p8.p8
       refine d_back ⟨_, H⟩ (d_val rfl rfl rfl (fun w ⟨Ar, H⟩ => r_fa rfl fo64_5 rfl) (d_main rfl ?_))
       replace H := H.pick 12 rfl
       refine s_st rfl rfl rfl ty3 rfl rfl H rfl (Nat.le_of_ble_eq_true rfl) (fun u hu => by simp [Value.cells] at hu; subst hu; rfl) (fun w H => ?_)
       replace H := H.h1 (A := blk b25 [.int .i64 3, .int .i64 m.sp, .int .i64 m.att, .int .i64 R.part, .int .i64 0, .int .i64 (sgNext R32.st m.sp m.att), .int .i64 R.ep, .int .i64 0, .slice none 0 0, .slice none 0 0] 64) |>.pick 12 rfl |>.pick 12 rfl |>.pick 12 rfl |>.pick 12 rfl |>.pick 12 rfl |>.pick 12 rfl |>.pick 12 rfl |>.pick 12 rfl |>.pick 12 rfl |>.pick 12 rfl |>.pick 12 rfl |>.pick 12 rfl
       refine d_back ⟨_, H⟩ (d_nil (q_then (c_seq (c_seq (c_reg (s_1 rfl (s_val rfl rfl (r_nilP rfl rfl) (s_val rfl rfl (r_fa rfl fo181_0 rfl) (s_val rfl rfl (r_ld rfl ty4 rfl (H.cellI 0 rfl (redC_at0 (by omega)))) (s_nil (q_then ?_)))))))))))
       refine c_cond (b := (R32.g ((m.sp).toNat)).merged) rfl (fun h38 => ?_) (fun h38 => ?_)
       ·refine c_reg (s_val rfl rfl (r_fa rfl fo64_5 rfl) ?_)
        replace H := H.pick 12 rfl
        refine s_st rfl rfl rfl ty3 rfl rfl H rfl (Nat.le_of_ble_eq_true rfl) (fun u hu => by simp [Value.cells] at hu; subst hu; rfl) (fun w H => ?_)
        replace H := H.h1 (A := blk b25 [.int .i64 3, .int .i64 m.sp, .int .i64 m.att, .int .i64 R.part, .int .i64 0, .int .i64 40, .int .i64 R.ep, .int .i64 0, .slice none 0 0, .slice none 0 0] 64)
        refine s_nil (q_then (c_seq (c_reg (s_val rfl rfl (r_ldA (cs := [.int .i64 3, .int .i64 m.sp, .int .i64 m.att, .int .i64 R.part, .int .i64 0, .int .i64 40, .int .i64 R.ep, .int .i64 0, .slice none 0 0, .slice none 0 0]) rfl ty64 rfl rfl (H.cellsI 0 rfl rfl)) (s_1 rfl ?_)))))
        replace H := H.pick 11 rfl
        refine s_st rfl rfl rfl ty64 rfl rfl H rfl (Nat.le_of_ble_eq_true rfl) (fun u hu => by simp [Value.cells] at hu; rcases hu with rfl | rfl | rfl | rfl | rfl | rfl | rfl | rfl | rfl | rfl <;> rfl) (fun w H => ?_)
        replace H := H.h1 (A := blk b21 [.int .i64 3, .int .i64 m.sp, .int .i64 m.att, .int .i64 R.part, .int .i64 0, .int .i64 40, .int .i64 R.ep, .int .i64 0, .slice none 0 0, .slice none 0 0] 64)
        refine s_1 rfl (s_nil (q_then (c_ret (q_retCT (cs := [.int .i64 3, .int .i64 m.sp, .int .i64 m.att, .int .i64 R.part, .int .i64 0, .int .i64 40, .int .i64 R.ep, .int .i64 0, .slice none 0 0, .slice none 0 0]) (v := v31) rfl rfl rfl ty64 rfl (H.cellsI 0 rfl rfl) ?_))))
        have hno : ¬ pushNo J R m := fun h => by rcases h with h | h | h; exact h hin22; omega; omega
        have ht : pushTakes R m := ⟨by simpa using h26, by omega, by simpa using h28⟩
        have hp := looks_part J ({ R with st := sgPut R.st m.sp m.att m.seq m.pairs } : Red) (m.sp).toNat
        rw [← hR33] at hp
        have e : pushR J R m = (R32, ⟨3, m.sp, m.att, R.part, 0, 40, R.ep, 0, [], []⟩, (looksR J ({ R with st := sgPut R.st m.sp m.att m.seq m.pairs } : Red) (m.sp).toNat).2) := by rw [pushR_yes hno, pushS_yes ht, ← hR33, ackR_is hp.1 hp.2 (if_pos (by simpa using h38))]
        replace H := H.pick 11 rfl |>.pick 11 rfl |>.pick 11 rfl |>.pick 11 rfl |>.pick 11 rfl |>.pick 11 rfl |>.pick 11 rfl |>.pick 11 rfl |>.pick 11 rfl |>.pick 11 rfl |>.k10
        replace H := redI_shut r (.slice A15 J.us.length c16) vM vC vR vK J cw ct co sb R32 hv34 vs35 us36 hsets37 H
        replace H := H.h1 (A := redI r (.slice A15 J.us.length c16) vM vC vR vK J cw ct co sb R32) |>.p1
        exact fin ⟨v31, rs29, by rw [e] <;> rfl, by rw [e] <;> rfl, by rw [e]; exact hf30⟩ H
       ·refine c_skip (q_then (c_seq (c_reg (s_val rfl rfl (r_ldA (cs := [.int .i64 3, .int .i64 m.sp, .int .i64 m.att, .int .i64 R.part, .int .i64 0, .int .i64 (sgNext R32.st m.sp m.att), .int .i64 R.ep, .int .i64 0, .slice none 0 0, .slice none 0 0]) rfl ty64 rfl rfl (H.cellsI 12 rfl rfl)) (s_1 rfl ?_)))))
        replace H := H.pick 10 rfl
        refine s_st rfl rfl rfl ty64 rfl rfl H rfl (Nat.le_of_ble_eq_true rfl) (fun u hu => by simp [Value.cells] at hu; rcases hu with rfl | rfl | rfl | rfl | rfl | rfl | rfl | rfl | rfl | rfl <;> rfl) (fun w H => ?_)
        replace H := H.h1 (A := blk b21 [.int .i64 3, .int .i64 m.sp, .int .i64 m.att, .int .i64 R.part, .int .i64 0, .int .i64 (sgNext R32.st m.sp m.att), .int .i64 R.ep, .int .i64 0, .slice none 0 0, .slice none 0 0] 64)
        refine s_1 rfl (s_nil (q_then (c_ret (q_retCT (cs := [.int .i64 3, .int .i64 m.sp, .int .i64 m.att, .int .i64 R.part, .int .i64 0, .int .i64 (sgNext R32.st m.sp m.att), .int .i64 R.ep, .int .i64 0, .slice none 0 0, .slice none 0 0]) (v := v31) rfl rfl rfl ty64 rfl (H.cellsI 0 rfl rfl) ?_))))
        have hno : ¬ pushNo J R m := fun h => by rcases h with h | h | h; exact h hin22; omega; omega
        have ht : pushTakes R m := ⟨by simpa using h26, by omega, by simpa using h28⟩
        have hp := looks_part J ({ R with st := sgPut R.st m.sp m.att m.seq m.pairs } : Red) (m.sp).toNat
        rw [← hR33] at hp
        have e : pushR J R m = (R32, ⟨3, m.sp, m.att, R.part, 0, sgNext R32.st m.sp m.att, R.ep, 0, [], []⟩, (looksR J ({ R with st := sgPut R.st m.sp m.att m.seq m.pairs } : Red) (m.sp).toNat).2) := by rw [pushR_yes hno, pushS_yes ht, ← hR33, ackR_is hp.1 hp.2 (if_neg (by simpa using h38))]
        replace H := H.pick 10 rfl |>.pick 10 rfl |>.pick 10 rfl |>.pick 10 rfl |>.pick 10 rfl |>.pick 10 rfl |>.pick 10 rfl |>.pick 10 rfl |>.pick 10 rfl |>.pick 10 rfl |>.k10
        replace H := redI_shut r (.slice A15 J.us.length c16) vM vC vR vK J cw ct co sb R32 hv34 vs35 us36 hsets37 H
        replace H := H.h1 (A := redI r (.slice A15 J.us.length c16) vM vC vR vK J cw ct co sb R32) |>.p1
        exact fin ⟨v31, rs29, by rw [e] <;> rfl, by rw [e] <;> rfl, by rw [e]; exact hf30⟩ H
      ·refine c_skip (q_then (c_seq (c_ord (.e 0 (.e 1 (.e 2 (.e 3 (.e 4 (.e 5 (.e 6 (.e 7 (.m 8 (.e 9 (.m 10 .z))))))))))) (fun w => ∃ Ar, Hd w0 F0 w (blk b21 [.int .i64 0, .int .i64 0, .int .i64 0, .int .i64 0, .int .i64 0, .int .i64 0, .int .i64 0, .int .i64 0, .slice none 0 0, .slice none 0 0] 64 :: blk b20 [.int .i64 m.kind, .int .i64 m.sp, .int .i64 m.att, .int .i64 m.part, .int .i64 m.seq, .int .i64 m.next, .int .i64 m.ep, .int .i64 m.why, .slice A1 m.set.length c2, .slice A6 m.pairs.length c7] 64 :: blk r (redC (.slice A15 J.us.length c16) vM vC vR vK J cw ct co R.part R.ep R.g hv11 sb vs12) 185 :: osl (kHd kPair) (.slice A15 J.us.length c16) J.us :: osl kIns vM J.map :: osl kIns vC J.comb :: osl kIns vR J.red :: osl (kInt .i64) vK J.marks :: prsS (R.g) hv11 :: osl (kHd (kInt .i64)) vs12 us13 :: stgI 253 sb (R.st) :: Ar) [rsl (kInt .i64) (.slice A1 m.set.length c2) m.set, rsl kPair (.slice A6 m.pairs.length c7) m.pairs]) mo (by kernel_rfl) (fun w H => ⟨_, H⟩) H (fun w H => ?_))))
       refine d_1 rfl (d_val rfl rfl rfl (fun w ⟨Ar, H⟩ => r_nilP rfl rfl) (d_val rfl rfl rfl (fun w ⟨Ar, H⟩ => r_fa rfl fo185_4 rfl) (d_val rfl rfl rfl (fun w ⟨Ar, H⟩ => r_ld rfl ty183 rfl (H.cellI 2 rfl rfl)) (d_val rfl rfl rfl (fun w ⟨Ar, H⟩ => r_fa rfl fo64_1 rfl) (d_val rfl rfl rfl (fun w ⟨Ar, H⟩ => r_ld rfl ty3 rfl (H.cellI 1 rfl rfl)) (d_val rfl rfl rfl (fun w ⟨Ar, H⟩ => r_fa rfl fo64_2 rfl) (d_val rfl rfl rfl (fun w ⟨Ar, H⟩ => r_ld rfl ty3 rfl (H.cellI 1 rfl rfl)) (d_main rfl ?_))))))))
       replace H := H.pick 10 rfl
       replace H : Hd _ _ _ [stgI 253 sb (R.st), blk b21 [.int .i64 0, .int .i64 0, .int .i64 0, .int .i64 0, .int .i64 0, .int .i64 0, .int .i64 0, .int .i64 0, .slice none 0 0, .slice none 0 0] 64, blk b20 [.int .i64 m.kind, .int .i64 m.sp, .int .i64 m.att, .int .i64 m.part, .int .i64 m.seq, .int .i64 m.next, .int .i64 m.ep, .int .i64 m.why, .slice A1 m.set.length c2, .slice A6 m.pairs.length c7] 64, blk r (redC (.slice A15 J.us.length c16) vM vC vR vK J cw ct co R.part R.ep R.g hv11 sb vs12) 185, osl (kHd kPair) (.slice A15 J.us.length c16) J.us, osl kIns vM J.map, osl kIns vC J.comb, osl kIns vR J.red, osl (kInt .i64) vK J.marks, prsS (R.g) hv11, osl (kHd (kInt .i64)) vs12 us13, blk b25 [.int .i64 3, .int .i64 m.sp, .int .i64 m.att, .int .i64 R.part, .int .i64 0, .int .i64 0, .int .i64 R.ep, .int .i64 0, .slice none 0 0, .slice none 0 0] 64] [rsl (kInt .i64) (.slice A1 m.set.length c2) m.set, rsl kPair (.slice A6 m.pairs.length c7) m.pairs] := H
       refine sc (stNext_ok sb R.st m.sp m.att) H l0 rfl rfl (e_fn kn122 rfl rfl) ?_
       rintro _ _ w ⟨rfl, rfl⟩ H
       replace H := H.pick 10 rfl |>.pick 10 rfl |>.pick 10 rfl |>.pick 10 rfl |>.pick 10 rfl |>.pick 10 rfl |>.pick 10 rfl |>.pick 10 rfl |>.pick 10 rfl |>.pick 10 rfl
       refine d_back ⟨_, H⟩ (d_val rfl rfl rfl (fun w ⟨Ar, H⟩ => r_fa rfl fo64_5 rfl) (d_main rfl ?_))
       replace H := H.pick 11 rfl
       refine s_st rfl rfl rfl ty3 rfl rfl H rfl (Nat.le_of_ble_eq_true rfl) (fun u hu => by simp [Value.cells] at hu; subst hu; rfl) (fun w H => ?_)
       replace H := H.h1 (A := blk b25 [.int .i64 3, .int .i64 m.sp, .int .i64 m.att, .int .i64 R.part, .int .i64 0, .int .i64 (sgNext R.st m.sp m.att), .int .i64 R.ep, .int .i64 0, .slice none 0 0, .slice none 0 0] 64) |>.pick 11 rfl |>.pick 11 rfl |>.pick 11 rfl |>.pick 11 rfl |>.pick 11 rfl |>.pick 11 rfl |>.pick 11 rfl |>.pick 11 rfl |>.pick 11 rfl |>.pick 11 rfl |>.pick 11 rfl
       refine d_back ⟨_, H⟩ (d_nil (q_then (c_seq (c_seq (c_reg (s_1 rfl (s_val rfl rfl (r_nilP rfl rfl) (s_val rfl rfl (r_fa rfl fo181_0 rfl) (s_val rfl rfl (r_ld rfl ty4 rfl (H.cellI 2 rfl (redC_at0 (by omega)))) (s_nil (q_then ?_)))))))))))
       refine c_cond (b := (R.g ((m.sp).toNat)).merged) rfl (fun h39 => ?_) (fun h39 => ?_)
       ·refine c_reg (s_val rfl rfl (r_fa rfl fo64_5 rfl) ?_)
        replace H := H.pick 11 rfl
        refine s_st rfl rfl rfl ty3 rfl rfl H rfl (Nat.le_of_ble_eq_true rfl) (fun u hu => by simp [Value.cells] at hu; subst hu; rfl) (fun w H => ?_)
        replace H := H.h1 (A := blk b25 [.int .i64 3, .int .i64 m.sp, .int .i64 m.att, .int .i64 R.part, .int .i64 0, .int .i64 40, .int .i64 R.ep, .int .i64 0, .slice none 0 0, .slice none 0 0] 64)
        refine s_nil (q_then (c_seq (c_reg (s_val rfl rfl (r_ldA (cs := [.int .i64 3, .int .i64 m.sp, .int .i64 m.att, .int .i64 R.part, .int .i64 0, .int .i64 40, .int .i64 R.ep, .int .i64 0, .slice none 0 0, .slice none 0 0]) rfl ty64 rfl rfl (H.cellsI 0 rfl rfl)) (s_1 rfl ?_)))))
        replace H := H.p1
        refine s_st rfl rfl rfl ty64 rfl rfl H rfl (Nat.le_of_ble_eq_true rfl) (fun u hu => by simp [Value.cells] at hu; rcases hu with rfl | rfl | rfl | rfl | rfl | rfl | rfl | rfl | rfl | rfl <;> rfl) (fun w H => ?_)
        replace H := H.h1 (A := blk b21 [.int .i64 3, .int .i64 m.sp, .int .i64 m.att, .int .i64 R.part, .int .i64 0, .int .i64 40, .int .i64 R.ep, .int .i64 0, .slice none 0 0, .slice none 0 0] 64)
        refine s_1 rfl (s_nil (q_then (c_ret (q_retCT (cs := [.int .i64 3, .int .i64 m.sp, .int .i64 m.att, .int .i64 R.part, .int .i64 0, .int .i64 40, .int .i64 R.ep, .int .i64 0, .slice none 0 0, .slice none 0 0]) (v := .slice none 0 0) rfl rfl rfl ty64 rfl (H.cellsI 0 rfl rfl) ?_))))
        have hno : ¬ pushNo J R m := fun h => by rcases h with h | h | h; exact h hin22; omega; omega
        have ht : ¬ pushTakes R m := fun h => absurd h.2.2 (by simpa using h28)
        have e : pushR J R m = (R, ⟨3, m.sp, m.att, R.part, 0, 40, R.ep, 0, [], []⟩, []) := by rw [pushR_yes hno, pushS_no ht, ackR_is rfl rfl (if_pos (by simpa using h39))]
        replace H := H.newnil kRec |>.pick 12 rfl |>.pick 12 rfl |>.pick 12 rfl |>.pick 12 rfl |>.pick 12 rfl |>.pick 12 rfl |>.pick 12 rfl |>.pick 12 rfl |>.pick 12 rfl |>.k10
        replace H := redI_shut r (.slice A15 J.us.length c16) vM vC vR vK J cw ct co sb R hv11 vs12 us13 hsets14 H
        replace H := H.h1 (A := redI r (.slice A15 J.us.length c16) vM vC vR vK J cw ct co sb R) |>.p1
        exact fin ⟨(.slice none 0 0), [], by rw [e] <;> rfl, by rw [e] <;> rfl, by rw [e]; rfl⟩ H
       ·refine c_skip (q_then (c_seq (c_reg (s_val rfl rfl (r_ldA (cs := [.int .i64 3, .int .i64 m.sp, .int .i64 m.att, .int .i64 R.part, .int .i64 0, .int .i64 (sgNext R.st m.sp m.att), .int .i64 R.ep, .int .i64 0, .slice none 0 0, .slice none 0 0]) rfl ty64 rfl rfl (H.cellsI 11 rfl rfl)) (s_1 rfl (s_st rfl rfl rfl ty64 rfl rfl H rfl (Nat.le_of_ble_eq_true rfl) (fun u hu => by simp [Value.cells] at hu; rcases hu with rfl | rfl | rfl | rfl | rfl | rfl | rfl | rfl | rfl | rfl <;> rfl) (fun w H => ?_)))))))
        replace H := H.h1 (A := blk b21 [.int .i64 3, .int .i64 m.sp, .int .i64 m.att, .int .i64 R.part, .int .i64 0, .int .i64 (sgNext R.st m.sp m.att), .int .i64 R.ep, .int .i64 0, .slice none 0 0, .slice none 0 0] 64)
        refine s_1 rfl (s_nil (q_then (c_ret (q_retCT (cs := [.int .i64 3, .int .i64 m.sp, .int .i64 m.att, .int .i64 R.part, .int .i64 0, .int .i64 (sgNext R.st m.sp m.att), .int .i64 R.ep, .int .i64 0, .slice none 0 0, .slice none 0 0]) (v := .slice none 0 0) rfl rfl rfl ty64 rfl (H.cellsI 0 rfl rfl) ?_))))
        have hno : ¬ pushNo J R m := fun h => by rcases h with h | h | h; exact h hin22; omega; omega
        have ht : ¬ pushTakes R m := fun h => absurd h.2.2 (by simpa using h28)
        have e : pushR J R m = (R, ⟨3, m.sp, m.att, R.part, 0, sgNext R.st m.sp m.att, R.ep, 0, [], []⟩, []) := by rw [pushR_yes hno, pushS_no ht, ackR_is rfl rfl (if_neg (by simpa using h39))]
        replace H := H.newnil kRec |>.pick 11 rfl |>.pick 11 rfl |>.pick 11 rfl |>.pick 11 rfl |>.pick 11 rfl |>.pick 11 rfl |>.pick 11 rfl |>.pick 11 rfl |>.pick 11 rfl |>.k10
        replace H := redI_shut r (.slice A15 J.us.length c16) vM vC vR vK J cw ct co sb R hv11 vs12 us13 hsets14 H
        replace H := H.h1 (A := redI r (.slice A15 J.us.length c16) vM vC vR vK J cw ct co sb R) |>.p1
        exact fin ⟨(.slice none 0 0), [], by rw [e] <;> rfl, by rw [e] <;> rfl, by rw [e]; rfl⟩ H
     ·refine s_k 4 rfl (s_nil (q_then (c_no rfl (c_skip (q_then (c_seq (c_ord (.e 0 (.e 1 (.e 2 (.e 3 (.e 4 (.e 5 (.e 6 (.e 7 (.m 8 (.e 9 (.m 10 .z))))))))))) (fun w => ∃ Ar, Hd w0 F0 w (blk b21 [.int .i64 0, .int .i64 0, .int .i64 0, .int .i64 0, .int .i64 0, .int .i64 0, .int .i64 0, .int .i64 0, .slice none 0 0, .slice none 0 0] 64 :: blk b20 [.int .i64 m.kind, .int .i64 m.sp, .int .i64 m.att, .int .i64 m.part, .int .i64 m.seq, .int .i64 m.next, .int .i64 m.ep, .int .i64 m.why, .slice A1 m.set.length c2, .slice A6 m.pairs.length c7] 64 :: blk r (redC (.slice A15 J.us.length c16) vM vC vR vK J cw ct co R.part R.ep R.g hv11 sb vs12) 185 :: osl (kHd kPair) (.slice A15 J.us.length c16) J.us :: osl kIns vM J.map :: osl kIns vC J.comb :: osl kIns vR J.red :: osl (kInt .i64) vK J.marks :: prsS (R.g) hv11 :: osl (kHd (kInt .i64)) vs12 us13 :: stgI 253 sb (R.st) :: Ar) [rsl (kInt .i64) (.slice A1 m.set.length c2) m.set, rsl kPair (.slice A6 m.pairs.length c7) m.pairs]) mo (by kernel_rfl) (fun w H => ⟨_, H⟩) H (fun w H => ?_))))))))
      refine d_1 rfl (d_val rfl rfl rfl (fun w ⟨Ar, H⟩ => r_nilP rfl rfl) (d_val rfl rfl rfl (fun w ⟨Ar, H⟩ => r_fa rfl fo185_4 rfl) (d_val rfl rfl rfl (fun w ⟨Ar, H⟩ => r_ld rfl ty183 rfl (H.cellI 2 rfl rfl)) (d_val rfl rfl rfl (fun w ⟨Ar, H⟩ => r_fa rfl fo64_1 rfl) (d_val rfl rfl rfl (fun w ⟨Ar, H⟩ => r_ld rfl ty3 rfl (H.cellI 1 rfl rfl)) (d_val rfl rfl rfl (fun w ⟨Ar, H⟩ => r_fa rfl fo64_2 rfl) (d_val rfl rfl rfl (fun w ⟨Ar, H⟩ => r_ld rfl ty3 rfl (H.cellI 1 rfl rfl)) (d_main rfl ?_))))))))
      replace H := H.pick 10 rfl
      refine sc (stNext_ok sb R.st m.sp m.att) H l0 rfl rfl (e_fn kn122 rfl rfl) ?_
      rintro _ _ w ⟨rfl, rfl⟩ H
      replace H := H.pick 10 rfl |>.pick 10 rfl |>.pick 10 rfl |>.pick 10 rfl |>.pick 10 rfl |>.pick 10 rfl |>.pick 10 rfl |>.pick 10 rfl |>.pick 10 rfl |>.pick 10 rfl
      refine d_back ⟨_, H⟩ (d_val rfl rfl rfl (fun w ⟨Ar, H⟩ => r_fa rfl fo64_5 rfl) (d_main rfl ?_))
      replace H := H.pick 11 rfl
      refine s_st rfl rfl rfl ty3 rfl rfl H rfl (Nat.le_of_ble_eq_true rfl) (fun u hu => by simp [Value.cells] at hu; subst hu; rfl) (fun w H => ?_)
      replace H := H.h1 (A := blk b25 [.int .i64 3, .int .i64 m.sp, .int .i64 m.att, .int .i64 R.part, .int .i64 0, .int .i64 (sgNext R.st m.sp m.att), .int .i64 R.ep, .int .i64 0, .slice none 0 0, .slice none 0 0] 64) |>.pick 11 rfl |>.pick 11 rfl |>.pick 11 rfl |>.pick 11 rfl |>.pick 11 rfl |>.pick 11 rfl |>.pick 11 rfl |>.pick 11 rfl |>.pick 11 rfl |>.pick 11 rfl |>.pick 11 rfl
      refine d_back ⟨_, H⟩ (d_nil (q_then (c_seq (c_seq (c_reg (s_1 rfl (s_val rfl rfl (r_nilP rfl rfl) (s_val rfl rfl (r_fa rfl fo181_0 rfl) (s_val rfl rfl (r_ld rfl ty4 rfl (H.cellI 2 rfl (redC_at0 (by omega)))) (s_nil (q_then ?_)))))))))))
      refine c_cond (b := (R.g ((m.sp).toNat)).merged) rfl (fun h40 => ?_) (fun h40 => ?_)
      ·refine c_reg (s_val rfl rfl (r_fa rfl fo64_5 rfl) ?_)
       replace H := H.pick 11 rfl
       refine s_st rfl rfl rfl ty3 rfl rfl H rfl (Nat.le_of_ble_eq_true rfl) (fun u hu => by simp [Value.cells] at hu; subst hu; rfl) (fun w H => ?_)
       replace H := H.h1 (A := blk b25 [.int .i64 3, .int .i64 m.sp, .int .i64 m.att, .int .i64 R.part, .int .i64 0, .int .i64 40, .int .i64 R.ep, .int .i64 0, .slice none 0 0, .slice none 0 0] 64)
       refine s_nil (q_then (c_seq (c_reg (s_val rfl rfl (r_ldA (cs := [.int .i64 3, .int .i64 m.sp, .int .i64 m.att, .int .i64 R.part, .int .i64 0, .int .i64 40, .int .i64 R.ep, .int .i64 0, .slice none 0 0, .slice none 0 0]) rfl ty64 rfl rfl (H.cellsI 0 rfl rfl)) (s_1 rfl ?_)))))
       replace H := H.p1
       refine s_st rfl rfl rfl ty64 rfl rfl H rfl (Nat.le_of_ble_eq_true rfl) (fun u hu => by simp [Value.cells] at hu; rcases hu with rfl | rfl | rfl | rfl | rfl | rfl | rfl | rfl | rfl | rfl <;> rfl) (fun w H => ?_)
       replace H := H.h1 (A := blk b21 [.int .i64 3, .int .i64 m.sp, .int .i64 m.att, .int .i64 R.part, .int .i64 0, .int .i64 40, .int .i64 R.ep, .int .i64 0, .slice none 0 0, .slice none 0 0] 64)
       refine s_1 rfl (s_nil (q_then (c_ret (q_retCT (cs := [.int .i64 3, .int .i64 m.sp, .int .i64 m.att, .int .i64 R.part, .int .i64 0, .int .i64 40, .int .i64 R.ep, .int .i64 0, .slice none 0 0, .slice none 0 0]) (v := .slice none 0 0) rfl rfl rfl ty64 rfl (H.cellsI 0 rfl rfl) ?_))))
       have hno : ¬ pushNo J R m := fun h => by rcases h with h | h | h; exact h hin22; omega; omega
       have ht : ¬ pushTakes R m := fun h => by have h1 := h.1; have h2 := h.2.1; first | omega | (simp_all)
       have e : pushR J R m = (R, ⟨3, m.sp, m.att, R.part, 0, 40, R.ep, 0, [], []⟩, []) := by rw [pushR_yes hno, pushS_no ht, ackR_is rfl rfl (if_pos (by simpa using h40))]
       replace H := H.newnil kRec |>.pick 12 rfl |>.pick 12 rfl |>.pick 12 rfl |>.pick 12 rfl |>.pick 12 rfl |>.pick 12 rfl |>.pick 12 rfl |>.pick 12 rfl |>.pick 12 rfl |>.k10
       replace H := redI_shut r (.slice A15 J.us.length c16) vM vC vR vK J cw ct co sb R hv11 vs12 us13 hsets14 H
       replace H := H.h1 (A := redI r (.slice A15 J.us.length c16) vM vC vR vK J cw ct co sb R) |>.p1
       exact fin ⟨(.slice none 0 0), [], by rw [e] <;> rfl, by rw [e] <;> rfl, by rw [e]; rfl⟩ H
      ·refine c_skip (q_then (c_seq (c_reg (s_val rfl rfl (r_ldA (cs := [.int .i64 3, .int .i64 m.sp, .int .i64 m.att, .int .i64 R.part, .int .i64 0, .int .i64 (sgNext R.st m.sp m.att), .int .i64 R.ep, .int .i64 0, .slice none 0 0, .slice none 0 0]) rfl ty64 rfl rfl (H.cellsI 11 rfl rfl)) (s_1 rfl (s_st rfl rfl rfl ty64 rfl rfl H rfl (Nat.le_of_ble_eq_true rfl) (fun u hu => by simp [Value.cells] at hu; rcases hu with rfl | rfl | rfl | rfl | rfl | rfl | rfl | rfl | rfl | rfl <;> rfl) (fun w H => ?_)))))))
       replace H := H.h1 (A := blk b21 [.int .i64 3, .int .i64 m.sp, .int .i64 m.att, .int .i64 R.part, .int .i64 0, .int .i64 (sgNext R.st m.sp m.att), .int .i64 R.ep, .int .i64 0, .slice none 0 0, .slice none 0 0] 64)
       refine s_1 rfl (s_nil (q_then (c_ret (q_retCT (cs := [.int .i64 3, .int .i64 m.sp, .int .i64 m.att, .int .i64 R.part, .int .i64 0, .int .i64 (sgNext R.st m.sp m.att), .int .i64 R.ep, .int .i64 0, .slice none 0 0, .slice none 0 0]) (v := .slice none 0 0) rfl rfl rfl ty64 rfl (H.cellsI 0 rfl rfl) ?_))))
       have hno : ¬ pushNo J R m := fun h => by rcases h with h | h | h; exact h hin22; omega; omega
       have ht : ¬ pushTakes R m := fun h => by have h1 := h.1; have h2 := h.2.1; first | omega | (simp_all)
       have e : pushR J R m = (R, ⟨3, m.sp, m.att, R.part, 0, sgNext R.st m.sp m.att, R.ep, 0, [], []⟩, []) := by rw [pushR_yes hno, pushS_no ht, ackR_is rfl rfl (if_neg (by simpa using h40))]
       replace H := H.newnil kRec |>.pick 11 rfl |>.pick 11 rfl |>.pick 11 rfl |>.pick 11 rfl |>.pick 11 rfl |>.pick 11 rfl |>.pick 11 rfl |>.pick 11 rfl |>.pick 11 rfl |>.k10
       replace H := redI_shut r (.slice A15 J.us.length c16) vM vC vR vK J cw ct co sb R hv11 vs12 us13 hsets14 H
       replace H := H.h1 (A := redI r (.slice A15 J.us.length c16) vM vC vR vK J cw ct co sb R) |>.p1
       exact fin ⟨(.slice none 0 0), [], by rw [e] <;> rfl, by rw [e] <;> rfl, by rw [e]; rfl⟩ H
    ·refine s_k 10 rfl (s_nil (q_then (c_no rfl (c_skip (q_then (c_seq (c_ord (.e 0 (.e 1 (.e 2 (.e 3 (.e 4 (.e 5 (.e 6 (.e 7 (.m 8 (.e 9 (.m 10 .z))))))))))) (fun w => ∃ Ar, Hd w0 F0 w (blk b21 [.int .i64 0, .int .i64 0, .int .i64 0, .int .i64 0, .int .i64 0, .int .i64 0, .int .i64 0, .int .i64 0, .slice none 0 0, .slice none 0 0] 64 :: blk b20 [.int .i64 m.kind, .int .i64 m.sp, .int .i64 m.att, .int .i64 m.part, .int .i64 m.seq, .int .i64 m.next, .int .i64 m.ep, .int .i64 m.why, .slice A1 m.set.length c2, .slice A6 m.pairs.length c7] 64 :: blk r (redC (.slice A15 J.us.length c16) vM vC vR vK J cw ct co R.part R.ep R.g hv11 sb vs12) 185 :: osl (kHd kPair) (.slice A15 J.us.length c16) J.us :: osl kIns vM J.map :: osl kIns vC J.comb :: osl kIns vR J.red :: osl (kInt .i64) vK J.marks :: prsS (R.g) hv11 :: osl (kHd (kInt .i64)) vs12 us13 :: stgI 253 sb (R.st) :: Ar) [rsl (kInt .i64) (.slice A1 m.set.length c2) m.set, rsl kPair (.slice A6 m.pairs.length c7) m.pairs]) mo (by kernel_rfl) (fun w H => ⟨_, H⟩) H (fun w H => ?_))))))))
     refine d_1 rfl (d_val rfl rfl rfl (fun w ⟨Ar, H⟩ => r_nilP rfl rfl) (d_val rfl rfl rfl (fun w ⟨Ar, H⟩ => r_fa rfl fo185_4 rfl) (d_val rfl rfl rfl (fun w ⟨Ar, H⟩ => r_ld rfl ty183 rfl (H.cellI 2 rfl rfl)) (d_val rfl rfl rfl (fun w ⟨Ar, H⟩ => r_fa rfl fo64_1 rfl) (d_val rfl rfl rfl (fun w ⟨Ar, H⟩ => r_ld rfl ty3 rfl (H.cellI 1 rfl rfl)) (d_val rfl rfl rfl (fun w ⟨Ar, H⟩ => r_fa rfl fo64_2 rfl) (d_val rfl rfl rfl (fun w ⟨Ar, H⟩ => r_ld rfl ty3 rfl (H.cellI 1 rfl rfl)) (d_main rfl ?_))))))))
     replace H := H.pick 10 rfl
     refine sc (stNext_ok sb R.st m.sp m.att) H l0 rfl rfl (e_fn kn122 rfl rfl) ?_
     rintro _ _ w ⟨rfl, rfl⟩ H
     replace H := H.pick 10 rfl |>.pick 10 rfl |>.pick 10 rfl |>.pick 10 rfl |>.pick 10 rfl |>.pick 10 rfl |>.pick 10 rfl |>.pick 10 rfl |>.pick 10 rfl |>.pick 10 rfl
     refine d_back ⟨_, H⟩ (d_val rfl rfl rfl (fun w ⟨Ar, H⟩ => r_fa rfl fo64_5 rfl) (d_main rfl ?_))
     replace H := H.pick 11 rfl
     refine s_st rfl rfl rfl ty3 rfl rfl H rfl (Nat.le_of_ble_eq_true rfl) (fun u hu => by simp [Value.cells] at hu; subst hu; rfl) (fun w H => ?_)
     replace H := H.h1 (A := blk b25 [.int .i64 3, .int .i64 m.sp, .int .i64 m.att, .int .i64 R.part, .int .i64 0, .int .i64 (sgNext R.st m.sp m.att), .int .i64 R.ep, .int .i64 0, .slice none 0 0, .slice none 0 0] 64) |>.pick 11 rfl |>.pick 11 rfl |>.pick 11 rfl |>.pick 11 rfl |>.pick 11 rfl |>.pick 11 rfl |>.pick 11 rfl |>.pick 11 rfl |>.pick 11 rfl |>.pick 11 rfl |>.pick 11 rfl
     refine d_back ⟨_, H⟩ (d_nil (q_then (c_seq (c_seq (c_reg (s_1 rfl (s_val rfl rfl (r_nilP rfl rfl) (s_val rfl rfl (r_fa rfl fo181_0 rfl) (s_val rfl rfl (r_ld rfl ty4 rfl (H.cellI 2 rfl (redC_at0 (by omega)))) (s_nil (q_then ?_)))))))))))
     refine c_cond (b := (R.g ((m.sp).toNat)).merged) rfl (fun h41 => ?_) (fun h41 => ?_)
     ·refine c_reg (s_val rfl rfl (r_fa rfl fo64_5 rfl) ?_)
      replace H := H.pick 11 rfl
      refine s_st rfl rfl rfl ty3 rfl rfl H rfl (Nat.le_of_ble_eq_true rfl) (fun u hu => by simp [Value.cells] at hu; subst hu; rfl) (fun w H => ?_)
      replace H := H.h1 (A := blk b25 [.int .i64 3, .int .i64 m.sp, .int .i64 m.att, .int .i64 R.part, .int .i64 0, .int .i64 40, .int .i64 R.ep, .int .i64 0, .slice none 0 0, .slice none 0 0] 64)
      refine s_nil (q_then (c_seq (c_reg (s_val rfl rfl (r_ldA (cs := [.int .i64 3, .int .i64 m.sp, .int .i64 m.att, .int .i64 R.part, .int .i64 0, .int .i64 40, .int .i64 R.ep, .int .i64 0, .slice none 0 0, .slice none 0 0]) rfl ty64 rfl rfl (H.cellsI 0 rfl rfl)) (s_1 rfl ?_)))))
      replace H := H.p1
      refine s_st rfl rfl rfl ty64 rfl rfl H rfl (Nat.le_of_ble_eq_true rfl) (fun u hu => by simp [Value.cells] at hu; rcases hu with rfl | rfl | rfl | rfl | rfl | rfl | rfl | rfl | rfl | rfl <;> rfl) (fun w H => ?_)
      replace H := H.h1 (A := blk b21 [.int .i64 3, .int .i64 m.sp, .int .i64 m.att, .int .i64 R.part, .int .i64 0, .int .i64 40, .int .i64 R.ep, .int .i64 0, .slice none 0 0, .slice none 0 0] 64)
      refine s_1 rfl (s_nil (q_then (c_ret (q_retCT (cs := [.int .i64 3, .int .i64 m.sp, .int .i64 m.att, .int .i64 R.part, .int .i64 0, .int .i64 40, .int .i64 R.ep, .int .i64 0, .slice none 0 0, .slice none 0 0]) (v := .slice none 0 0) rfl rfl rfl ty64 rfl (H.cellsI 0 rfl rfl) ?_))))
      have hno : ¬ pushNo J R m := fun h => by rcases h with h | h | h; exact h hin22; omega; omega
      have ht : ¬ pushTakes R m := fun h => by have h1 := h.1; have h2 := h.2.1; first | omega | (simp_all)
      have e : pushR J R m = (R, ⟨3, m.sp, m.att, R.part, 0, 40, R.ep, 0, [], []⟩, []) := by rw [pushR_yes hno, pushS_no ht, ackR_is rfl rfl (if_pos (by simpa using h41))]
      replace H := H.newnil kRec |>.pick 12 rfl |>.pick 12 rfl |>.pick 12 rfl |>.pick 12 rfl |>.pick 12 rfl |>.pick 12 rfl |>.pick 12 rfl |>.pick 12 rfl |>.pick 12 rfl |>.k10
      replace H := redI_shut r (.slice A15 J.us.length c16) vM vC vR vK J cw ct co sb R hv11 vs12 us13 hsets14 H
      replace H := H.h1 (A := redI r (.slice A15 J.us.length c16) vM vC vR vK J cw ct co sb R) |>.p1
      exact fin ⟨(.slice none 0 0), [], by rw [e] <;> rfl, by rw [e] <;> rfl, by rw [e]; rfl⟩ H
     ·refine c_skip (q_then (c_seq (c_reg (s_val rfl rfl (r_ldA (cs := [.int .i64 3, .int .i64 m.sp, .int .i64 m.att, .int .i64 R.part, .int .i64 0, .int .i64 (sgNext R.st m.sp m.att), .int .i64 R.ep, .int .i64 0, .slice none 0 0, .slice none 0 0]) rfl ty64 rfl rfl (H.cellsI 11 rfl rfl)) (s_1 rfl (s_st rfl rfl rfl ty64 rfl rfl H rfl (Nat.le_of_ble_eq_true rfl) (fun u hu => by simp [Value.cells] at hu; rcases hu with rfl | rfl | rfl | rfl | rfl | rfl | rfl | rfl | rfl | rfl <;> rfl) (fun w H => ?_)))))))
      replace H := H.h1 (A := blk b21 [.int .i64 3, .int .i64 m.sp, .int .i64 m.att, .int .i64 R.part, .int .i64 0, .int .i64 (sgNext R.st m.sp m.att), .int .i64 R.ep, .int .i64 0, .slice none 0 0, .slice none 0 0] 64)
      refine s_1 rfl (s_nil (q_then (c_ret (q_retCT (cs := [.int .i64 3, .int .i64 m.sp, .int .i64 m.att, .int .i64 R.part, .int .i64 0, .int .i64 (sgNext R.st m.sp m.att), .int .i64 R.ep, .int .i64 0, .slice none 0 0, .slice none 0 0]) (v := .slice none 0 0) rfl rfl rfl ty64 rfl (H.cellsI 0 rfl rfl) ?_))))
      have hno : ¬ pushNo J R m := fun h => by rcases h with h | h | h; exact h hin22; omega; omega
      have ht : ¬ pushTakes R m := fun h => by have h1 := h.1; have h2 := h.2.1; first | omega | (simp_all)
      have e : pushR J R m = (R, ⟨3, m.sp, m.att, R.part, 0, sgNext R.st m.sp m.att, R.ep, 0, [], []⟩, []) := by rw [pushR_yes hno, pushS_no ht, ackR_is rfl rfl (if_neg (by simpa using h41))]
      replace H := H.newnil kRec |>.pick 11 rfl |>.pick 11 rfl |>.pick 11 rfl |>.pick 11 rfl |>.pick 11 rfl |>.pick 11 rfl |>.pick 11 rfl |>.pick 11 rfl |>.pick 11 rfl |>.k10
      replace H := redI_shut r (.slice A15 J.us.length c16) vM vC vR vK J cw ct co sb R hv11 vs12 us13 hsets14 H
      replace H := H.h1 (A := redI r (.slice A15 J.us.length c16) vM vC vR vK J cw ct co sb R) |>.p1
      exact fin ⟨(.slice none 0 0), [], by rw [e] <;> rfl, by rw [e] <;> rfl, by rw [e]; rfl⟩ H
 ·refine c_reg (s_1 rfl (s_val rfl rfl (r_fa rfl fo64_1 rfl) (s_val rfl rfl (r_ld rfl ty3 rfl (H.cellI 1 rfl rfl)) (sc (at_no r A15 J.us.length c16 vM vC vR vK J cw ct co R.part R.ep R.g hv11 sb vs12 m.sp (by first | assumption | omega)) H (lA 2 rfl (fun _ h => h) l0) rfl rfl (e_fn kn118 rfl rfl) ?_))))
  rintro _ _ w ⟨rfl, rfl⟩ H
  refine s_1 rfl (s_nil (q_then (c_seq (c_seq (c_draw mo (by kernel_rfl) H (u_1 rfl (u_val rfl rfl (fun w H => r_peq rfl un178 rfl rfl) (u_k 12 rfl (u_k 2 rfl (u_end (fun w H => (q_then (c_yes rfl (c_seq (c_reg (s_val rfl rfl (r_bd (parts := []) (vs := []) (cs := [.int .i64 0, .int .i64 0, .int .i64 0, .int .i64 0, .int .i64 0, .int .i64 0, .int .i64 0, .int .i64 0, .slice none 0 0, .slice none 0 0]) rfl bd64 rfl rfl) (s_st rfl rfl rfl ty64 rfl rfl H rfl (Nat.le_of_ble_eq_true rfl) (fun u hu => by simp [Value.cells] at hu; rcases hu with rfl | rfl | rfl | rfl | rfl | rfl | rfl | rfl | rfl | rfl <;> rfl) (fun w H => (s_1 rfl (s_nil (q_then (c_ret (q_thenR (q_retCT (cs := [.int .i64 0, .int .i64 0, .int .i64 0, .int .i64 0, .int .i64 0, .int .i64 0, .int .i64 0, .int .i64 0, .slice none 0 0, .slice none 0 0]) (v := .slice none 0 0) rfl rfl rfl ty64 rfl (H.cellsI 0 rfl rfl) ?_))))))))))))))))))))))))
  have e : pushR J R m = (R, msg0, []) := pushR_no (.inl hin22)
  replace H := H.newnil kRec |>.pick 11 rfl |>.pick 11 rfl |>.pick 11 rfl |>.pick 11 rfl |>.pick 11 rfl |>.pick 11 rfl |>.pick 11 rfl |>.pick 11 rfl |>.pick 11 rfl |>.k10
  replace H := redI_shut r (.slice A15 J.us.length c16) vM vC vR vK J cw ct co sb R hv11 vs12 us13 hsets14 H
  replace H := H.h1 (A := redI r (.slice A15 J.us.length c16) vM vC vR vK J cw ct co sb R) |>.p1
  exact fin ⟨(.slice none 0 0), [], by rw [e] <;> rfl, by rw [e] <;> rfl, by rw [e]; rfl⟩ H
end Go.Proofs.YthgehekecfpikaaGreatDoor.X

set_option linter.unusedVariables false
set_option linter.unusedSimpArgs false
namespace Go.Proofs.YthgehekecfpikaaGreatDoor.X
open Go
set_option maxHeartbeats 4000000 in
theorem rpairs_ok (r : Nat) (A : Option Addr) (c : Nat) (vM2 : Value) (vC2 : Value) (vR2 : Value) (vK2 : Value) (J2 : Job) (cw : Int) (ct : Int) (co : Int) (part : Int) (ep : Int) (R : Red) (hv : Nat → Value) (sb : Nat) (vs : Value) (s : Int) (hus6 : J2.us.length ≤ 6) (hbp : ∀ i, (R.g i).pairs.length ≤ 1000) :
    Cn Tryz.prog 52 [.pointer (some ⟨r, 0, none⟩), .int .i64 s] [] [blk r (redC (.slice A J2.us.length c) vM2 vC2 vR2 vK2 J2 cw ct co part ep R.g hv sb vs) 185, prsS (R.g) hv] (fun v Bs => Bs = [osl kPair v (pairsR J2.us.length R s)]) := by
 intro w0 F0 H
 refine enter Tryz.func52 rfl rfl (Nat.le_of_ble_eq_true rfl) (c_seq (c_reg (s_1 rfl (s_nil (q_then (c_seq ?_))))))
 by_cases hin1 : 0 ≤ s ∧ s < ((J2.us.length : Nat) : Int)
 ·refine c_reg (s_k 2 rfl (sc (at_ok r A J2.us.length c vM2 vC2 vR2 vK2 J2 cw ct co part ep R.g hv sb vs s (by first | assumption | omega) (by first | assumption | omega)) H (lR 0 rfl l0) rfl rfl (e_fn kn118 rfl rfl) ?_))
  rintro _ _ w ⟨rfl, rfl⟩ H
  refine s_1 rfl (s_nil (q_then ?_))
  replace H : Hd _ _ _ [] [blk r (redC (.slice A J2.us.length c) vM2 vC2 vR2 vK2 J2 cw ct co part ep R.g hv sb vs) 185, prsS (R.g) hv] := H
  refine c_seq (c_seq (c_reg (s_1 rfl (s_val rfl rfl (r_peq rfl un178 rfl rfl) (s_nil (q_then (c_no rfl (c_skip (q_then (c_seq (c_reg (s_1 rfl (s_val rfl rfl (r_nilP rfl rfl) (s_val rfl rfl (r_fa rfl fo181_1 rfl) ?_))))))))))))))
  obtain ⟨A2, c3, e4, _, _, _⟩ := H.prsFormR (i := (s).toNat) 1 rfl (by omega)
  refine s_val rfl rfl (r_ld rfl ty35 rfl (H.cellRI 0 rfl ((redC_at1 (by omega)).trans (congrArg some e4)))) ?_
  have hbq := hbp (s).toNat
  refine sc (clone_ok (.slice A2 ((R.g (s).toNat).pairs.length) c3) (R.g (s).toNat).pairs (by omega)) H (lX (fun F hA hR => by rw [← e4]; exact prs_rd (by omega) (hR _ (List.mem_of_getElem? (i := 1) rfl))) l0) rfl rfl (e_fn kn123 rfl rfl) ?_
  rintro v5 _ w rfl H
  refine s_1 rfl (s_nil (q_then ?_))
  replace H : Hd _ _ _ [osl kPair v5 ((R.g (s).toNat).pairs)] [blk r (redC (.slice A J2.us.length c) vM2 vC2 vR2 vK2 J2 cw ct co part ep R.g hv sb vs) 185, prsS (R.g) hv] := H
  refine c_ret (q_ret1 rfl rfl ?_)
  replace H : Hd w0 F0 w [osl kPair v5 (pairsR J2.us.length R s)] [blk r (redC (.slice A J2.us.length c) vM2 vC2 vR2 vK2 J2 cw ct co part ep R.g hv sb vs) 185, prsS (R.g) hv] := by rw [pairsR_yes hin1]; exact H
  exact fin rfl H
 ·refine c_reg (s_k 2 rfl (sc (at_no r A J2.us.length c vM2 vC2 vR2 vK2 J2 cw ct co part ep R.g hv sb vs s (by first | assumption | omega)) H (lR 0 rfl l0) rfl rfl (e_fn kn118 rfl rfl) ?_))
  rintro _ _ w ⟨rfl, rfl⟩ H
  refine s_1 rfl (s_nil (q_then ?_))
  replace H : Hd _ _ _ [] [blk r (redC (.slice A J2.us.length c) vM2 vC2 vR2 vK2 J2 cw ct co part ep R.g hv sb vs) 185, prsS (R.g) hv] := H
  refine c_seq (c_seq (c_reg (s_1 rfl (s_val rfl rfl (r_peq rfl un178 rfl rfl) (s_nil (q_then (c_yes rfl (c_seq (c_reg (s_1 rfl (s_nil (q_then (c_ret (q_thenR (q_ret1 rfl rfl ?_)))))))))))))))
  replace H := H.newnil kPair
  replace H : Hd w0 F0 w [osl kPair (.slice none 0 0) (pairsR J2.us.length R s)] [blk r (redC (.slice A J2.us.length c) vM2 vC2 vR2 vK2 J2 cw ct co part ep R.g hv sb vs) 185, prsS (R.g) hv] := by rw [pairsR_no hin1]; exact H
  exact fin rfl H
set_option maxHeartbeats 4000000 in
theorem snaps_ok (r : Nat) (A : Option Addr) (c : Nat) (vM2 : Value) (vC2 : Value) (vR2 : Value) (vK2 : Value) (J2 : Job) (cw : Int) (ct : Int) (co : Int) (part : Int) (ep : Int) (R : Red) (hv : Nat → Value) (sb : Nat) (vs : Value) (us : List (Value × List Int)) (hred : ∀ i ∈ J2.red, In64 i.a) (hf64 : In64 J2.fuel) (hus6 : J2.us.length ≤ 6) (hbp : ∀ i, (R.g i).pairs.length ≤ 1000) (hsets : us.map (fun u => u.2) = R.sets) (hul : us.length ≤ 100000) (hsl : ∀ u ∈ us, u.2.length ≤ 1000) :
    Cn Tryz.prog 59 [.pointer (some ⟨r, 0, none⟩)] [] [blk r (redC (.slice A J2.us.length c) vM2 vC2 vR2 vK2 J2 cw ct co part ep R.g hv sb vs) 185, prsS (R.g) hv, rsl kIns vR2 J2.red, rsl (kHd (kInt .i64)) vs us, gl] (fun v Bs => ∃ zs : List (Two Int), Bs = [osl kSnap v zs] ∧ (zs.map snapP = snapsR dg J2 R)) := by
 intro w0 F0 H
 obtain ⟨A1, c2, rfl, hc3, hm4, hp5⟩ := H.fR 3 rfl
 refine enter Tryz.func59 rfl rfl (Nat.le_of_ble_eq_true rfl) (c_seq (c_reg (s_1 rfl (s_nil (q_then ?_)))))
 replace H : Hd _ _ _ [] [blk r (redC (.slice A J2.us.length c) vM2 vC2 vR2 vK2 J2 cw ct co part ep R.g hv sb (.slice A1 us.length c2)) 185, prsS (R.g) hv, rsl kIns vR2 J2.red, rsl (kHd (kInt .i64)) (.slice A1 us.length c2) us, gl] := H
 refine c_seq (c_seq (c_reg (s_1 rfl (s_val rfl rfl (r_peq rfl un75 rfl rfl) (s_nil (q_then (c_no rfl (c_skip (q_then (c_seq (c_reg (s_1 rfl (s_nil (q_then (c_seq (c_seq (c_reg (s_1 rfl (s_val rfl rfl (r_nilP rfl rfl) (s_val rfl rfl (r_fa rfl fo185_5 rfl) (s_val rfl rfl (r_ld rfl ty144 rfl (H.cellRI 0 rfl rfl)) (s_val rfl rfl (r_lenL rfl un144 rfl) (s_1 rfl (s_nil (q_then (c_block ?_))))))))))))))))))))))))))
 replace H := H.newnil kSnapF
 replace H := Hd.tw0 (α := Int) H
 replace H := H.h1 (A := twS ([] : List (Two Int))) |>.h2 (A := twS ([] : List (Two Int))) (B := osl kSnapF (.slice none 0 0) (([] : List (Two Int)).map twF)) |>.p1
 refine c_loop (σ := Nat × Value × List (Two Int)) (fun (k, q, zs) => [(0, .pointer (some ⟨r, 0, none⟩)), (2, .slice none 0 0), (3, q), (13, .slice A1 us.length c2), (14, .int .i64 ((us.length : Nat) : Int)), (15, .int .i64 ((k : Nat) : Int))]) (fun (k, q, zs) w => (Hd w0 F0 w [osl kSnapF q (zs.map twF), twS zs] [blk r (redC (.slice A J2.us.length c) vM2 vC2 vR2 vK2 J2 cw ct co part ep R.g hv sb (.slice A1 us.length c2)) 185, prsS (R.g) hv, rsl kIns vR2 J2.red, rsl (kHd (kInt .i64)) (.slice A1 us.length c2) us, gl]) ∧ (k ≤ us.length) ∧ (zs.map snapP = (snapsR dg J2 R).take k)) (fun (k, q, zs) => us.length - k) (0, .slice none 0 0, []) ⟨rfl, rfl, rfl, rfl, rfl, rfl, trivial⟩ ⟨H, Nat.zero_le _, rfl⟩ ?_
 rintro ⟨k, q, zs⟩ w ⟨H, hk, hz⟩
 have hzl : zs.length = k := by have h1 := congrArg List.length hz; rw [List.length_map, List.length_take, snaps_len hsets] at h1; omega
 have hzl2 : (zs.map twF).length = zs.length := List.length_map ..
 refine c_seq (c_reg (s_val rfl rfl (r_lt rfl rfl rfl) (s_nil (q_then (c_seq ?_)))))
 refine c_dec rfl (fun h6 => ?_) (fun h6 => ?_)
 ·refine c_skip (q_then (c_seq (c_block (c_seq (c_reg ?_)))))
  obtain ⟨⟨u9, x7⟩, hx8⟩ : ∃ z9, us[k]? = some z9 := ⟨_, List.getElem?_eq_getElem (show k < us.length by omega)⟩
  obtain ⟨A10, c11, rfl, hc12, hm13⟩ := H.nestR 3 rfl hx8
  have hxl : x7.length ≤ 1000 := hsl _ (at_mem hx8)
  have th14 := H.thRd 3 rfl hx8
  refine s_val rfl rfl (r_iaE (p := oOf A1 + k * 1) rfl sl144 rfl rfl (by omega) (by omega) th14 rfl) (s_val rfl rfl (r_ld rfl ty24 rfl (H.elRd 3 rfl hx8 rfl)) (s_1 rfl (s_nil (q_then (c_seq (c_reg (s_k 2 rfl (sc (of_ok r A c vM2 vC2 vR2 vK2 J2 cw ct co part ep R hv sb (.slice A1 us.length c2) (.slice A10 x7.length c11) x7 (by first | assumption | omega) (by first | assumption | omega) (by first | assumption | omega) (by first | assumption | omega)) H (lR 0 rfl (lR 1 rfl (lX (fun F hA hR => nest_rsl (hR _ (List.mem_of_getElem? (i := 3) rfl)) hx8) (lR 2 rfl (lR 4 rfl l0))))) rfl rfl (e_fn kn131 rfl rfl) ?_))))))))
  rintro _ _ w ⟨u15, rfl, rfl⟩ H
  refine s_k 5 rfl (s_nil (q_then ?_))
  replace H : Hd _ _ _ [osl kPair u15 ((eachM dg J2.red (srt (runsOf J2.us.length R x7)) J2.fuel false).1), osl kSnapF q (zs.map twF), twS zs] [blk r (redC (.slice A J2.us.length c) vM2 vC2 vR2 vK2 J2 cw ct co part ep R.g hv sb (.slice A1 us.length c2)) 185, prsS (R.g) hv, rsl kIns vR2 J2.red, rsl (kHd (kInt .i64)) (.slice A1 us.length c2) us, gl] := H
  refine c_reg (s_k 2 rfl (sc (cloneInt_ok (.slice A10 x7.length c11) x7 (by first | assumption | omega)) H (lX (fun F hA hR => nest_rsl (hR _ (List.mem_of_getElem? (i := 3) rfl)) hx8) l0) rfl rfl (e_fn kn129 rfl rfl) ?_))
  rintro v16 _ w rfl H
  refine s_k 2 rfl ?_
  obtain ⟨A17, c18, rfl, hc19, hm20, hp21⟩ := H.fA 0 rfl
  obtain ⟨A22, c23, rfl, hc24, hm25, hp26⟩ := H.fA 1 rfl
  refine s_val rfl rfl (r_bd (parts := [(0, .tmp 27), (1, .tmp 28), (2, .tmp 29)]) (vs := [.slice A17 x7.length c18, .int .i64 ((eachM dg J2.red (srt (runsOf J2.us.length R x7)) J2.fuel false).2), .slice A22 (((eachM dg J2.red (srt (runsOf J2.us.length R x7)) J2.fuel false).1).length) c23]) (cs := [.slice A17 x7.length c18, .int .i64 ((eachM dg J2.red (srt (runsOf J2.us.length R x7)) J2.fuel false).2), .slice A22 (((eachM dg J2.red (srt (runsOf J2.us.length R x7)) J2.fuel false).1).length) c23]) rfl bd195 rfl rfl) (s_bsl (parts := [(0, .tmp 30)]) (vs := [.agg #[.slice A17 x7.length c18, .int .i64 ((eachM dg J2.red (srt (runsOf J2.us.length R x7)) J2.fuel false).2), .slice A22 (((eachM dg J2.red (srt (runsOf J2.us.length R x7)) J2.fuel false).1).length) c23]]) (cs := [.slice A17 x7.length c18, .int .i64 ((eachM dg J2.red (srt (runsOf J2.us.length R x7)) J2.fuel false).2), .slice A22 (((eachM dg J2.red (srt (runsOf J2.us.length R x7)) J2.fuel false).1).length) c23]) rfl rfl rfl sl94 zr195 rfl (by decide) (by decide) rfl rfl H (fun b27 w H => ?_))
  replace H := H.p3
  refine s_appF (xs := zs.map twF) (ys := [(⟨(eachM dg J2.red (srt (runsOf J2.us.length R x7)) J2.fuel false).2, ⟨A17, x7.length, c18⟩, ⟨A22, ((eachM dg J2.red (srt (runsOf J2.us.length R x7)) J2.fuel false).1).length, c23⟩⟩ : TwoF Int)]) rfl rfl rfl sl94 zr195 rfl (by decide) rfl rfl H (by first | omega | (simp only [List.length_append, List.length_cons, List.length_nil]; omega)) (fun F hA hR => blk_rsl (hA _ (List.mem_of_getElem? (i := 0) rfl)) rfl (by decide) (RepsR.flat_eq.2 rfl)) (fun v28 w H => (s_1 rfl (s_nil (q_blockN (q_then ?_)))))
  replace H : Hd _ _ _ [osl kSnapF v28 ((zs.map twF) ++ [(⟨(eachM dg J2.red (srt (runsOf J2.us.length R x7)) J2.fuel false).2, ⟨A17, x7.length, c18⟩, ⟨A22, ((eachM dg J2.red (srt (runsOf J2.us.length R x7)) J2.fuel false).1).length, c23⟩⟩ : TwoF Int)]), blk b27 [.slice A17 x7.length c18, .int .i64 ((eachM dg J2.red (srt (runsOf J2.us.length R x7)) J2.fuel false).2), .slice A22 (((eachM dg J2.red (srt (runsOf J2.us.length R x7)) J2.fuel false).1).length) c23] 195, osl (kInt .i64) (.slice A17 x7.length c18) x7, osl kPair (.slice A22 (((eachM dg J2.red (srt (runsOf J2.us.length R x7)) J2.fuel false).1).length) c23) ((eachM dg J2.red (srt (runsOf J2.us.length R x7)) J2.fuel false).1), twS zs] [blk r (redC (.slice A J2.us.length c) vM2 vC2 vR2 vK2 J2 cw ct co part ep R.g hv sb (.slice A1 us.length c2)) 185, prsS (R.g) hv, rsl kIns vR2 J2.red, rsl (kHd (kInt .i64)) (.slice A1 us.length c2) us, gl] := H
  refine c_reg (s_val rfl rfl (r_add (z := ((k + 1 : Nat) : Int)) rfl rfl rfl (by rw [w64 (by omega) (by omega)]; omega)) (s_1 rfl (s_nil ?_)))
  replace H := H.p4.p4.p4.k4
  replace H := Hd.twN (r := (⟨(ofR dg J2 R x7).2, .slice A17 x7.length c18, x7, .slice A22 (((eachM dg J2.red (srt (runsOf J2.us.length R x7)) J2.fuel false).1).length) c23, (ofR dg J2 R x7).1⟩ : Two Int)) H
  replace H : Hd w0 F0 w [twS (zs ++ [(⟨(ofR dg J2 R x7).2, .slice A17 x7.length c18, x7, .slice A22 (((eachM dg J2.red (srt (runsOf J2.us.length R x7)) J2.fuel false).1).length) c23, (ofR dg J2 R x7).1⟩ : Two Int)]), osl kSnapF v28 ((zs ++ [(⟨(ofR dg J2 R x7).2, .slice A17 x7.length c18, x7, .slice A22 (((eachM dg J2.red (srt (runsOf J2.us.length R x7)) J2.fuel false).1).length) c23, (ofR dg J2 R x7).1⟩ : Two Int)]).map twF)] [blk r (redC (.slice A J2.us.length c) vM2 vC2 vR2 vK2 J2 cw ct co part ep R.g hv sb (.slice A1 us.length c2)) 185, prsS (R.g) hv, rsl kIns vR2 J2.red, rsl (kHd (kInt .i64)) (.slice A1 us.length c2) us, gl] := by rw [List.map_append]; exact H
  replace H := H.p1
  have hz2 : (zs ++ [(⟨(ofR dg J2 R x7).2, .slice A17 x7.length c18, x7, .slice A22 (((eachM dg J2.red (srt (runsOf J2.us.length R x7)) J2.fuel false).1).length) c23, (ofR dg J2 R x7).1⟩ : Two Int)]).map snapP = (snapsR dg J2 R).take (k + 1) := by rw [List.map_append, hz, snaps_step hsets hx8]; rfl
  exact q_round (s := (k, undef, zs)) (k + 1, v28, zs ++ [(⟨(ofR dg J2 R x7).2, .slice A17 x7.length c18, x7, .slice A22 (((eachM dg J2.red (srt (runsOf J2.us.length R x7)) J2.fuel false).1).length) c23, (ofR dg J2 R x7).1⟩ : Two Int)]) ⟨rfl, rfl, rfl, rfl, rfl, rfl, trivial⟩ ⟨H, by (try dsimp only); omega, hz2⟩ (by (try dsimp only); omega)
 ·refine c_exit (q_thenE (q_thenE (q_blockE (q_then (c_seq (c_reg (s_k 2 rfl (s_nil (q_then (c_ret (q_ret1 rfl rfl ?_)))))))))))
  replace H := H.h2 (A := osl kSnapF q (zs.map twF)) (B := twS zs)
  replace H := Hd.twI H
  replace H := H.h1 (A := osl kSnap q zs)
  exact fin ⟨zs, rfl, by rw [hz, List.take_of_length_le (by rw [snaps_len hsets]; omega)]⟩ H
set_option maxHeartbeats 4000000 in
theorem hello_ok (r : Nat) (A : Option Addr) (c : Nat) (vM2 : Value) (vC2 : Value) (vR2 : Value) (vK2 : Value) (J2 : Job) (cw : Int) (ct : Int) (co : Int) (part : Int) (ep : Int) (R : Red) (hv : Nat → Value) (sb : Nat) (vs : Value) (hred : ∀ i ∈ J2.red, In64 i.a) (hf64 : In64 J2.fuel) (hus6 : J2.us.length ≤ 6) (hbp : ∀ i, (R.g i).pairs.length ≤ 1000) (hpt : part = R.part) (hep : ep = R.ep) :
    Cn Tryz.prog 61 [.pointer (some ⟨r, 0, none⟩)] [] [blk r (redC (.slice A J2.us.length c) vM2 vC2 vR2 vK2 J2 cw ct co part ep R.g hv sb vs) 185, prsS (R.g) hv, rsl kIns vR2 J2.red, gl] (fun v Bs => ∃ u : Value, v = .agg #[.int .i64 ((helloR dg J2 R).kind), .int .i64 ((helloR dg J2 R).sp), .int .i64 ((helloR dg J2 R).att), .int .i64 ((helloR dg J2 R).part), .int .i64 ((helloR dg J2 R).seq), .int .i64 ((helloR dg J2 R).next), .int .i64 ((helloR dg J2 R).ep), .int .i64 ((helloR dg J2 R).why), u, .slice none 0 0] ∧ Bs = [osl (kInt .i64) u ((helloR dg J2 R).set)]) := by
 intro w0 F0 H
 refine enter Tryz.func61 rfl rfl (Nat.le_of_ble_eq_true rfl) (c_seq (c_reg (s_alloc rfl rfl rfl zr64 H (fun b1 w H => (s_nil (q_then ?_))))))
 replace H : Hd _ _ _ [blk b1 [.int .i64 0, .int .i64 0, .int .i64 0, .int .i64 0, .int .i64 0, .int .i64 0, .int .i64 0, .int .i64 0, .slice none 0 0, .slice none 0 0] 64] [blk r (redC (.slice A J2.us.length c) vM2 vC2 vR2 vK2 J2 cw ct co part ep R.g hv sb vs) 185, prsS (R.g) hv, rsl kIns vR2 J2.red, gl] := H
 refine c_seq (c_seq (c_reg (s_1 rfl (s_val rfl rfl (r_peq rfl un75 rfl rfl) (s_nil (q_then (c_no rfl (c_skip (q_then (c_seq (c_reg (s_1 rfl (sc (output_ok r A c vM2 vC2 vR2 vK2 J2 cw ct co part ep R hv sb vs (by first | assumption | omega) (by first | assumption | omega) (by first | assumption | omega) (by first | assumption | omega)) H (lR 0 rfl (lR 1 rfl (lR 2 rfl (lR 3 rfl l0)))) rfl rfl (e_fn kn60 rfl rfl) ?_)))))))))))))
 rintro _ _ w ⟨u2, rfl, rfl⟩ H
 replace H := H.h1 (A := osl kPair u2 ((outR dg J2 R).1))
 refine s_k 7 rfl (s_nil (q_then (c_seq (c_seq (c_reg (s_1 rfl (s_nil (q_then ?_))))))))
 refine c_cond (b := (outR dg J2 R).2.2) rfl (fun h3 => ?_) (fun h3 => ?_)
 ·refine c_seq (c_ord (.e 0 (.e 1 (.e 2 (.e 3 (.e 4 (.e 5 (.e 6 (.e 7 (.e 8 (.e 9 (.m 10 .z))))))))))) (fun w => ∃ Ar, Hd w0 F0 w (osl kPair u2 ((outR dg J2 R).1) :: Ar) [blk r (redC (.slice A J2.us.length c) vM2 vC2 vR2 vK2 J2 cw ct co part ep R.g hv sb vs) 185, prsS (R.g) hv, rsl kIns vR2 J2.red, gl]) mo (by kernel_rfl) (fun w H => ⟨_, H⟩) H (fun w H => (d_1 rfl (d_val rfl rfl rfl (fun w ⟨Ar, H⟩ => r_nilP rfl rfl) (d_val rfl rfl rfl (fun w ⟨Ar, H⟩ => r_fa rfl fo185_1 rfl) (d_val rfl rfl rfl (fun w ⟨Ar, H⟩ => r_ld rfl ty3 rfl (H.cellRI 0 rfl rfl)) (d_1 rfl (d_val rfl rfl rfl (fun w ⟨Ar, H⟩ => r_nilP rfl rfl) (d_val rfl rfl rfl (fun w ⟨Ar, H⟩ => r_fa rfl fo185_2 rfl) (d_val rfl rfl rfl (fun w ⟨Ar, H⟩ => r_ld rfl ty3 rfl (H.cellRI 0 rfl rfl)) (d_1 rfl (d_val rfl rfl rfl (fun w ⟨Ar, H⟩ => r_bd (parts := [(0, .const (.int .i64 8)), (3, .tmp 19), (6, .tmp 23), (7, .tmp 24)]) (vs := [.int .i64 8, .int .i64 part, .int .i64 ep, .int .i64 ((outR dg J2 R).2.1)]) (cs := [.int .i64 8, .int .i64 0, .int .i64 0, .int .i64 part, .int .i64 0, .int .i64 0, .int .i64 ep, .int .i64 ((outR dg J2 R).2.1), .slice none 0 0, .slice none 0 0]) rfl bd64 rfl rfl) ?_))))))))))))
  refine d_main rfl ?_
  replace H := H.p1
  refine s_st rfl rfl rfl ty64 rfl rfl H rfl (Nat.le_of_ble_eq_true rfl) (fun u hu => by simp [Value.cells] at hu; rcases hu with rfl | rfl | rfl | rfl | rfl | rfl | rfl | rfl | rfl | rfl <;> rfl) (fun w H => ?_)
  replace H := H.h1 (A := blk b1 [.int .i64 8, .int .i64 0, .int .i64 0, .int .i64 part, .int .i64 0, .int .i64 0, .int .i64 ep, .int .i64 ((outR dg J2 R).2.1), .slice none 0 0, .slice none 0 0] 64) |>.p1
  refine d_back ⟨_, H⟩ (d_nil (q_then (c_ret (q_thenR (q_retC (cs := [.int .i64 8, .int .i64 0, .int .i64 0, .int .i64 part, .int .i64 0, .int .i64 0, .int .i64 ep, .int .i64 ((outR dg J2 R).2.1), .slice none 0 0, .slice none 0 0]) rfl rfl ty64 rfl (H.cellsI 1 rfl rfl) ?_)))))
  have e := hello_yes (D := dg) (J := J2) (R := R) (by simpa using h3)
  replace H := H.newnil (kInt .i64) |>.k1
  exact fin ⟨(.slice none 0 0), by rw [e, hpt, hep] <;> rfl, by rw [e] <;> rfl⟩ H
 ·refine c_skip (q_then (c_seq (c_ord (.e 0 (.e 1 (.e 2 (.e 3 (.e 4 (.e 5 (.e 6 (.e 7 (.e 8 (.m 9 (.e 10 (.m 11 .z)))))))))))) (fun w => ∃ Ar, Hd w0 F0 w (osl kPair u2 ((outR dg J2 R).1) :: Ar) [blk r (redC (.slice A J2.us.length c) vM2 vC2 vR2 vK2 J2 cw ct co part ep R.g hv sb vs) 185, prsS (R.g) hv, rsl kIns vR2 J2.red, gl]) mo (by kernel_rfl) (fun w H => ⟨_, H⟩) H (fun w H => (d_1 rfl (d_val rfl rfl rfl (fun w ⟨Ar, H⟩ => r_nilP rfl rfl) (d_val rfl rfl rfl (fun w ⟨Ar, H⟩ => r_fa rfl fo185_1 rfl) (d_val rfl rfl rfl (fun w ⟨Ar, H⟩ => r_ld rfl ty3 rfl (H.cellRI 0 rfl rfl)) (d_1 rfl (d_val rfl rfl rfl (fun w ⟨Ar, H⟩ => r_nilP rfl rfl) (d_val rfl rfl rfl (fun w ⟨Ar, H⟩ => r_fa rfl fo185_2 rfl) (d_val rfl rfl rfl (fun w ⟨Ar, H⟩ => r_ld rfl ty3 rfl (H.cellRI 0 rfl rfl)) (d_1 rfl (d_main rfl (sc (merged_ok r A c vM2 vC2 vR2 vK2 J2 cw ct co part ep R hv sb vs (by first | assumption | omega)) H (lR 0 rfl l0) rfl rfl (e_fn kn51 rfl rfl) ?_)))))))))))))))
  rintro v4 _ w rfl H
  replace H := H.h1 (A := osl (kInt .i64) v4 (mergedL J2.us.length R)) |>.p1
  refine d_back ⟨_, H⟩ ?_
  obtain ⟨A5, c6, rfl, hc7, hm8, hp9⟩ := H.fA 1 rfl
  refine d_val rfl rfl rfl (fun w ⟨Ar, H⟩ => r_bd (parts := [(0, .const (.int .i64 6)), (3, .tmp 29), (6, .tmp 33), (8, .tmp 35)]) (vs := [.int .i64 6, .int .i64 part, .int .i64 ep, .slice A5 ((mergedL J2.us.length R).length) c6]) (cs := [.int .i64 6, .int .i64 0, .int .i64 0, .int .i64 part, .int .i64 0, .int .i64 0, .int .i64 ep, .int .i64 0, .slice A5 ((mergedL J2.us.length R).length) c6, .slice none 0 0]) rfl bd64 rfl rfl) (d_main rfl ?_)
  replace H := H.p2
  refine s_st rfl rfl rfl ty64 rfl rfl H rfl (Nat.le_of_ble_eq_true rfl) (fun u hu => by simp [Value.cells] at hu; rcases hu with rfl | rfl | rfl | rfl | rfl | rfl | rfl | rfl | rfl | rfl <;> rfl) (fun w H => ?_)
  replace H : Hd _ _ _ [blk b1 [.int .i64 6, .int .i64 0, .int .i64 0, .int .i64 part, .int .i64 0, .int .i64 0, .int .i64 ep, .int .i64 0, .slice A5 ((mergedL J2.us.length R).length) c6, .slice none 0 0] 64, osl kPair u2 ((outR dg J2 R).1), osl (kInt .i64) (.slice A5 ((mergedL J2.us.length R).length) c6) (mergedL J2.us.length R)] [blk r (redC (.slice A J2.us.length c) vM2 vC2 vR2 vK2 J2 cw ct co part ep R.g hv sb vs) 185, prsS (R.g) hv, rsl kIns vR2 J2.red, gl] := H
  replace H := H.p1
  refine d_back ⟨_, H⟩ (d_nil (q_then (c_ret (q_retC (cs := [.int .i64 6, .int .i64 0, .int .i64 0, .int .i64 part, .int .i64 0, .int .i64 0, .int .i64 ep, .int .i64 0, .slice A5 ((mergedL J2.us.length R).length) c6, .slice none 0 0]) rfl rfl ty64 rfl (H.cellsI 1 rfl rfl) ?_))))
  have e := hello_no (D := dg) (J := J2) (R := R) (by simpa using h3)
  replace H := H.p2.k1
  exact fin ⟨(.slice A5 ((mergedL J2.us.length R).length) c6), by rw [e, hpt, hep] <;> rfl, by rw [e] <;> rfl⟩ H
set_option maxHeartbeats 4000000 in
theorem staged_ok (r : Nat) (A : Option Addr) (c : Nat) (vM2 : Value) (vC2 : Value) (vR2 : Value) (vK2 : Value) (J2 : Job) (cw : Int) (ct : Int) (co : Int) (part : Int) (ep : Int) (R : Red) (hv : Nat → Value) (sb : Nat) (vs : Value) :
    Cn Tryz.prog 57 [.pointer (some ⟨r, 0, none⟩)] [stgI 253 sb (R.st)] [blk r (redC (.slice A J2.us.length c) vM2 vC2 vR2 vK2 J2 cw ct co part ep R.g hv sb vs) 185] (fun v Bs => v = .int .i64 ((R.st.length : Nat) : Int) ∧ Bs = [stgI 253 sb (R.st)]) := by
 intro w0 F0 H
 refine enter Tryz.func57 rfl rfl (Nat.le_of_ble_eq_true rfl) (c_seq (c_reg (s_1 rfl (s_nil (q_then (c_seq (c_seq (c_reg (s_1 rfl (s_val rfl rfl (r_peq rfl un75 rfl rfl) (s_nil (q_then (c_no rfl (c_skip (q_then (c_seq (c_reg (s_1 rfl (s_val rfl rfl (r_nilP rfl rfl) (s_val rfl rfl (r_fa rfl fo185_4 rfl) (s_val rfl rfl (r_ld rfl ty183 rfl (H.cellRI 0 rfl rfl)) (sc (stCount_ok sb R.st) H l0 rfl rfl (e_fn kn130 rfl rfl) ?_))))))))))))))))))))))
 rintro _ _ w ⟨rfl, rfl⟩ H
 refine s_1 rfl (s_nil (q_then ?_))
 replace H : Hd _ _ _ [stgI 253 sb (R.st)] [blk r (redC (.slice A J2.us.length c) vM2 vC2 vR2 vK2 J2 cw ct co part ep R.g hv sb vs) 185] := H
 exact c_ret (q_ret1 rfl rfl (fin ⟨rfl, rfl⟩ H))
end Go.Proofs.YthgehekecfpikaaGreatDoor.X

set_option linter.unusedVariables false
set_option linter.unusedSimpArgs false
namespace Go.Proofs.YthgehekecfpikaaGreatDoor.X
open Go
set_option maxHeartbeats 4000000 in
theorem small21_ok  :
    Cn Tryz.prog 117 [] [] [] (fun v Bs => ∃ vS : Value, ∃ vP : Value, ∃ vK : Value, ∃ u : Value, v = .agg #[vS, .int .i64 1, vP, .slice none 0 0, vP, .int .i64 1, .int .i64 1, .int .i64 9, vK, .int .i64 1, .int .i64 2, .int .i64 1] ∧ Bs = [osl (kHd kPair) vS [(u, oneR), (nilS, [])], osl kIns vP firstP, osl (kInt .i64) vK [1]]) := by
 intro w0 F0 H
 refine enter Tryz.func117 rfl rfl (Nat.le_of_ble_eq_true rfl) (c_seq (c_reg (s_alloc rfl rfl rfl zr28 H (fun b1 w H => (s_nil (q_then ?_))))))
 replace H : Hd _ _ _ [blk b1 [.slice none 0 0, .int .i64 0, .slice none 0 0, .slice none 0 0, .slice none 0 0, .int .i64 0, .int .i64 0, .int .i64 0, .slice none 0 0, .int .i64 0, .int .i64 0, .int .i64 0] 28] [] := H
 refine c_seq (c_reg (s_val rfl rfl (r_bd (parts := [(0, .const (.int .i64 6))]) (vs := [.int .i64 6]) (cs := [.int .i64 6, .int .i64 0, .string ⟨#[]⟩]) rfl bd223 rfl rfl) (s_val rfl rfl (r_bd (parts := [(0, .const (.int .i64 7))]) (vs := [.int .i64 7]) (cs := [.int .i64 7, .int .i64 0, .string ⟨#[]⟩]) rfl bd223 rfl rfl) (s_val rfl rfl (r_bd (parts := [(0, .const (.int .i64 4))]) (vs := [.int .i64 4]) (cs := [.int .i64 4, .int .i64 0, .string ⟨#[]⟩]) rfl bd223 rfl rfl) (s_val rfl rfl (r_bd (parts := [(0, .const (.int .i64 23))]) (vs := [.int .i64 23]) (cs := [.int .i64 23, .int .i64 0, .string ⟨#[]⟩]) rfl bd223 rfl rfl) (s_bsl (parts := [(0, .tmp 2), (1, .tmp 3), (2, .tmp 4), (3, .tmp 5)]) (vs := [.agg #[.int .i64 6, .int .i64 0, .string ⟨#[]⟩], .agg #[.int .i64 7, .int .i64 0, .string ⟨#[]⟩], .agg #[.int .i64 4, .int .i64 0, .string ⟨#[]⟩], .agg #[.int .i64 23, .int .i64 0, .string ⟨#[]⟩]]) (cs := [.int .i64 6, .int .i64 0, .string ⟨#[]⟩, .int .i64 7, .int .i64 0, .string ⟨#[]⟩, .int .i64 4, .int .i64 0, .string ⟨#[]⟩, .int .i64 23, .int .i64 0, .string ⟨#[]⟩]) rfl rfl rfl sl23 zr223 rfl (by decide) (by decide) rfl rfl H (fun b2 w H => ?_)))))))
 replace H := H.h1 (A := blk b2 [.int .i64 6, .int .i64 0, .string ⟨#[]⟩, .int .i64 7, .int .i64 0, .string ⟨#[]⟩, .int .i64 4, .int .i64 0, .string ⟨#[]⟩, .int .i64 23, .int .i64 0, .string ⟨#[]⟩] 223)
 refine s_1 rfl (s_nil (q_then (c_seq (c_reg (s_val rfl rfl (r_bd (parts := [(0, .const (.string ⟨#[98]⟩)), (1, .const (.string ⟨#[49]⟩))]) (vs := [.string ⟨#[98]⟩, .string ⟨#[49]⟩]) (cs := [.string ⟨#[98]⟩, .string ⟨#[49]⟩]) rfl bd106 rfl rfl) (s_bsl (parts := [(0, .tmp 7)]) (vs := [.agg #[.string ⟨#[98]⟩, .string ⟨#[49]⟩]]) (cs := [.string ⟨#[98]⟩, .string ⟨#[49]⟩]) rfl rfl rfl sl35 zr106 rfl (by decide) (by decide) rfl rfl H (fun b3 w H => (s_bsl (parts := [(0, .tmp 8), (1, .const (.slice none 0 0))]) (vs := [.slice (some ⟨b3, 0, none⟩) 1 1, .slice none 0 0]) (cs := [.slice (some ⟨b3, 0, none⟩) 1 1, .slice none 0 0]) rfl rfl rfl sl22 zr35 rfl (by decide) (by decide) rfl rfl H (fun b4 w H => (s_k 2 rfl (s_bsl (parts := [(0, .const (.int .i64 1))]) (vs := [.int .i64 1]) (cs := [.int .i64 1]) rfl rfl rfl sl24 zr3 rfl (by decide) (by decide) rfl rfl H (fun b5 w H => (s_val rfl rfl (r_bd (parts := [(0, .tmp 9), (1, .const (.int .i64 1)), (2, .tmp 10), (4, .tmp 11), (5, .const (.int .i64 1)), (6, .const (.int .i64 1)), (7, .const (.int .i64 9)), (8, .tmp 12)]) (vs := [.slice (some ⟨b4, 0, none⟩) 2 2, .int .i64 1, .slice (some ⟨b2, 0, none⟩) 4 4, .slice (some ⟨b2, 0, none⟩) 4 4, .int .i64 1, .int .i64 1, .int .i64 9, .slice (some ⟨b5, 0, none⟩) 1 1]) (cs := [.slice (some ⟨b4, 0, none⟩) 2 2, .int .i64 1, .slice (some ⟨b2, 0, none⟩) 4 4, .slice none 0 0, .slice (some ⟨b2, 0, none⟩) 4 4, .int .i64 1, .int .i64 1, .int .i64 9, .slice (some ⟨b5, 0, none⟩) 1 1]) rfl bd26 rfl rfl) ?_)))))))))))))
 refine s_val rfl rfl (r_bd (parts := [(0, .tmp 13), (1, .const (.int .i64 1)), (2, .const (.int .i64 2)), (3, .const (.int .i64 1))]) (vs := [.agg #[.slice (some ⟨b4, 0, none⟩) 2 2, .int .i64 1, .slice (some ⟨b2, 0, none⟩) 4 4, .slice none 0 0, .slice (some ⟨b2, 0, none⟩) 4 4, .int .i64 1, .int .i64 1, .int .i64 9, .slice (some ⟨b5, 0, none⟩) 1 1], .int .i64 1, .int .i64 2, .int .i64 1]) (cs := [.slice (some ⟨b4, 0, none⟩) 2 2, .int .i64 1, .slice (some ⟨b2, 0, none⟩) 4 4, .slice none 0 0, .slice (some ⟨b2, 0, none⟩) 4 4, .int .i64 1, .int .i64 1, .int .i64 9, .slice (some ⟨b5, 0, none⟩) 1 1, .int .i64 1, .int .i64 2, .int .i64 1]) rfl bd28 rfl rfl) ?_
 replace H := H.p4
 refine s_st rfl rfl rfl ty28 rfl rfl H rfl (Nat.le_of_ble_eq_true rfl) (fun u hu => by simp [Value.cells] at hu; rcases hu with rfl | rfl | rfl | rfl | rfl | rfl | rfl | rfl | rfl | rfl | rfl | rfl <;> rfl) (fun w H => ?_)
 replace H : Hd _ _ _ [blk b1 [.slice (some ⟨b4, 0, none⟩) 2 2, .int .i64 1, .slice (some ⟨b2, 0, none⟩) 4 4, .slice none 0 0, .slice (some ⟨b2, 0, none⟩) 4 4, .int .i64 1, .int .i64 1, .int .i64 9, .slice (some ⟨b5, 0, none⟩) 1 1, .int .i64 1, .int .i64 2, .int .i64 1] 28, blk b5 [.int .i64 1] 3, blk b4 [.slice (some ⟨b3, 0, none⟩) 1 1, .slice none 0 0] 35, blk b3 [.string ⟨#[98]⟩, .string ⟨#[49]⟩] 106, blk b2 [.int .i64 6, .int .i64 0, .string ⟨#[]⟩, .int .i64 7, .int .i64 0, .string ⟨#[]⟩, .int .i64 4, .int .i64 0, .string ⟨#[]⟩, .int .i64 23, .int .i64 0, .string ⟨#[]⟩] 223] [] := H
 refine s_nil (q_then (c_ret (q_retC (cs := [.slice (some ⟨b4, 0, none⟩) 2 2, .int .i64 1, .slice (some ⟨b2, 0, none⟩) 4 4, .slice none 0 0, .slice (some ⟨b2, 0, none⟩) 4 4, .int .i64 1, .int .i64 1, .int .i64 9, .slice (some ⟨b5, 0, none⟩) 1 1, .int .i64 1, .int .i64 2, .int .i64 1]) rfl rfl ty28 rfl (H.cellsI 0 rfl rfl) ?_)))
 replace H := H.p3
 replace H : Hd w0 F0 w [osl kPair (.slice (some ⟨b3, 0, none⟩) 1 1) oneR, blk b1 [.slice (some ⟨b4, 0, none⟩) 2 2, .int .i64 1, .slice (some ⟨b2, 0, none⟩) 4 4, .slice none 0 0, .slice (some ⟨b2, 0, none⟩) 4 4, .int .i64 1, .int .i64 1, .int .i64 9, .slice (some ⟨b5, 0, none⟩) 1 1, .int .i64 1, .int .i64 2, .int .i64 1] 28, blk b5 [.int .i64 1] 3, blk b4 [.slice (some ⟨b3, 0, none⟩) 1 1, .slice none 0 0] 35, blk b2 [.int .i64 6, .int .i64 0, .string ⟨#[]⟩, .int .i64 7, .int .i64 0, .string ⟨#[]⟩, .int .i64 4, .int .i64 0, .string ⟨#[]⟩, .int .i64 23, .int .i64 0, .string ⟨#[]⟩] 223] [] := H.turn (fun F h => blk_osl h rfl (by decide) rfl)
 replace H := H.p4
 replace H : Hd w0 F0 w [osl kIns (.slice (some ⟨b2, 0, none⟩) 4 4) firstP, osl kPair (.slice (some ⟨b3, 0, none⟩) 1 1) oneR, blk b1 [.slice (some ⟨b4, 0, none⟩) 2 2, .int .i64 1, .slice (some ⟨b2, 0, none⟩) 4 4, .slice none 0 0, .slice (some ⟨b2, 0, none⟩) 4 4, .int .i64 1, .int .i64 1, .int .i64 9, .slice (some ⟨b5, 0, none⟩) 1 1, .int .i64 1, .int .i64 2, .int .i64 1] 28, blk b5 [.int .i64 1] 3, blk b4 [.slice (some ⟨b3, 0, none⟩) 1 1, .slice none 0 0] 35] [] := H.turn (fun F h => blk_osl h rfl (by decide) rfl)
 replace H := H.p3
 replace H : Hd w0 F0 w [osl (kInt .i64) (.slice (some ⟨b5, 0, none⟩) 1 1) [1], osl kIns (.slice (some ⟨b2, 0, none⟩) 4 4) firstP, osl kPair (.slice (some ⟨b3, 0, none⟩) 1 1) oneR, blk b1 [.slice (some ⟨b4, 0, none⟩) 2 2, .int .i64 1, .slice (some ⟨b2, 0, none⟩) 4 4, .slice none 0 0, .slice (some ⟨b2, 0, none⟩) 4 4, .int .i64 1, .int .i64 1, .int .i64 9, .slice (some ⟨b5, 0, none⟩) 1 1, .int .i64 1, .int .i64 2, .int .i64 1] 28, blk b4 [.slice (some ⟨b3, 0, none⟩) 1 1, .slice none 0 0] 35] [] := H.turn (fun F h => blk_osl h rfl (by decide) rfl)
 replace H := H.newnil kPair |>.p2 |>.p1 |>.p3 |>.p5 |>.k5
 replace H : Hd w0 F0 w [osl kHdr (.slice (some ⟨b4, 0, none⟩) 2 2) (hdr1 ([(.slice (some ⟨b3, 0, none⟩) 1 1, oneR), (nilS, [])] : List (Value × List Pair))), osl kPair (.slice (some ⟨b3, 0, none⟩) 1 1) oneR, osl kPair (.slice none 0 0) [], osl kIns (.slice (some ⟨b2, 0, none⟩) 4 4) firstP, osl (kInt .i64) (.slice (some ⟨b5, 0, none⟩) 1 1) [1]] [] := H.turn (fun F h => blk_osl h rfl (by decide) rfl)
 replace H := H.p2.p2
 replace H := Hd.stI (Bs := [osl kPair (.slice (some ⟨b3, 0, none⟩) 1 1) oneR, osl kPair (.slice none 0 0) []]) H
 replace H := H.h1 (A := inS kPair ([(.slice (some ⟨b3, 0, none⟩) 1 1, oneR), (nilS, [])] : List (Value × List Pair))) |>.p1 |>.hdI |>.h1 (A := osl (kHd kPair) (.slice (some ⟨b4, 0, none⟩) 2 2) [(.slice (some ⟨b3, 0, none⟩) 1 1, oneR), (nilS, [])])
 exact fin ⟨(.slice (some ⟨b4, 0, none⟩) 2 2), (.slice (some ⟨b2, 0, none⟩) 4 4), (.slice (some ⟨b5, 0, none⟩) 1 1), (.slice (some ⟨b3, 0, none⟩) 1 1), rfl, rfl⟩ H
end Go.Proofs.YthgehekecfpikaaGreatDoor.X

set_option linter.unusedVariables false
set_option linter.unusedSimpArgs false
namespace Go.Proofs.YthgehekecfpikaaGreatDoor.X
open Go
set_option maxHeartbeats 4000000 in
theorem awake21_ok  :
    Cn Tryz.prog 47 [] [] [gl] (fun v Bs => v = .bool true ∧ Bs = []) := by
 intro w0 F0 H
 refine enter Tryz.func47 rfl rfl (Nat.le_of_ble_eq_true rfl) (c_seq (c_reg (s_1 rfl (s_nil (q_then (c_seq (c_reg (sc (small21_ok) H l0 rfl rfl (e_fn kn117 rfl rfl) ?_))))))))
 rintro _ _ w ⟨vS1, vP2, vK3, u4, rfl, rfl⟩ H
 replace H : Hd _ _ _ [osl (kHd kPair) vS1 [(u4, oneR), (nilS, [])], osl kIns vP2 firstP, osl (kInt .i64) vK3 [1]] [gl] := H
 refine sc (redNew_ok vS1 vP2 (.slice none 0 0) vP2 vK3 (small21 u4) 0 1 (.slice none 0 0) [] (by first | assumption | omega | exact small21_may _ | exact ⟨small21_home _, by decide⟩ | exact OkR.pairs (by assumption) | (unfold In64; omega) | exact (fun r h => by cases h) | decide | (simp only [List.length_nil]; omega) | exact in64_first) (by first | assumption | omega | exact small21_may _ | exact ⟨small21_home _, by decide⟩ | exact OkR.pairs (by assumption) | (unfold In64; omega) | exact (fun r h => by cases h) | decide | (simp only [List.length_nil]; omega) | exact in64_first) (by first | assumption | omega | exact small21_may _ | exact ⟨small21_home _, by decide⟩ | exact OkR.pairs (by assumption) | (unfold In64; omega) | exact (fun r h => by cases h) | decide | (simp only [List.length_nil]; omega) | exact in64_first) (by first | assumption | omega | exact small21_may _ | exact ⟨small21_home _, by decide⟩ | exact OkR.pairs (by assumption) | (unfold In64; omega) | exact (fun r h => by cases h) | decide | (simp only [List.length_nil]; omega) | exact in64_first) (by first | assumption | omega | exact small21_may _ | exact ⟨small21_home _, by decide⟩ | exact OkR.pairs (by assumption) | (unfold In64; omega) | exact (fun r h => by cases h) | decide | (simp only [List.length_nil]; omega) | exact in64_first) (by first | assumption | omega | exact small21_may _ | exact ⟨small21_home _, by decide⟩ | exact OkR.pairs (by assumption) | (unfold In64; omega) | exact (fun r h => by cases h) | decide | (simp only [List.length_nil]; omega) | exact in64_first)) H (lA 0 rfl own_rd (lA 1 rfl own_rd (lX (fun F _ _ => rsl_nil _ _ F trivial (by decide)) (lA 1 rfl own_rd (lA 2 rfl own_rd (lX (fun F _ _ => rsl_nil _ _ F trivial (by decide)) l0)))))) rfl rfl (e_fn kn56 rfl rfl) ?_
 rintro _ _ w ⟨r5, vS6, vM7, vC8, vR9, vK10, J11, hv12, sb13, vs14, us15, rfl, rfl, hf16, hf17⟩ H
 have hsj := hf16
 have hall := aw_all hsj
 have hout := aw_out (D := dg) hsj
 have hC := small21_may u4
 have hlen : J11.us.length = 2 := hsj.len
 have h6 : J11.us.length ≤ 6 := by have := hC.1.1; have := hsj.len; omega
 have hmk : J11.marks.length ≤ 1000 := by have := hC.1.2.2.1; rw [hsj.marks]; omega
 have hred : ∀ i ∈ J11.red, In64 i.a := by rw [hsj.red]; exact in64_first
 have hf64 : In64 J11.fuel := by rw [hsj.fuel]; have := hC.1.2.2.2.2.2.2.2.2.2.2; unfold In64; omega
 have hoks := aw_ok h6
 replace H : Hd _ _ _ [blk r5 (redC vS6 vM7 vC8 vR9 vK10 J11 ((small21 u4).w) ((small21 u4).t) ((small21 u4).o) 0 1 ((newR J11.us.length 0 1 ([].map Rec.p)).g) hv12 sb13 vs14) 185, osl (kHd kPair) vS6 J11.us, osl kIns vM7 J11.map, osl kIns vC8 J11.comb, osl kIns vR9 J11.red, osl (kInt .i64) vK10 J11.marks, prsS ((newR J11.us.length 0 1 ([].map Rec.p)).g) hv12, osl (kHd (kInt .i64)) vs14 us15, stgI 253 sb13 ([]), osl (kHd kPair) vS1 [(u4, oneR), (nilS, [])], osl kIns vP2 firstP, osl (kInt .i64) vK3 [1]] [gl] := H
 obtain ⟨R18, hR19⟩ : ∃ z : Red, z = newR J11.us.length 0 1 ([].map Rec.p) := ⟨_, rfl⟩
 rw [← hR19] at H hf17
 have hRp20 : R18.part = 0 := by rw [hR19]; exact (newR_part _ _ _ _).1
 have hRe21 : R18.ep = 1 := by rw [hR19]; exact (newR_part _ _ _ _).2.1
 have hRs22 : R18.st = [] := by rw [hR19]; exact (newR_part _ _ _ _).2.2
 rw [show redC vS6 vM7 vC8 vR9 vK10 J11 ((small21 u4).w) ((small21 u4).t) ((small21 u4).o) 0 1 R18.g hv12 sb13 vs14 = redC vS6 vM7 vC8 vR9 vK10 J11 ((small21 u4).w) ((small21 u4).t) ((small21 u4).o) R18.part R18.ep R18.g hv12 sb13 vs14 from by rw [hRp20, hRe21], show stgI 253 sb13 ([]) = stgI 253 sb13 (R18.st) from by rw [hRs22]] at H
 replace H : Hd _ _ _ [blk r5 (redC vS6 vM7 vC8 vR9 vK10 J11 ((small21 u4).w) ((small21 u4).t) ((small21 u4).o) R18.part R18.ep R18.g hv12 sb13 vs14) 185, osl (kHd kPair) vS6 J11.us, osl kIns vM7 J11.map, osl kIns vC8 J11.comb, osl kIns vR9 J11.red, osl (kInt .i64) vK10 J11.marks, prsS (R18.g) hv12, osl (kHd (kInt .i64)) vs14 us15, stgI 253 sb13 (R18.st), osl (kHd kPair) vS1 [(u4, oneR), (nilS, [])], osl kIns vP2 firstP, osl (kInt .i64) vK3 [1]] [gl] := H
 replace H := redI_shut r5 vS6 vM7 vC8 vR9 vK10 J11 ((small21 u4).w) ((small21 u4).t) ((small21 u4).o) sb13 R18 hv12 vs14 us15 hf17 H
 replace H := H.h1 (A := redI r5 vS6 vM7 vC8 vR9 vK10 J11 ((small21 u4).w) ((small21 u4).t) ((small21 u4).o) sb13 R18)
 have hsj_R18 := hf16
 have hR0 : R18 = aw0 := by rw [hR19]; rfl
 obtain ⟨hk0, hk1, hk2, hk3⟩ := hoks
 rw [← hR0] at hk0
 have hB := hk0.mono (show 99000 ≤ 99999 by omega)
 have hB1 := hk0.mono (show 99000 ≤ 100000 by omega)
 refine s_k 5 rfl (s_nil (q_then ?_))
 replace H := H.k1
 refine c_seq (c_seq (c_reg (s_1 rfl (s_val rfl rfl (r_ne rfl rfl rfl) (s_k 2 rfl (s_val rfl rfl (r_peq rfl un75 rfl rfl) (s_1 rfl (s_nil (q_then (c_no rfl (c_skip (q_then (c_seq (c_reg (s_1 rfl (sc (rwon_ok r5 vS6 vM7 vC8 vR9 vK10 J11 ((small21 u4).w) ((small21 u4).t) ((small21 u4).o) sb13 R18 1 1 0 (by first | assumption | omega | exact small21_may _ | exact ⟨small21_home _, by decide⟩ | exact OkR.pairs (by assumption) | (unfold In64; omega) | exact (fun r h => by cases h) | decide | (simp only [List.length_nil]; omega) | exact in64_first) (by first | assumption | omega | exact small21_may _ | exact ⟨small21_home _, by decide⟩ | exact OkR.pairs (by assumption) | (unfold In64; omega) | exact (fun r h => by cases h) | decide | (simp only [List.length_nil]; omega) | exact in64_first) (by first | assumption | omega | exact small21_may _ | exact ⟨small21_home _, by decide⟩ | exact OkR.pairs (by assumption) | (unfold In64; omega) | exact (fun r h => by cases h) | decide | (simp only [List.length_nil]; omega) | exact in64_first)) H l0 rfl rfl (e_fn kn49 rfl rfl) ?_))))))))))))))))
 rintro v25 _ w ⟨rs23, rfl, hf24⟩ H
 replace H := H.h2 (A := osl kRec v25 rs23) (B := redI r5 vS6 vM7 vC8 vR9 vK10 J11 ((small21 u4).w) ((small21 u4).t) ((small21 u4).o) sb13 ((wonR J11 ((small21 u4).t) R18 1 1 0).1))
 have hq27 : (wonR J11 ((small21 u4).t) R18 1 1 0).1 = (aw1 J11).1 := by rw [hR0]; rfl
 obtain ⟨R26, hR1⟩ : ∃ z : Red, z = (aw1 J11).1 := ⟨_, rfl⟩
 rw [hq27, ← hR1] at H
 replace H : Hd _ _ _ [osl kRec v25 rs23, redI r5 vS6 vM7 vC8 vR9 vK10 J11 ((small21 u4).w) ((small21 u4).t) ((small21 u4).o) sb13 R26] [gl] := H
 have hl1 := congrArg List.length hf24
 rw [List.length_map, hR0] at hl1
 rw [← hR1] at hk1
 have hB1a := hk1.mono (show 99000 ≤ 99999 by omega)
 have hB1b := hk1.mono (show 99000 ≤ 100000 by omega)
 obtain ⟨A28, c29, rfl, hc30, hm31, hp32⟩ := H.fA 0 rfl
 have hn1 := hl1.trans hall.1
 refine s_1 rfl (s_nil (q_then (c_seq (c_reg (s_1 rfl (s_val rfl rfl (r_bd (parts := [(0, .const (.string ⟨#[98]⟩)), (1, .const (.string ⟨#[49]⟩))]) (vs := [.string ⟨#[98]⟩, .string ⟨#[49]⟩]) (cs := [.string ⟨#[98]⟩, .string ⟨#[49]⟩]) rfl bd106 rfl rfl) (s_bsl (parts := [(0, .tmp 25)]) (vs := [.agg #[.string ⟨#[98]⟩, .string ⟨#[49]⟩]]) (cs := [.string ⟨#[98]⟩, .string ⟨#[49]⟩]) rfl rfl rfl sl35 zr106 rfl (by decide) (by decide) rfl rfl H (fun b33 w H => ?_))))))))
 replace H := H.h1 (A := blk b33 [.string ⟨#[98]⟩, .string ⟨#[49]⟩] 106)
 refine s_val rfl rfl (r_bd (parts := [(0, .const (.int .i64 2)), (2, .const (.int .i64 1)), (9, .tmp 26)]) (vs := [.int .i64 2, .int .i64 1, .slice (some ⟨b33, 0, none⟩) 1 1]) (cs := [.int .i64 2, .int .i64 0, .int .i64 1, .int .i64 0, .int .i64 0, .int .i64 0, .int .i64 0, .int .i64 0, .slice none 0 0, .slice (some ⟨b33, 0, none⟩) 1 1]) rfl bd64 rfl rfl) ?_
 replace H := H.p2
 refine sc (rpush_ok r5 vS6 vM7 vC8 vR9 vK10 J11 ((small21 u4).w) ((small21 u4).t) ((small21 u4).o) sb13 R26 (⟨2, 0, 1, 0, 0, 0, 0, 0, [], [(⟨⟨#[98]⟩, ⟨#[49]⟩⟩ : Pair)]⟩ : Msg) (.slice none 0 0) (.slice (some ⟨b33, 0, none⟩) 1 1) (by first | assumption | omega | exact small21_may _ | exact ⟨small21_home _, by decide⟩ | exact OkR.pairs (by assumption) | (unfold In64; omega) | exact (fun r h => by cases h) | decide | (simp only [List.length_nil]; omega) | exact in64_first) (by first | assumption | omega | exact small21_may _ | exact ⟨small21_home _, by decide⟩ | exact OkR.pairs (by assumption) | (unfold In64; omega) | exact (fun r h => by cases h) | decide | (simp only [List.length_nil]; omega) | exact in64_first) (by first | assumption | omega | exact small21_may _ | exact ⟨small21_home _, by decide⟩ | exact OkR.pairs (by assumption) | (unfold In64; omega) | exact (fun r h => by cases h) | decide | (simp only [List.length_nil]; omega) | exact in64_first)) H (lX (fun F _ _ => rsl_nil _ _ F trivial (by decide)) (lA 0 rfl (fun F h => blk_rsl h rfl (by decide) (RepsR.flat_eq.2 rfl)) l0)) rfl rfl (e_fn kn50 rfl rfl) ?_
 rintro _ _ w ⟨u34, rs35, rfl, rfl, hf36⟩ H
 replace H := H.h2 (A := osl kRec u34 rs35) (B := redI r5 vS6 vM7 vC8 vR9 vK10 J11 ((small21 u4).w) ((small21 u4).t) ((small21 u4).o) sb13 ((pushR J11 R26 (⟨2, 0, 1, 0, 0, 0, 0, 0, [], [(⟨⟨#[98]⟩, ⟨#[49]⟩⟩ : Pair)]⟩ : Msg)).1))
 have hq38 : (pushR J11 R26 (⟨2, 0, 1, 0, 0, 0, 0, 0, [], [(⟨⟨#[98]⟩, ⟨#[49]⟩⟩ : Pair)]⟩ : Msg)).1 = (aw2 J11).1 := by rw [hR1]; rfl
 obtain ⟨R37, hR2⟩ : ∃ z : Red, z = (aw2 J11).1 := ⟨_, rfl⟩
 rw [hq38, ← hR2] at H
 replace H : Hd _ _ _ [osl kRec u34 rs35, redI r5 vS6 vM7 vC8 vR9 vK10 J11 ((small21 u4).w) ((small21 u4).t) ((small21 u4).o) sb13 R37, blk b33 [.string ⟨#[98]⟩, .string ⟨#[49]⟩] 106, osl kRec (.slice A28 rs23.length c29) rs23] [gl] := H
 have hl2 := congrArg List.length hf36
 rw [List.length_map, hR1] at hl2
 rw [← hR2] at hk2
 have hB2a := hk2.mono (show 99000 ≤ 99999 by omega)
 have hB2b := hk2.mono (show 99000 ≤ 100000 by omega)
 obtain ⟨A39, c40, rfl, hc41, hm42, hp43⟩ := H.fA 0 rfl
 have hn2 := hl2.trans hall.2.2.1
 refine s_k 3 rfl (s_alloc rfl rfl rfl zr64 H (fun b44 w H => (s_st rfl rfl rfl ty64 rfl rfl H rfl (Nat.le_of_ble_eq_true rfl) (fun u hu => by simp [Value.cells] at hu; rcases hu with rfl | rfl | rfl | rfl | rfl | rfl | rfl | rfl | rfl | rfl <;> rfl) (fun w H => ?_))))
 replace H := H.h1 (A := blk b44 [.int .i64 (((pushR J11 R26 (⟨2, 0, 1, 0, 0, 0, 0, 0, [], [(⟨⟨#[98]⟩, ⟨#[49]⟩⟩ : Pair)]⟩ : Msg)).2.1).kind), .int .i64 (((pushR J11 R26 (⟨2, 0, 1, 0, 0, 0, 0, 0, [], [(⟨⟨#[98]⟩, ⟨#[49]⟩⟩ : Pair)]⟩ : Msg)).2.1).sp), .int .i64 (((pushR J11 R26 (⟨2, 0, 1, 0, 0, 0, 0, 0, [], [(⟨⟨#[98]⟩, ⟨#[49]⟩⟩ : Pair)]⟩ : Msg)).2.1).att), .int .i64 (((pushR J11 R26 (⟨2, 0, 1, 0, 0, 0, 0, 0, [], [(⟨⟨#[98]⟩, ⟨#[49]⟩⟩ : Pair)]⟩ : Msg)).2.1).part), .int .i64 (((pushR J11 R26 (⟨2, 0, 1, 0, 0, 0, 0, 0, [], [(⟨⟨#[98]⟩, ⟨#[49]⟩⟩ : Pair)]⟩ : Msg)).2.1).seq), .int .i64 (((pushR J11 R26 (⟨2, 0, 1, 0, 0, 0, 0, 0, [], [(⟨⟨#[98]⟩, ⟨#[49]⟩⟩ : Pair)]⟩ : Msg)).2.1).next), .int .i64 (((pushR J11 R26 (⟨2, 0, 1, 0, 0, 0, 0, 0, [], [(⟨⟨#[98]⟩, ⟨#[49]⟩⟩ : Pair)]⟩ : Msg)).2.1).ep), .int .i64 (((pushR J11 R26 (⟨2, 0, 1, 0, 0, 0, 0, 0, [], [(⟨⟨#[98]⟩, ⟨#[49]⟩⟩ : Pair)]⟩ : Msg)).2.1).why), .slice none 0 0, .slice none 0 0] 64)
 refine s_1 rfl (s_nil (q_then ?_))
 replace H := H.p4.p3.p3.p3.k4
 refine c_seq (c_reg (s_1 rfl ?_))
 replace H := H.p2
 refine sc (rwon_ok r5 vS6 vM7 vC8 vR9 vK10 J11 ((small21 u4).w) ((small21 u4).t) ((small21 u4).o) sb13 R37 0 1 1 (by first | assumption | omega | exact small21_may _ | exact ⟨small21_home _, by decide⟩ | exact OkR.pairs (by assumption) | (unfold In64; omega) | exact (fun r h => by cases h) | decide | (simp only [List.length_nil]; omega) | exact in64_first) (by first | assumption | omega | exact small21_may _ | exact ⟨small21_home _, by decide⟩ | exact OkR.pairs (by assumption) | (unfold In64; omega) | exact (fun r h => by cases h) | decide | (simp only [List.length_nil]; omega) | exact in64_first) (by first | assumption | omega | exact small21_may _ | exact ⟨small21_home _, by decide⟩ | exact OkR.pairs (by assumption) | (unfold In64; omega) | exact (fun r h => by cases h) | decide | (simp only [List.length_nil]; omega) | exact in64_first)) H l0 rfl rfl (e_fn kn49 rfl rfl) ?_
 rintro v47 _ w ⟨rs45, rfl, hf46⟩ H
 replace H := H.h2 (A := osl kRec v47 rs45) (B := redI r5 vS6 vM7 vC8 vR9 vK10 J11 ((small21 u4).w) ((small21 u4).t) ((small21 u4).o) sb13 ((wonR J11 ((small21 u4).t) R37 0 1 1).1))
 have hq49 : (wonR J11 ((small21 u4).t) R37 0 1 1).1 = (aw3 J11).1 := by rw [hR2]; rfl
 obtain ⟨R48, hR3⟩ : ∃ z : Red, z = (aw3 J11).1 := ⟨_, rfl⟩
 rw [hq49, ← hR3] at H
 replace H : Hd _ _ _ [osl kRec v47 rs45, redI r5 vS6 vM7 vC8 vR9 vK10 J11 ((small21 u4).w) ((small21 u4).t) ((small21 u4).o) sb13 R48, blk b44 [.int .i64 (((pushR J11 R26 (⟨2, 0, 1, 0, 0, 0, 0, 0, [], [(⟨⟨#[98]⟩, ⟨#[49]⟩⟩ : Pair)]⟩ : Msg)).2.1).kind), .int .i64 (((pushR J11 R26 (⟨2, 0, 1, 0, 0, 0, 0, 0, [], [(⟨⟨#[98]⟩, ⟨#[49]⟩⟩ : Pair)]⟩ : Msg)).2.1).sp), .int .i64 (((pushR J11 R26 (⟨2, 0, 1, 0, 0, 0, 0, 0, [], [(⟨⟨#[98]⟩, ⟨#[49]⟩⟩ : Pair)]⟩ : Msg)).2.1).att), .int .i64 (((pushR J11 R26 (⟨2, 0, 1, 0, 0, 0, 0, 0, [], [(⟨⟨#[98]⟩, ⟨#[49]⟩⟩ : Pair)]⟩ : Msg)).2.1).part), .int .i64 (((pushR J11 R26 (⟨2, 0, 1, 0, 0, 0, 0, 0, [], [(⟨⟨#[98]⟩, ⟨#[49]⟩⟩ : Pair)]⟩ : Msg)).2.1).seq), .int .i64 (((pushR J11 R26 (⟨2, 0, 1, 0, 0, 0, 0, 0, [], [(⟨⟨#[98]⟩, ⟨#[49]⟩⟩ : Pair)]⟩ : Msg)).2.1).next), .int .i64 (((pushR J11 R26 (⟨2, 0, 1, 0, 0, 0, 0, 0, [], [(⟨⟨#[98]⟩, ⟨#[49]⟩⟩ : Pair)]⟩ : Msg)).2.1).ep), .int .i64 (((pushR J11 R26 (⟨2, 0, 1, 0, 0, 0, 0, 0, [], [(⟨⟨#[98]⟩, ⟨#[49]⟩⟩ : Pair)]⟩ : Msg)).2.1).why), .slice none 0 0, .slice none 0 0] 64, osl kRec (.slice A39 rs35.length c40) rs35, osl kRec (.slice A28 rs23.length c29) rs23] [gl] := H
 have hl3 := congrArg List.length hf46
 rw [List.length_map, hR2] at hl3
 rw [← hR3] at hk3
 have hB3a := hk3.mono (show 99000 ≤ 99999 by omega)
 have hB3b := hk3.mono (show 99000 ≤ 100000 by omega)
 obtain ⟨A50, c51, rfl, hc52, hm53, hp54⟩ := H.fA 0 rfl
 have hn3 := hl3.trans hall.2.2.2.1
 have hm3 := hall.2.2.2.2.1
 have hs3 := hall.2.2.2.2.2
 rw [← hR3] at hm3 hs3 hout
 refine s_1 rfl (s_nil (q_then (c_seq (c_reg (s_1 rfl ?_)))))
 replace H := H.p1
 obtain ⟨hv55, vs56, us57, hsets58, H⟩ := redI_open r5 vS6 vM7 vC8 vR9 vK10 J11 ((small21 u4).w) ((small21 u4).t) ((small21 u4).o) sb13 R48 H
 replace H : Hd _ _ _ [blk r5 (redC vS6 vM7 vC8 vR9 vK10 J11 ((small21 u4).w) ((small21 u4).t) ((small21 u4).o) R48.part R48.ep R48.g hv55 sb13 vs56) 185, osl (kHd kPair) vS6 J11.us, osl kIns vM7 J11.map, osl kIns vC8 J11.comb, osl kIns vR9 J11.red, osl (kInt .i64) vK10 J11.marks, prsS (R48.g) hv55, osl (kHd (kInt .i64)) vs56 us57, stgI 253 sb13 (R48.st), osl kRec (.slice A50 rs45.length c51) rs45, blk b44 [.int .i64 (((pushR J11 R26 (⟨2, 0, 1, 0, 0, 0, 0, 0, [], [(⟨⟨#[98]⟩, ⟨#[49]⟩⟩ : Pair)]⟩ : Msg)).2.1).kind), .int .i64 (((pushR J11 R26 (⟨2, 0, 1, 0, 0, 0, 0, 0, [], [(⟨⟨#[98]⟩, ⟨#[49]⟩⟩ : Pair)]⟩ : Msg)).2.1).sp), .int .i64 (((pushR J11 R26 (⟨2, 0, 1, 0, 0, 0, 0, 0, [], [(⟨⟨#[98]⟩, ⟨#[49]⟩⟩ : Pair)]⟩ : Msg)).2.1).att), .int .i64 (((pushR J11 R26 (⟨2, 0, 1, 0, 0, 0, 0, 0, [], [(⟨⟨#[98]⟩, ⟨#[49]⟩⟩ : Pair)]⟩ : Msg)).2.1).part), .int .i64 (((pushR J11 R26 (⟨2, 0, 1, 0, 0, 0, 0, 0, [], [(⟨⟨#[98]⟩, ⟨#[49]⟩⟩ : Pair)]⟩ : Msg)).2.1).seq), .int .i64 (((pushR J11 R26 (⟨2, 0, 1, 0, 0, 0, 0, 0, [], [(⟨⟨#[98]⟩, ⟨#[49]⟩⟩ : Pair)]⟩ : Msg)).2.1).next), .int .i64 (((pushR J11 R26 (⟨2, 0, 1, 0, 0, 0, 0, 0, [], [(⟨⟨#[98]⟩, ⟨#[49]⟩⟩ : Pair)]⟩ : Msg)).2.1).ep), .int .i64 (((pushR J11 R26 (⟨2, 0, 1, 0, 0, 0, 0, 0, [], [(⟨⟨#[98]⟩, ⟨#[49]⟩⟩ : Pair)]⟩ : Msg)).2.1).why), .slice none 0 0, .slice none 0 0] 64, osl kRec (.slice A39 rs35.length c40) rs35, osl kRec (.slice A28 rs23.length c29) rs23] [gl] := H
 obtain ⟨A59, c60, rfl, hc61, hm62, hp63⟩ := H.fA 1 rfl
 refine sc (output_ok r5 A59 c60 vM7 vC8 vR9 vK10 J11 ((small21 u4).w) ((small21 u4).t) ((small21 u4).o) R48.part R48.ep R48 hv55 sb13 vs56 (by first | assumption | omega | exact small21_may _ | exact ⟨small21_home _, by decide⟩ | exact OkR.pairs (by assumption) | (unfold In64; omega) | exact (fun r h => by cases h) | decide | (simp only [List.length_nil]; omega) | exact in64_first) (by first | assumption | omega | exact small21_may _ | exact ⟨small21_home _, by decide⟩ | exact OkR.pairs (by assumption) | (unfold In64; omega) | exact (fun r h => by cases h) | decide | (simp only [List.length_nil]; omega) | exact in64_first) (by first | assumption | omega | exact small21_may _ | exact ⟨small21_home _, by decide⟩ | exact OkR.pairs (by assumption) | (unfold In64; omega) | exact (fun r h => by cases h) | decide | (simp only [List.length_nil]; omega) | exact in64_first) (by first | assumption | omega | exact small21_may _ | exact ⟨small21_home _, by decide⟩ | exact OkR.pairs (by assumption) | (unfold In64; omega) | exact (fun r h => by cases h) | decide | (simp only [List.length_nil]; omega) | exact in64_first)) H (lA 0 rfl (fun _ h => h) (lA 6 rfl (fun _ h => h) (lA 4 rfl own_rd (lR 0 rfl l0)))) rfl rfl (e_fn kn60 rfl rfl) ?_
 rintro _ _ w ⟨u64, rfl, rfl⟩ H
 replace H := H.h1 (A := osl kPair u64 ((outR dg J11 R48).1)) |>.p9 |>.p9 |>.p9 |>.p9 |>.p9 |>.p9 |>.p9 |>.p9 |>.p9
 replace H := redI_shut r5 (.slice A59 J11.us.length c60) vM7 vC8 vR9 vK10 J11 ((small21 u4).w) ((small21 u4).t) ((small21 u4).o) sb13 R48 hv55 vs56 us57 hsets58 H
 replace H := H.h1 (A := redI r5 (.slice A59 J11.us.length c60) vM7 vC8 vR9 vK10 J11 ((small21 u4).w) ((small21 u4).t) ((small21 u4).o) sb13 R48)
 refine s_k 7 rfl (s_nil (q_then (c_seq (c_reg (s_1 rfl (s_val rfl rfl (r_lenL rfl un29 rfl) (s_val rfl rfl (r_eq rfl rfl rfl) (s_1 rfl ?_))))))))
 refine s_dec (d := 42) rfl (fun h65 => ?_) (fun h65 => ?_)
 ·refine s_val rfl rfl (r_fa rfl fo64_5 rfl) (s_val rfl rfl (r_ld rfl ty3 rfl (H.cellI 3 rfl rfl)) (s_val rfl rfl (r_eq rfl rfl rfl) (s_k 2 rfl ?_)))
  refine s_dec (d := 47) rfl (fun h66 => ?_) (fun h66 => ?_)
  ·refine s_1 rfl (s_val rfl rfl (r_lenL rfl un29 rfl) (s_val rfl rfl (r_eq rfl rfl rfl) (s_k 2 rfl ?_)))
   refine s_dec (d := 52) rfl (fun h67 => ?_) (fun h67 => ?_)
   ·refine s_1 rfl (s_val rfl rfl (r_lenL rfl un29 rfl) (s_val rfl rfl (r_eq rfl rfl rfl) (s_k 2 rfl ?_)))
    refine s_dec (d := 57) rfl (fun h68 => ?_) (fun h68 => ?_)
    ·refine s_1 rfl (s_val rfl rfl (r_bd (parts := [(0, .const (.string ⟨#[98]⟩)), (1, .const (.string ⟨#[49]⟩))]) (vs := [.string ⟨#[98]⟩, .string ⟨#[49]⟩]) (cs := [.string ⟨#[98]⟩, .string ⟨#[49]⟩]) rfl bd106 rfl rfl) (s_bsl (parts := [(0, .tmp 59)]) (vs := [.agg #[.string ⟨#[98]⟩, .string ⟨#[49]⟩]]) (cs := [.string ⟨#[98]⟩, .string ⟨#[49]⟩]) rfl rfl rfl sl35 zr106 rfl (by decide) (by decide) rfl rfl H (fun b69 w H => (sc (samePairs_ok u64 (.slice (some ⟨b69, 0, none⟩) 1 1) ((outR dg J11 R48).1) [(⟨⟨#[98]⟩, ⟨#[49]⟩⟩ : Pair)]) H (lA 2 rfl own_rd (lA 0 rfl (fun F h => blk_rsl h rfl (by decide) (RepsR.flat_eq.2 rfl)) l0)) rfl rfl (e_fn kn25 rfl rfl) ?_))))
     rintro _ _ w ⟨rfl, rfl⟩ H
     refine s_k 2 rfl ?_
     refine s_dec (d := 63) rfl (fun h70 => ?_) (fun h70 => ?_)
     ·refine s_k 3 rfl ?_
      refine s_boo (d := 66) (b := (outR dg J11 R48).2.2) rfl (fun h71 => ?_) (fun h71 => ?_)
      ·refine s_1 rfl ?_
       replace H := H.p1
       replace H : Hd _ _ _ [redI r5 (.slice A59 J11.us.length c60) vM7 vC8 vR9 vK10 J11 ((small21 u4).w) ((small21 u4).t) ((small21 u4).o) sb13 R48, blk b69 [.string ⟨#[98]⟩, .string ⟨#[49]⟩] 106, osl kPair u64 ((outR dg J11 R48).1), osl kRec (.slice A50 rs45.length c51) rs45, blk b44 [.int .i64 (((pushR J11 R26 (⟨2, 0, 1, 0, 0, 0, 0, 0, [], [(⟨⟨#[98]⟩, ⟨#[49]⟩⟩ : Pair)]⟩ : Msg)).2.1).kind), .int .i64 (((pushR J11 R26 (⟨2, 0, 1, 0, 0, 0, 0, 0, [], [(⟨⟨#[98]⟩, ⟨#[49]⟩⟩ : Pair)]⟩ : Msg)).2.1).sp), .int .i64 (((pushR J11 R26 (⟨2, 0, 1, 0, 0, 0, 0, 0, [], [(⟨⟨#[98]⟩, ⟨#[49]⟩⟩ : Pair)]⟩ : Msg)).2.1).att), .int .i64 (((pushR J11 R26 (⟨2, 0, 1, 0, 0, 0, 0, 0, [], [(⟨⟨#[98]⟩, ⟨#[49]⟩⟩ : Pair)]⟩ : Msg)).2.1).part), .int .i64 (((pushR J11 R26 (⟨2, 0, 1, 0, 0, 0, 0, 0, [], [(⟨⟨#[98]⟩, ⟨#[49]⟩⟩ : Pair)]⟩ : Msg)).2.1).seq), .int .i64 (((pushR J11 R26 (⟨2, 0, 1, 0, 0, 0, 0, 0, [], [(⟨⟨#[98]⟩, ⟨#[49]⟩⟩ : Pair)]⟩ : Msg)).2.1).next), .int .i64 (((pushR J11 R26 (⟨2, 0, 1, 0, 0, 0, 0, 0, [], [(⟨⟨#[98]⟩, ⟨#[49]⟩⟩ : Pair)]⟩ : Msg)).2.1).ep), .int .i64 (((pushR J11 R26 (⟨2, 0, 1, 0, 0, 0, 0, 0, [], [(⟨⟨#[98]⟩, ⟨#[49]⟩⟩ : Pair)]⟩ : Msg)).2.1).why), .slice none 0 0, .slice none 0 0] 64, osl kRec (.slice A39 rs35.length c40) rs35, osl kRec (.slice A28 rs23.length c29) rs23] [gl] := H
       obtain ⟨hv72, vs73, us74, hsets75, H⟩ := redI_open r5 (.slice A59 J11.us.length c60) vM7 vC8 vR9 vK10 J11 ((small21 u4).w) ((small21 u4).t) ((small21 u4).o) sb13 R48 H
       replace H : Hd _ _ _ [blk r5 (redC (.slice A59 J11.us.length c60) vM7 vC8 vR9 vK10 J11 ((small21 u4).w) ((small21 u4).t) ((small21 u4).o) R48.part R48.ep R48.g hv72 sb13 vs73) 185, osl (kHd kPair) (.slice A59 J11.us.length c60) J11.us, osl kIns vM7 J11.map, osl kIns vC8 J11.comb, osl kIns vR9 J11.red, osl (kInt .i64) vK10 J11.marks, prsS (R48.g) hv72, osl (kHd (kInt .i64)) vs73 us74, stgI 253 sb13 (R48.st), blk b69 [.string ⟨#[98]⟩, .string ⟨#[49]⟩] 106, osl kPair u64 ((outR dg J11 R48).1), osl kRec (.slice A50 rs45.length c51) rs45, blk b44 [.int .i64 (((pushR J11 R26 (⟨2, 0, 1, 0, 0, 0, 0, 0, [], [(⟨⟨#[98]⟩, ⟨#[49]⟩⟩ : Pair)]⟩ : Msg)).2.1).kind), .int .i64 (((pushR J11 R26 (⟨2, 0, 1, 0, 0, 0, 0, 0, [], [(⟨⟨#[98]⟩, ⟨#[49]⟩⟩ : Pair)]⟩ : Msg)).2.1).sp), .int .i64 (((pushR J11 R26 (⟨2, 0, 1, 0, 0, 0, 0, 0, [], [(⟨⟨#[98]⟩, ⟨#[49]⟩⟩ : Pair)]⟩ : Msg)).2.1).att), .int .i64 (((pushR J11 R26 (⟨2, 0, 1, 0, 0, 0, 0, 0, [], [(⟨⟨#[98]⟩, ⟨#[49]⟩⟩ : Pair)]⟩ : Msg)).2.1).part), .int .i64 (((pushR J11 R26 (⟨2, 0, 1, 0, 0, 0, 0, 0, [], [(⟨⟨#[98]⟩, ⟨#[49]⟩⟩ : Pair)]⟩ : Msg)).2.1).seq), .int .i64 (((pushR J11 R26 (⟨2, 0, 1, 0, 0, 0, 0, 0, [], [(⟨⟨#[98]⟩, ⟨#[49]⟩⟩ : Pair)]⟩ : Msg)).2.1).next), .int .i64 (((pushR J11 R26 (⟨2, 0, 1, 0, 0, 0, 0, 0, [], [(⟨⟨#[98]⟩, ⟨#[49]⟩⟩ : Pair)]⟩ : Msg)).2.1).ep), .int .i64 (((pushR J11 R26 (⟨2, 0, 1, 0, 0, 0, 0, 0, [], [(⟨⟨#[98]⟩, ⟨#[49]⟩⟩ : Pair)]⟩ : Msg)).2.1).why), .slice none 0 0, .slice none 0 0] 64, osl kRec (.slice A39 rs35.length c40) rs35, osl kRec (.slice A28 rs23.length c29) rs23] [gl] := H
       refine sc (merged_ok r5 A59 c60 vM7 vC8 vR9 vK10 J11 ((small21 u4).w) ((small21 u4).t) ((small21 u4).o) R48.part R48.ep R48 hv72 sb13 vs73 (by first | assumption | omega | exact small21_may _ | exact ⟨small21_home _, by decide⟩ | exact OkR.pairs (by assumption) | (unfold In64; omega) | exact (fun r h => by cases h) | decide | (simp only [List.length_nil]; omega) | exact in64_first)) H (lA 0 rfl (fun _ h => h) l0) rfl rfl (e_fn kn51 rfl rfl) ?_
       rintro v76 _ w rfl H
       replace H := H.h1 (A := osl (kInt .i64) v76 (mergedL J11.us.length R48)) |>.p9 |>.p9 |>.p9 |>.p9 |>.p9 |>.p9 |>.p9 |>.p9 |>.p9
       replace H := redI_shut r5 (.slice A59 J11.us.length c60) vM7 vC8 vR9 vK10 J11 ((small21 u4).w) ((small21 u4).t) ((small21 u4).o) sb13 R48 hv72 vs73 us74 hsets75 H
       replace H := H.h1 (A := redI r5 (.slice A59 J11.us.length c60) vM7 vC8 vR9 vK10 J11 ((small21 u4).w) ((small21 u4).t) ((small21 u4).o) sb13 R48)
       refine s_bsl (parts := [(0, .const (.int .i64 0)), (1, .const (.int .i64 1))]) (vs := [.int .i64 0, .int .i64 1]) (cs := [.int .i64 0, .int .i64 1]) rfl rfl rfl sl24 zr3 rfl (by decide) (by decide) rfl rfl H (fun b77 w H => (sc (sameInts_ok v76 (.slice (some ⟨b77, 0, none⟩) 2 2) (mergedL J11.us.length R48) [0, 1]) H (lA 2 rfl own_rd (lA 0 rfl (fun F h => blk_rsl h rfl (by decide) (RepsR.flat_eq.2 rfl)) l0)) rfl rfl (e_fn kn33 rfl rfl) ?_))
       rintro _ _ w ⟨rfl, rfl⟩ H
       refine s_k 2 rfl ?_
       refine s_dec (d := 72) rfl (fun h78 => ?_) (fun h78 => ?_)
       ·refine s_1 rfl ?_
        replace H := H.p1
        replace H : Hd _ _ _ [redI r5 (.slice A59 J11.us.length c60) vM7 vC8 vR9 vK10 J11 ((small21 u4).w) ((small21 u4).t) ((small21 u4).o) sb13 R48, blk b77 [.int .i64 0, .int .i64 1] 3, osl (kInt .i64) v76 (mergedL J11.us.length R48), blk b69 [.string ⟨#[98]⟩, .string ⟨#[49]⟩] 106, osl kPair u64 ((outR dg J11 R48).1), osl kRec (.slice A50 rs45.length c51) rs45, blk b44 [.int .i64 (((pushR J11 R26 (⟨2, 0, 1, 0, 0, 0, 0, 0, [], [(⟨⟨#[98]⟩, ⟨#[49]⟩⟩ : Pair)]⟩ : Msg)).2.1).kind), .int .i64 (((pushR J11 R26 (⟨2, 0, 1, 0, 0, 0, 0, 0, [], [(⟨⟨#[98]⟩, ⟨#[49]⟩⟩ : Pair)]⟩ : Msg)).2.1).sp), .int .i64 (((pushR J11 R26 (⟨2, 0, 1, 0, 0, 0, 0, 0, [], [(⟨⟨#[98]⟩, ⟨#[49]⟩⟩ : Pair)]⟩ : Msg)).2.1).att), .int .i64 (((pushR J11 R26 (⟨2, 0, 1, 0, 0, 0, 0, 0, [], [(⟨⟨#[98]⟩, ⟨#[49]⟩⟩ : Pair)]⟩ : Msg)).2.1).part), .int .i64 (((pushR J11 R26 (⟨2, 0, 1, 0, 0, 0, 0, 0, [], [(⟨⟨#[98]⟩, ⟨#[49]⟩⟩ : Pair)]⟩ : Msg)).2.1).seq), .int .i64 (((pushR J11 R26 (⟨2, 0, 1, 0, 0, 0, 0, 0, [], [(⟨⟨#[98]⟩, ⟨#[49]⟩⟩ : Pair)]⟩ : Msg)).2.1).next), .int .i64 (((pushR J11 R26 (⟨2, 0, 1, 0, 0, 0, 0, 0, [], [(⟨⟨#[98]⟩, ⟨#[49]⟩⟩ : Pair)]⟩ : Msg)).2.1).ep), .int .i64 (((pushR J11 R26 (⟨2, 0, 1, 0, 0, 0, 0, 0, [], [(⟨⟨#[98]⟩, ⟨#[49]⟩⟩ : Pair)]⟩ : Msg)).2.1).why), .slice none 0 0, .slice none 0 0] 64, osl kRec (.slice A39 rs35.length c40) rs35, osl kRec (.slice A28 rs23.length c29) rs23] [gl] := H
        obtain ⟨hv79, vs80, us81, hsets82, H⟩ := redI_open r5 (.slice A59 J11.us.length c60) vM7 vC8 vR9 vK10 J11 ((small21 u4).w) ((small21 u4).t) ((small21 u4).o) sb13 R48 H
        replace H : Hd _ _ _ [blk r5 (redC (.slice A59 J11.us.length c60) vM7 vC8 vR9 vK10 J11 ((small21 u4).w) ((small21 u4).t) ((small21 u4).o) R48.part R48.ep R48.g hv79 sb13 vs80) 185, osl (kHd kPair) (.slice A59 J11.us.length c60) J11.us, osl kIns vM7 J11.map, osl kIns vC8 J11.comb, osl kIns vR9 J11.red, osl (kInt .i64) vK10 J11.marks, prsS (R48.g) hv79, osl (kHd (kInt .i64)) vs80 us81, stgI 253 sb13 (R48.st), blk b77 [.int .i64 0, .int .i64 1] 3, osl (kInt .i64) v76 (mergedL J11.us.length R48), blk b69 [.string ⟨#[98]⟩, .string ⟨#[49]⟩] 106, osl kPair u64 ((outR dg J11 R48).1), osl kRec (.slice A50 rs45.length c51) rs45, blk b44 [.int .i64 (((pushR J11 R26 (⟨2, 0, 1, 0, 0, 0, 0, 0, [], [(⟨⟨#[98]⟩, ⟨#[49]⟩⟩ : Pair)]⟩ : Msg)).2.1).kind), .int .i64 (((pushR J11 R26 (⟨2, 0, 1, 0, 0, 0, 0, 0, [], [(⟨⟨#[98]⟩, ⟨#[49]⟩⟩ : Pair)]⟩ : Msg)).2.1).sp), .int .i64 (((pushR J11 R26 (⟨2, 0, 1, 0, 0, 0, 0, 0, [], [(⟨⟨#[98]⟩, ⟨#[49]⟩⟩ : Pair)]⟩ : Msg)).2.1).att), .int .i64 (((pushR J11 R26 (⟨2, 0, 1, 0, 0, 0, 0, 0, [], [(⟨⟨#[98]⟩, ⟨#[49]⟩⟩ : Pair)]⟩ : Msg)).2.1).part), .int .i64 (((pushR J11 R26 (⟨2, 0, 1, 0, 0, 0, 0, 0, [], [(⟨⟨#[98]⟩, ⟨#[49]⟩⟩ : Pair)]⟩ : Msg)).2.1).seq), .int .i64 (((pushR J11 R26 (⟨2, 0, 1, 0, 0, 0, 0, 0, [], [(⟨⟨#[98]⟩, ⟨#[49]⟩⟩ : Pair)]⟩ : Msg)).2.1).next), .int .i64 (((pushR J11 R26 (⟨2, 0, 1, 0, 0, 0, 0, 0, [], [(⟨⟨#[98]⟩, ⟨#[49]⟩⟩ : Pair)]⟩ : Msg)).2.1).ep), .int .i64 (((pushR J11 R26 (⟨2, 0, 1, 0, 0, 0, 0, 0, [], [(⟨⟨#[98]⟩, ⟨#[49]⟩⟩ : Pair)]⟩ : Msg)).2.1).why), .slice none 0 0, .slice none 0 0] 64, osl kRec (.slice A39 rs35.length c40) rs35, osl kRec (.slice A28 rs23.length c29) rs23] [gl] := H
        have hul_us81 := us_len hsets82 (show OkR _ R48 by assumption) (by omega)
        have hsl_us81 := us_small hsets82 (show OkR _ R48 by assumption)
        refine sc (snaps_ok r5 A59 c60 vM7 vC8 vR9 vK10 J11 ((small21 u4).w) ((small21 u4).t) ((small21 u4).o) R48.part R48.ep R48 hv79 sb13 vs80 us81 (by first | assumption | omega | exact small21_may _ | exact ⟨small21_home _, by decide⟩ | exact OkR.pairs (by assumption) | (unfold In64; omega) | exact (fun r h => by cases h) | decide | (simp only [List.length_nil]; omega) | exact in64_first) (by first | assumption | omega | exact small21_may _ | exact ⟨small21_home _, by decide⟩ | exact OkR.pairs (by assumption) | (unfold In64; omega) | exact (fun r h => by cases h) | decide | (simp only [List.length_nil]; omega) | exact in64_first) (by first | assumption | omega | exact small21_may _ | exact ⟨small21_home _, by decide⟩ | exact OkR.pairs (by assumption) | (unfold In64; omega) | exact (fun r h => by cases h) | decide | (simp only [List.length_nil]; omega) | exact in64_first) (by first | assumption | omega | exact small21_may _ | exact ⟨small21_home _, by decide⟩ | exact OkR.pairs (by assumption) | (unfold In64; omega) | exact (fun r h => by cases h) | decide | (simp only [List.length_nil]; omega) | exact in64_first) (by first | assumption | omega | exact small21_may _ | exact ⟨small21_home _, by decide⟩ | exact OkR.pairs (by assumption) | (unfold In64; omega) | exact (fun r h => by cases h) | decide | (simp only [List.length_nil]; omega) | exact in64_first) (by first | assumption | omega | exact small21_may _ | exact ⟨small21_home _, by decide⟩ | exact OkR.pairs (by assumption) | (unfold In64; omega) | exact (fun r h => by cases h) | decide | (simp only [List.length_nil]; omega) | exact in64_first) (by first | assumption | omega | exact small21_may _ | exact ⟨small21_home _, by decide⟩ | exact OkR.pairs (by assumption) | (unfold In64; omega) | exact (fun r h => by cases h) | decide | (simp only [List.length_nil]; omega) | exact in64_first)) H (lA 0 rfl (fun _ h => h) (lA 6 rfl (fun _ h => h) (lA 4 rfl own_rd (lA 7 rfl own_rd (lR 0 rfl l0))))) rfl rfl (e_fn kn59 rfl rfl) ?_
        rintro v85 _ w ⟨zs83, rfl, hf84⟩ H
        have hsl := congrArg List.length hf84
        rw [List.length_map] at hsl
        have hsl2 : (snapsR dg J11 R48).length = 1 := by unfold snapsR; rw [List.length_map]; exact hs3
        obtain ⟨A86, c87, rfl, hc88, hm89, hp90⟩ := H.fA 0 rfl
        replace H : Hd _ _ _ [osl kSnap (.slice A86 zs83.length c87) zs83, blk r5 (redC (.slice A59 J11.us.length c60) vM7 vC8 vR9 vK10 J11 ((small21 u4).w) ((small21 u4).t) ((small21 u4).o) R48.part R48.ep R48.g hv79 sb13 vs80) 185, osl (kHd kPair) (.slice A59 J11.us.length c60) J11.us, osl kIns vM7 J11.map, osl kIns vC8 J11.comb, osl kIns vR9 J11.red, osl (kInt .i64) vK10 J11.marks, prsS (R48.g) hv79, osl (kHd (kInt .i64)) vs80 us81, stgI 253 sb13 (R48.st), blk b77 [.int .i64 0, .int .i64 1] 3, osl (kInt .i64) v76 (mergedL J11.us.length R48), blk b69 [.string ⟨#[98]⟩, .string ⟨#[49]⟩] 106, osl kPair u64 ((outR dg J11 R48).1), osl kRec (.slice A50 rs45.length c51) rs45, blk b44 [.int .i64 (((pushR J11 R26 (⟨2, 0, 1, 0, 0, 0, 0, 0, [], [(⟨⟨#[98]⟩, ⟨#[49]⟩⟩ : Pair)]⟩ : Msg)).2.1).kind), .int .i64 (((pushR J11 R26 (⟨2, 0, 1, 0, 0, 0, 0, 0, [], [(⟨⟨#[98]⟩, ⟨#[49]⟩⟩ : Pair)]⟩ : Msg)).2.1).sp), .int .i64 (((pushR J11 R26 (⟨2, 0, 1, 0, 0, 0, 0, 0, [], [(⟨⟨#[98]⟩, ⟨#[49]⟩⟩ : Pair)]⟩ : Msg)).2.1).att), .int .i64 (((pushR J11 R26 (⟨2, 0, 1, 0, 0, 0, 0, 0, [], [(⟨⟨#[98]⟩, ⟨#[49]⟩⟩ : Pair)]⟩ : Msg)).2.1).part), .int .i64 (((pushR J11 R26 (⟨2, 0, 1, 0, 0, 0, 0, 0, [], [(⟨⟨#[98]⟩, ⟨#[49]⟩⟩ : Pair)]⟩ : Msg)).2.1).seq), .int .i64 (((pushR J11 R26 (⟨2, 0, 1, 0, 0, 0, 0, 0, [], [(⟨⟨#[98]⟩, ⟨#[49]⟩⟩ : Pair)]⟩ : Msg)).2.1).next), .int .i64 (((pushR J11 R26 (⟨2, 0, 1, 0, 0, 0, 0, 0, [], [(⟨⟨#[98]⟩, ⟨#[49]⟩⟩ : Pair)]⟩ : Msg)).2.1).ep), .int .i64 (((pushR J11 R26 (⟨2, 0, 1, 0, 0, 0, 0, 0, [], [(⟨⟨#[98]⟩, ⟨#[49]⟩⟩ : Pair)]⟩ : Msg)).2.1).why), .slice none 0 0, .slice none 0 0] 64, osl kRec (.slice A39 rs35.length c40) rs35, osl kRec (.slice A28 rs23.length c29) rs23] [gl] := H
        replace H := H.p9.p9.p9.p9.p9.p9.p9.p9.p9
        replace H := redI_shut r5 (.slice A59 J11.us.length c60) vM7 vC8 vR9 vK10 J11 ((small21 u4).w) ((small21 u4).t) ((small21 u4).o) sb13 R48 hv79 vs80 us81 hsets82 H
        replace H := H.h1 (A := redI r5 (.slice A59 J11.us.length c60) vM7 vC8 vR9 vK10 J11 ((small21 u4).w) ((small21 u4).t) ((small21 u4).o) sb13 R48)
        refine s_val rfl rfl (r_lenL rfl un94 rfl) (s_val rfl rfl (r_eq rfl rfl rfl) (s_k 2 rfl (s_nil (q_then ?_))))
        replace H := H.p1.k1
        refine c_ret (q_ret1 rfl rfl ?_)
        replace H := H.nil
        exact fin ⟨congrArg Value.bool (decide_eq_true (by omega)), rfl⟩ H
       ·exact (h78 hm3).elim
      ·exact absurd hout.2 (by rw [h71]; decide)
     ·exact (h70 hout.1).elim
    ·exact (h68 (by omega)).elim
   ·exact (h67 (by omega)).elim
  ·exact (h66 (by rw [hR1]; exact hall.2.1)).elim
 ·exact (h65 (by omega)).elim
end Go.Proofs.YthgehekecfpikaaGreatDoor.X

