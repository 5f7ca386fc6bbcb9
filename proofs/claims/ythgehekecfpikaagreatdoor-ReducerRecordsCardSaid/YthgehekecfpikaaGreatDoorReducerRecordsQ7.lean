/- ReducerRecords: texts L5, L7, G1, joined by a program of ours; what nothing names is left out. -/
import Derived.Test.YthgehekecfpikaaGreatDoorReducerRecordsQ6
import Derived.Test.YthgehekecfpikaaGreatDoorRows
import Derived.LaidSub
import Derived.Lib.LaidTab
import Derived.Stop.LaidErr
set_option linter.unusedVariables false
set_option linter.unusedSimpArgs false
namespace Go.Proofs.YthgehekecfpikaaGreatDoor.X
open Go
set_option maxHeartbeats 4000000 in
theorem great21_ok (vS : Value) (vM : Value) (vC : Value) (vR : Value) (vK : Value) (C : Cf) (vr : Value) (recs : List Rec) (va : Value) (acts : List (Two A21H)) (most : Int) :
    Cn Tryz.prog 46 [.agg #[vS, .int .i64 C.J.parts, vM, vC, vR, .int .i64 C.J.chunk, .int .i64 C.J.window, .int .i64 C.J.fuel, vK, .int .i64 C.w, .int .i64 C.t, .int .i64 C.o], vr, va, .int .i64 most] [] [rsl (kHd kPair) vS C.J.us, rsl kIns vM C.J.map, rsl kIns vC C.J.comb, rsl kIns vR C.J.red, rsl (kInt .i64) vK C.J.marks, rsl kRec vr recs, rsl kA21 va acts] (fun v Bs => v = .bool (greatA C.J recs acts most) ∧ Bs = []) := by
 intro w0 F0 H
 obtain ⟨A1, c2, rfl, hc3, hm4, hp5⟩ := H.fR 0 rfl
 obtain ⟨A6, c7, rfl, hc8, hm9, hp10⟩ := H.fR 1 rfl
 obtain ⟨A11, c12, rfl, hc13, hm14, hp15⟩ := H.fR 2 rfl
 obtain ⟨A16, c17, rfl, hc18, hm19, hp20⟩ := H.fR 3 rfl
 obtain ⟨A21, c22, rfl, hc23, hm24, hp25⟩ := H.fR 4 rfl
 obtain ⟨A26, c27, rfl, hc28, hm29, hp30⟩ := H.fR 5 rfl
 obtain ⟨A31, c32, rfl, hc33, hm34, hp35⟩ := H.fR 6 rfl
 refine enter Tryz.func46 rfl rfl (Nat.le_of_ble_eq_true rfl) (c_seq (c_reg (s_box rfl rfl rfl rfl H (fun b36 w H => (s_1 rfl (s_nil (q_then ?_)))))))
 replace H : Hd _ _ _ [blk b36 [.slice A1 C.J.us.length c2, .int .i64 C.J.parts, .slice A6 C.J.map.length c7, .slice A11 C.J.comb.length c12, .slice A16 C.J.red.length c17, .int .i64 C.J.chunk, .int .i64 C.J.window, .int .i64 C.J.fuel, .slice A21 C.J.marks.length c22, .int .i64 C.w, .int .i64 C.t, .int .i64 C.o] 28] [rsl (kHd kPair) (.slice A1 C.J.us.length c2) C.J.us, rsl kIns (.slice A6 C.J.map.length c7) C.J.map, rsl kIns (.slice A11 C.J.comb.length c12) C.J.comb, rsl kIns (.slice A16 C.J.red.length c17) C.J.red, rsl (kInt .i64) (.slice A21 C.J.marks.length c22) C.J.marks, rsl kRec (.slice A26 recs.length c27) recs, rsl kA21 (.slice A31 acts.length c32) acts] := H
 refine c_seq (c_seq (c_reg (s_1 rfl (s_nil (q_then (c_block (c_loop (σ := Nat) (fun k => [(1, .slice A26 recs.length c27), (2, .slice A31 acts.length c32), (3, .int .i64 most), (4, .pointer (some ⟨b36, 0, none⟩)), (9, .int .i64 ((k : Nat) : Int))]) (fun k w => (Hd w0 F0 w [blk b36 [.slice A1 C.J.us.length c2, .int .i64 C.J.parts, .slice A6 C.J.map.length c7, .slice A11 C.J.comb.length c12, .slice A16 C.J.red.length c17, .int .i64 C.J.chunk, .int .i64 C.J.window, .int .i64 C.J.fuel, .slice A21 C.J.marks.length c22, .int .i64 C.w, .int .i64 C.t, .int .i64 C.o] 28] [rsl (kHd kPair) (.slice A1 C.J.us.length c2) C.J.us, rsl kIns (.slice A6 C.J.map.length c7) C.J.map, rsl kIns (.slice A11 C.J.comb.length c12) C.J.comb, rsl kIns (.slice A16 C.J.red.length c17) C.J.red, rsl (kInt .i64) (.slice A21 C.J.marks.length c22) C.J.marks, rsl kRec (.slice A26 recs.length c27) recs, rsl kA21 (.slice A31 acts.length c32) acts]) ∧ (k ≤ acts.length) ∧ (∀ a ∈ acts.take k, greatM a = false)) (fun k => acts.length - k) 0 ⟨rfl, rfl, rfl, rfl, rfl, trivial⟩ ⟨H, Nat.zero_le _, by simp⟩ ?_)))))))
 rintro k w ⟨H, hk, hn⟩
 refine c_seq (c_seq (c_reg (s_k 2 rfl (s_val rfl rfl (r_lenL rfl un73 rfl) (s_val rfl rfl (r_lt rfl rfl rfl) (s_1 rfl ?_))))))
 refine s_dec (d := 14) rfl (fun h37 => ?_) (fun h37 => ?_)
 ·refine s_1 rfl (s_val rfl rfl (r_lenL rfl un73 rfl) (s_1 rfl (s_val rfl rfl (r_le rfl rfl rfl) (s_1 rfl (s_nil (q_then ?_))))))
  refine c_dec rfl (fun h38 => ?_) (fun h38 => ?_)
  ·refine c_skip (q_then (c_seq (c_block (c_seq (c_reg (s_k 2 rfl ?_))))))
   obtain ⟨⟨⟨a41, ⟨a42, a43, a44, a45, a46, a47, a48, a49⟩, a50⟩, sv51, se52, pv53, pr54⟩, hx40⟩ : ∃ z9, acts[k]? = some z9 := ⟨_, List.getElem?_eq_getElem (show k < acts.length by omega)⟩
   obtain ⟨A55, c56, A57, c58, rfl, rfl, m59, m60, m61, m62⟩ := H.nestRt 6 rfl hx40
   have th63 := H.thRt 6 rfl hx40
   refine s_val rfl rfl (r_iaE (p := oOf A31 + k * 12) rfl sl73 rfl rfl (by omega) (by omega) th63 rfl) (s_val rfl rfl (r_fa rfl fo79_1 rfl) (s_val rfl rfl (r_ldA (cs := [.int .i64 a42, .int .i64 a43, .int .i64 a44, .int .i64 a45, .int .i64 a46, .int .i64 a47, .int .i64 a48, .int .i64 a49, .slice A55 se52.length c56, .slice A57 pr54.length c58]) rfl ty64 rfl rfl (H.elsRt 6 rfl hx40 1 10 rfl rfl)) (sc (greatMsg_ok (⟨a42, a43, a44, a45, a46, a47, a48, a49⟩ : MesH) (.slice A55 se52.length c56) se52 (.slice A57 pr54.length c58) pr54) H (lX (fun F hA hR => tw_set (hR _ (List.mem_of_getElem? (i := 6) rfl)) hx40) (lX (fun F hA hR => tw_pairs (hR _ (List.mem_of_getElem? (i := 6) rfl)) hx40) l0)) rfl rfl (e_fn kn62 rfl rfl) ?_)))
   rintro _ _ w ⟨rfl, rfl⟩ H
   refine s_nil (q_then ?_)
   replace H : Hd _ _ _ [blk b36 [.slice A1 C.J.us.length c2, .int .i64 C.J.parts, .slice A6 C.J.map.length c7, .slice A11 C.J.comb.length c12, .slice A16 C.J.red.length c17, .int .i64 C.J.chunk, .int .i64 C.J.window, .int .i64 C.J.fuel, .slice A21 C.J.marks.length c22, .int .i64 C.w, .int .i64 C.t, .int .i64 C.o] 28] [rsl (kHd kPair) (.slice A1 C.J.us.length c2) C.J.us, rsl kIns (.slice A6 C.J.map.length c7) C.J.map, rsl kIns (.slice A11 C.J.comb.length c12) C.J.comb, rsl kIns (.slice A16 C.J.red.length c17) C.J.red, rsl (kInt .i64) (.slice A21 C.J.marks.length c22) C.J.marks, rsl kRec (.slice A26 recs.length c27) recs, rsl kA21 (.slice A31 acts.length c32) acts] := H
   refine c_cond (b := greatSP se52 pr54) rfl (fun h64 => ?_) (fun h64 => ?_)
   ·refine c_seq (c_reg (s_1 rfl (s_nil (q_then (c_ret (q_blockR (q_thenR (q_thenR (q_blockR (q_thenR (q_ret1 rfl rfl ?_)))))))))))
    replace H := H.nil
    exact fin ⟨congrArg Value.bool (greatA_hit hx40 (by simpa [greatM] using h64)), rfl⟩ H
   ·exact c_skip (q_blockN (q_then (c_reg (s_1 rfl (s_val rfl rfl (r_add (z := ((k + 1 : Nat) : Int)) rfl rfl rfl (by rw [w64 (by omega) (by omega)]; omega)) (s_1 rfl (s_nil (q_round (s := k) (k + 1) ⟨rfl, rfl, rfl, rfl, rfl, trivial⟩ ⟨H, by (try dsimp only); omega, take_prop (Q := fun a => greatM a = false) hn hx40 (by simpa [greatM] using h64)⟩ (by (try dsimp only); omega)))))))))
  ·refine c_exit (q_thenE (q_thenE (q_blockE (q_then (c_seq (c_reg (s_val rfl rfl (r_fa rfl fo28_0 rfl) (s_val rfl rfl (r_ldA (cs := [.slice A1 C.J.us.length c2, .int .i64 C.J.parts, .slice A6 C.J.map.length c7, .slice A11 C.J.comb.length c12, .slice A16 C.J.red.length c17, .int .i64 C.J.chunk, .int .i64 C.J.window, .int .i64 C.J.fuel, .slice A21 C.J.marks.length c22]) rfl ty26 rfl rfl (H.cellsI 0 rfl rfl)) (sc (greatJob_ok (.slice A1 C.J.us.length c2) (.slice A6 C.J.map.length c7) (.slice A11 C.J.comb.length c12) (.slice A16 C.J.red.length c17) (.slice A21 C.J.marks.length c22) C.J) H (lR 0 rfl (lR 1 rfl (lR 2 rfl (lR 3 rfl (lR 4 rfl l0))))) rfl rfl (e_fn kn18 rfl rfl) ?_)))))))))
   rintro _ _ w ⟨rfl, rfl⟩ H
   refine s_1 rfl ?_
   refine s_boo (d := 31) (b := greatJ C.J) rfl (fun h65 => ?_) (fun h65 => ?_)
   ·refine s_k 10 rfl (s_nil (q_then ?_))
    replace H : Hd _ _ _ [blk b36 [.slice A1 C.J.us.length c2, .int .i64 C.J.parts, .slice A6 C.J.map.length c7, .slice A11 C.J.comb.length c12, .slice A16 C.J.red.length c17, .int .i64 C.J.chunk, .int .i64 C.J.window, .int .i64 C.J.fuel, .slice A21 C.J.marks.length c22, .int .i64 C.w, .int .i64 C.t, .int .i64 C.o] 28] [rsl (kHd kPair) (.slice A1 C.J.us.length c2) C.J.us, rsl kIns (.slice A6 C.J.map.length c7) C.J.map, rsl kIns (.slice A11 C.J.comb.length c12) C.J.comb, rsl kIns (.slice A16 C.J.red.length c17) C.J.red, rsl (kInt .i64) (.slice A21 C.J.marks.length c22) C.J.marks, rsl kRec (.slice A26 recs.length c27) recs, rsl kA21 (.slice A31 acts.length c32) acts] := H
    refine c_ret (q_ret1 rfl rfl ?_)
    replace H := H.nil
    exact fin ⟨congrArg Value.bool (greatA_of (.inl h65)), rfl⟩ H
   ·refine s_1 rfl (sc (greatRecords_ok (.slice A26 recs.length c27) recs 20) H (lR 5 rfl l0) rfl rfl (e_fn kn20 rfl rfl) ?_)
    rintro _ _ w ⟨rfl, rfl⟩ H
    refine s_k 2 rfl ?_
    refine s_boo (d := 35) (b := greatR recs 20) rfl (fun h66 => ?_) (fun h66 => ?_)
    ·refine s_k 6 rfl (s_nil (q_then ?_))
     replace H : Hd _ _ _ [blk b36 [.slice A1 C.J.us.length c2, .int .i64 C.J.parts, .slice A6 C.J.map.length c7, .slice A11 C.J.comb.length c12, .slice A16 C.J.red.length c17, .int .i64 C.J.chunk, .int .i64 C.J.window, .int .i64 C.J.fuel, .slice A21 C.J.marks.length c22, .int .i64 C.w, .int .i64 C.t, .int .i64 C.o] 28] [rsl (kHd kPair) (.slice A1 C.J.us.length c2) C.J.us, rsl kIns (.slice A6 C.J.map.length c7) C.J.map, rsl kIns (.slice A11 C.J.comb.length c12) C.J.comb, rsl kIns (.slice A16 C.J.red.length c17) C.J.red, rsl (kInt .i64) (.slice A21 C.J.marks.length c22) C.J.marks, rsl kRec (.slice A26 recs.length c27) recs, rsl kA21 (.slice A31 acts.length c32) acts] := H
     refine c_ret (q_ret1 rfl rfl ?_)
     replace H := H.nil
     exact fin ⟨congrArg Value.bool (greatA_of (.inr h66)), rfl⟩ H
    ·refine s_1 rfl (s_val rfl rfl (r_lenL rfl un73 rfl) (s_1 rfl (s_val rfl rfl (r_gt rfl rfl rfl) (s_k 2 rfl (s_nil (q_then ?_))))))
     replace H : Hd _ _ _ [blk b36 [.slice A1 C.J.us.length c2, .int .i64 C.J.parts, .slice A6 C.J.map.length c7, .slice A11 C.J.comb.length c12, .slice A16 C.J.red.length c17, .int .i64 C.J.chunk, .int .i64 C.J.window, .int .i64 C.J.fuel, .slice A21 C.J.marks.length c22, .int .i64 C.w, .int .i64 C.t, .int .i64 C.o] 28] [rsl (kHd kPair) (.slice A1 C.J.us.length c2) C.J.us, rsl kIns (.slice A6 C.J.map.length c7) C.J.map, rsl kIns (.slice A11 C.J.comb.length c12) C.J.comb, rsl kIns (.slice A16 C.J.red.length c17) C.J.red, rsl (kInt .i64) (.slice A21 C.J.marks.length c22) C.J.marks, rsl kRec (.slice A26 recs.length c27) recs, rsl kA21 (.slice A31 acts.length c32) acts] := H
     refine c_ret (q_ret1 rfl rfl ?_)
     replace H := H.nil
     exact fin ⟨congrArg Value.bool (greatA_end hn (by omega) (by simpa using h65) (by simpa using h66)), rfl⟩ H
 ·refine s_k 5 rfl (s_nil (q_then (c_no rfl (c_exit (q_thenE (q_thenE (q_blockE (q_then (c_seq (c_reg (s_val rfl rfl (r_fa rfl fo28_0 rfl) (s_val rfl rfl (r_ldA (cs := [.slice A1 C.J.us.length c2, .int .i64 C.J.parts, .slice A6 C.J.map.length c7, .slice A11 C.J.comb.length c12, .slice A16 C.J.red.length c17, .int .i64 C.J.chunk, .int .i64 C.J.window, .int .i64 C.J.fuel, .slice A21 C.J.marks.length c22]) rfl ty26 rfl rfl (H.cellsI 0 rfl rfl)) (sc (greatJob_ok (.slice A1 C.J.us.length c2) (.slice A6 C.J.map.length c7) (.slice A11 C.J.comb.length c12) (.slice A16 C.J.red.length c17) (.slice A21 C.J.marks.length c22) C.J) H (lR 0 rfl (lR 1 rfl (lR 2 rfl (lR 3 rfl (lR 4 rfl l0))))) rfl rfl (e_fn kn18 rfl rfl) ?_)))))))))))))
  rintro _ _ w ⟨rfl, rfl⟩ H
  refine s_1 rfl ?_
  refine s_boo (d := 31) (b := greatJ C.J) rfl (fun h67 => ?_) (fun h67 => ?_)
  ·refine s_k 10 rfl (s_nil (q_then ?_))
   replace H : Hd _ _ _ [blk b36 [.slice A1 C.J.us.length c2, .int .i64 C.J.parts, .slice A6 C.J.map.length c7, .slice A11 C.J.comb.length c12, .slice A16 C.J.red.length c17, .int .i64 C.J.chunk, .int .i64 C.J.window, .int .i64 C.J.fuel, .slice A21 C.J.marks.length c22, .int .i64 C.w, .int .i64 C.t, .int .i64 C.o] 28] [rsl (kHd kPair) (.slice A1 C.J.us.length c2) C.J.us, rsl kIns (.slice A6 C.J.map.length c7) C.J.map, rsl kIns (.slice A11 C.J.comb.length c12) C.J.comb, rsl kIns (.slice A16 C.J.red.length c17) C.J.red, rsl (kInt .i64) (.slice A21 C.J.marks.length c22) C.J.marks, rsl kRec (.slice A26 recs.length c27) recs, rsl kA21 (.slice A31 acts.length c32) acts] := H
   refine c_ret (q_ret1 rfl rfl ?_)
   replace H := H.nil
   exact fin ⟨congrArg Value.bool (greatA_of (.inl h67)), rfl⟩ H
  ·refine s_1 rfl (sc (greatRecords_ok (.slice A26 recs.length c27) recs 20) H (lR 5 rfl l0) rfl rfl (e_fn kn20 rfl rfl) ?_)
   rintro _ _ w ⟨rfl, rfl⟩ H
   refine s_k 2 rfl ?_
   refine s_boo (d := 35) (b := greatR recs 20) rfl (fun h68 => ?_) (fun h68 => ?_)
   ·refine s_k 6 rfl (s_nil (q_then ?_))
    replace H : Hd _ _ _ [blk b36 [.slice A1 C.J.us.length c2, .int .i64 C.J.parts, .slice A6 C.J.map.length c7, .slice A11 C.J.comb.length c12, .slice A16 C.J.red.length c17, .int .i64 C.J.chunk, .int .i64 C.J.window, .int .i64 C.J.fuel, .slice A21 C.J.marks.length c22, .int .i64 C.w, .int .i64 C.t, .int .i64 C.o] 28] [rsl (kHd kPair) (.slice A1 C.J.us.length c2) C.J.us, rsl kIns (.slice A6 C.J.map.length c7) C.J.map, rsl kIns (.slice A11 C.J.comb.length c12) C.J.comb, rsl kIns (.slice A16 C.J.red.length c17) C.J.red, rsl (kInt .i64) (.slice A21 C.J.marks.length c22) C.J.marks, rsl kRec (.slice A26 recs.length c27) recs, rsl kA21 (.slice A31 acts.length c32) acts] := H
    refine c_ret (q_ret1 rfl rfl ?_)
    replace H := H.nil
    exact fin ⟨congrArg Value.bool (greatA_of (.inr h68)), rfl⟩ H
   ·refine s_1 rfl (s_val rfl rfl (r_lenL rfl un73 rfl) (s_1 rfl (s_val rfl rfl (r_gt rfl rfl rfl) (s_k 2 rfl (s_nil (q_then ?_))))))
    replace H : Hd _ _ _ [blk b36 [.slice A1 C.J.us.length c2, .int .i64 C.J.parts, .slice A6 C.J.map.length c7, .slice A11 C.J.comb.length c12, .slice A16 C.J.red.length c17, .int .i64 C.J.chunk, .int .i64 C.J.window, .int .i64 C.J.fuel, .slice A21 C.J.marks.length c22, .int .i64 C.w, .int .i64 C.t, .int .i64 C.o] 28] [rsl (kHd kPair) (.slice A1 C.J.us.length c2) C.J.us, rsl kIns (.slice A6 C.J.map.length c7) C.J.map, rsl kIns (.slice A11 C.J.comb.length c12) C.J.comb, rsl kIns (.slice A16 C.J.red.length c17) C.J.red, rsl (kInt .i64) (.slice A21 C.J.marks.length c22) C.J.marks, rsl kRec (.slice A26 recs.length c27) recs, rsl kA21 (.slice A31 acts.length c32) acts] := H
    refine c_ret (q_ret1 rfl rfl ?_)
    replace H := H.nil
    exact fin ⟨congrArg Value.bool (greatA_end hn (by omega) (by simpa using h67) (by simpa using h68)), rfl⟩ H
set_option maxHeartbeats 4000000 in
theorem begun_ok (vS : Value) (vM : Value) (vC : Value) (vR : Value) (vK : Value) (C : Cf) (k : Int) (hC : mayC C) (wk : In64 k) :
    Cn Tryz.prog 48 [.agg #[vS, .int .i64 C.J.parts, vM, vC, vR, .int .i64 C.J.chunk, .int .i64 C.J.window, .int .i64 C.J.fuel, vK, .int .i64 C.w, .int .i64 C.t, .int .i64 C.o], .int .i64 k] [] [rsl (kHd kPair) vS C.J.us, rsl kIns vM C.J.map, rsl kIns vC C.J.comb, rsl kIns vR C.J.red, rsl (kInt .i64) vK C.J.marks] (fun v Bs => ∃ r : Nat, ∃ lo : Int, ∃ vS2 : Value, ∃ vM2 : Value, ∃ vC2 : Value, ∃ vR2 : Value, ∃ vK2 : Value, ∃ J2 : Job, ∃ sb : Nat, ∃ R : Red, v = .tuple #[.pointer (some ⟨r, 0, none⟩), .int .i64 lo] ∧ Bs = [redI r vS2 vM2 vC2 vR2 vK2 J2 C.w C.t C.o sb R] ∧ (SameJ J2 C.J) ∧ (R = newR C.J.us.length lo 1 []) ∧ (0 ≤ lo ∧ lo < C.J.parts)) := by
 intro w0 F0 H
 obtain ⟨A1, c2, rfl, hc3, hm4, hp5⟩ := H.fR 0 rfl
 obtain ⟨A6, c7, rfl, hc8, hm9, hp10⟩ := H.fR 1 rfl
 obtain ⟨A11, c12, rfl, hc13, hm14, hp15⟩ := H.fR 2 rfl
 obtain ⟨A16, c17, rfl, hc18, hm19, hp20⟩ := H.fR 3 rfl
 obtain ⟨A21, c22, rfl, hc23, hm24, hp25⟩ := H.fR 4 rfl
 have hpt : 1 ≤ C.J.parts ∧ C.J.parts ≤ 4 := hC.1.2.1
 refine enter Tryz.func48 rfl rfl (Nat.le_of_ble_eq_true rfl) (c_seq (c_reg (s_box rfl rfl rfl rfl H (fun b26 w H => (s_k 2 rfl (s_nil (q_then ?_)))))))
 replace H : Hd _ _ _ [blk b26 [.slice A1 C.J.us.length c2, .int .i64 C.J.parts, .slice A6 C.J.map.length c7, .slice A11 C.J.comb.length c12, .slice A16 C.J.red.length c17, .int .i64 C.J.chunk, .int .i64 C.J.window, .int .i64 C.J.fuel, .slice A21 C.J.marks.length c22, .int .i64 C.w, .int .i64 C.t, .int .i64 C.o] 28] [rsl (kHd kPair) (.slice A1 C.J.us.length c2) C.J.us, rsl kIns (.slice A6 C.J.map.length c7) C.J.map, rsl kIns (.slice A11 C.J.comb.length c12) C.J.comb, rsl kIns (.slice A16 C.J.red.length c17) C.J.red, rsl (kInt .i64) (.slice A21 C.J.marks.length c22) C.J.marks] := H
 refine c_seq (c_reg (s_1 rfl (s_val rfl rfl (r_fa rfl fo28_0 rfl) (s_val rfl rfl (r_fa rfl fo26_1 rfl) (s_val rfl rfl (r_ld rfl ty3 rfl (H.cellI 0 rfl rfl)) (sc (low_ok k C.J.parts (by first | assumption | (unfold In64; omega)) (by omega) (by omega)) H l0 rfl rfl (e_fn kn22 rfl rfl) ?_))))))
 rintro _ _ w ⟨rfl, rfl⟩ H
 obtain ⟨lo27, hl28, hl29, hl30⟩ : ∃ z : Int, IntKind.u64.wrap k % C.J.parts = z ∧ 0 ≤ z ∧ z < C.J.parts := ⟨_, rfl, Int.emod_nonneg _ (by omega), Int.emod_lt_of_pos _ (by omega)⟩
 rw [hl28]
 refine s_1 rfl (s_nil (q_then (c_seq (c_reg (s_val rfl rfl (r_ldA (cs := [.slice A1 C.J.us.length c2, .int .i64 C.J.parts, .slice A6 C.J.map.length c7, .slice A11 C.J.comb.length c12, .slice A16 C.J.red.length c17, .int .i64 C.J.chunk, .int .i64 C.J.window, .int .i64 C.J.fuel, .slice A21 C.J.marks.length c22, .int .i64 C.w, .int .i64 C.t, .int .i64 C.o]) rfl ty28 rfl rfl (H.cellsI 0 rfl rfl)) (s_1 rfl ?_))))))
 have hlo1 : In64 lo27 := by unfold In64; omega
 refine sc (redNew_ok (.slice A1 C.J.us.length c2) (.slice A6 C.J.map.length c7) (.slice A11 C.J.comb.length c12) (.slice A16 C.J.red.length c17) (.slice A21 C.J.marks.length c22) C lo27 1 (.slice none 0 0) [] (by first | assumption | omega | exact ⟨home_pos hC (by omega) (by omega), by decide⟩ | (unfold In64; omega) | exact (fun r h => by cases h) | (simp only [List.length_nil]; omega)) (by first | assumption | omega | exact ⟨home_pos hC (by omega) (by omega), by decide⟩ | (unfold In64; omega) | exact (fun r h => by cases h) | (simp only [List.length_nil]; omega)) (by first | assumption | omega | exact ⟨home_pos hC (by omega) (by omega), by decide⟩ | (unfold In64; omega) | exact (fun r h => by cases h) | (simp only [List.length_nil]; omega)) (by first | assumption | omega | exact ⟨home_pos hC (by omega) (by omega), by decide⟩ | (unfold In64; omega) | exact (fun r h => by cases h) | (simp only [List.length_nil]; omega)) (by first | assumption | omega | exact ⟨home_pos hC (by omega) (by omega), by decide⟩ | (unfold In64; omega) | exact (fun r h => by cases h) | (simp only [List.length_nil]; omega)) (by first | assumption | omega | exact ⟨home_pos hC (by omega) (by omega), by decide⟩ | (unfold In64; omega) | exact (fun r h => by cases h) | (simp only [List.length_nil]; omega))) H (lR 0 rfl (lR 1 rfl (lR 2 rfl (lR 3 rfl (lR 4 rfl (lX (fun F _ _ => rsl_nil _ _ F trivial (by decide)) l0)))))) rfl rfl (e_fn kn56 rfl rfl) ?_
 rintro _ _ w ⟨r31, vS32, vM33, vC34, vR35, vK36, J37, hv38, sb39, vs40, us41, rfl, rfl, hf42, hf43⟩ H
 replace H : Hd _ _ _ [blk r31 (redC vS32 vM33 vC34 vR35 vK36 J37 C.w C.t C.o lo27 1 ((newR J37.us.length lo27 1 ([].map Rec.p)).g) hv38 sb39 vs40) 185, osl (kHd kPair) vS32 J37.us, osl kIns vM33 J37.map, osl kIns vC34 J37.comb, osl kIns vR35 J37.red, osl (kInt .i64) vK36 J37.marks, prsS ((newR J37.us.length lo27 1 ([].map Rec.p)).g) hv38, osl (kHd (kInt .i64)) vs40 us41, stgI 253 sb39 ([]), blk b26 [.slice A1 C.J.us.length c2, .int .i64 C.J.parts, .slice A6 C.J.map.length c7, .slice A11 C.J.comb.length c12, .slice A16 C.J.red.length c17, .int .i64 C.J.chunk, .int .i64 C.J.window, .int .i64 C.J.fuel, .slice A21 C.J.marks.length c22, .int .i64 C.w, .int .i64 C.t, .int .i64 C.o] 28] [rsl (kHd kPair) (.slice A1 C.J.us.length c2) C.J.us, rsl kIns (.slice A6 C.J.map.length c7) C.J.map, rsl kIns (.slice A11 C.J.comb.length c12) C.J.comb, rsl kIns (.slice A16 C.J.red.length c17) C.J.red, rsl (kInt .i64) (.slice A21 C.J.marks.length c22) C.J.marks] := H
 obtain ⟨R44, hR45⟩ : ∃ z : Red, z = newR J37.us.length lo27 1 ([].map Rec.p) := ⟨_, rfl⟩
 rw [← hR45] at H hf43
 have hRp46 : R44.part = lo27 := by rw [hR45]; exact (newR_part _ _ _ _).1
 have hRe47 : R44.ep = 1 := by rw [hR45]; exact (newR_part _ _ _ _).2.1
 have hRs48 : R44.st = [] := by rw [hR45]; exact (newR_part _ _ _ _).2.2
 rw [show redC vS32 vM33 vC34 vR35 vK36 J37 C.w C.t C.o lo27 1 R44.g hv38 sb39 vs40 = redC vS32 vM33 vC34 vR35 vK36 J37 C.w C.t C.o R44.part R44.ep R44.g hv38 sb39 vs40 from by rw [hRp46, hRe47], show stgI 253 sb39 ([]) = stgI 253 sb39 (R44.st) from by rw [hRs48]] at H
 replace H : Hd _ _ _ [blk r31 (redC vS32 vM33 vC34 vR35 vK36 J37 C.w C.t C.o R44.part R44.ep R44.g hv38 sb39 vs40) 185, osl (kHd kPair) vS32 J37.us, osl kIns vM33 J37.map, osl kIns vC34 J37.comb, osl kIns vR35 J37.red, osl (kInt .i64) vK36 J37.marks, prsS (R44.g) hv38, osl (kHd (kInt .i64)) vs40 us41, stgI 253 sb39 (R44.st), blk b26 [.slice A1 C.J.us.length c2, .int .i64 C.J.parts, .slice A6 C.J.map.length c7, .slice A11 C.J.comb.length c12, .slice A16 C.J.red.length c17, .int .i64 C.J.chunk, .int .i64 C.J.window, .int .i64 C.J.fuel, .slice A21 C.J.marks.length c22, .int .i64 C.w, .int .i64 C.t, .int .i64 C.o] 28] [rsl (kHd kPair) (.slice A1 C.J.us.length c2) C.J.us, rsl kIns (.slice A6 C.J.map.length c7) C.J.map, rsl kIns (.slice A11 C.J.comb.length c12) C.J.comb, rsl kIns (.slice A16 C.J.red.length c17) C.J.red, rsl (kInt .i64) (.slice A21 C.J.marks.length c22) C.J.marks] := H
 replace H := redI_shut r31 vS32 vM33 vC34 vR35 vK36 J37 C.w C.t C.o sb39 R44 hv38 vs40 us41 hf43 H
 replace H := H.h1 (A := redI r31 vS32 vM33 vC34 vR35 vK36 J37 C.w C.t C.o sb39 R44)
 have hsj_R44 := hf42
 refine s_k 5 rfl (s_nil (q_then (c_seq (c_seq (c_reg (s_1 rfl (s_val rfl rfl (r_ne rfl rfl rfl) (s_nil (q_then (c_no rfl (c_skip (q_then (c_seq (c_reg (s_k 4 rfl (s_nil (q_then (c_ret (q_ret2 rfl rfl rfl ?_)))))))))))))))))))
 replace H := H.k1
 exact fin ⟨r31, lo27, vS32, vM33, vC34, vR35, vK36, J37, sb39, R44, rfl, rfl, hf42, hR45, ⟨by omega, by omega⟩⟩ H

set_option maxHeartbeats 8000000 in
theorem reducerRecordsC_ok (vS vM vC vR vK : Value) (C : Cf) (ss : List (List Pair)) (gm : ∀ i ∈ C.J.map, In64 i.a) (gc : ∀ i ∈ C.J.comb, In64 i.a) (gr : ∀ i ∈ C.J.red, In64 i.a) (k0 : Int) (wk : In64 k0) (va : Value) (acts : List (Two A21H)) (wacts : (∀ x ∈ acts, (InT (fun a : A21H => InM a.m ∧ In64 a.n) (fun p : Pair => p.key.size ≤ 9223372036854775807 ∧ p.val.size ≤ 9223372036854775807)) x) ∧ acts.length ≤ 9223372036854775807) (e0 : Int) (we : In64 e0) :
    Cn Tryz.prog 9 [.agg #[vS, .int .i64 C.J.parts, vM, vC, vR, .int .i64 C.J.chunk, .int .i64 C.J.window, .int .i64 C.J.fuel, vK, .int .i64 C.w, .int .i64 C.t, .int .i64 C.o], .int .i64 k0, va, .int .i64 e0] [] [rsl (kHd kPair) vS C.J.us, rsl (kSl kPair) vS ss, rsl kIns vM C.J.map, rsl kIns vC C.J.comb, rsl kIns vR C.J.red, rsl (kInt .i64) vK C.J.marks, rsl kA21 va acts, gl] (fun v Bs => v = .bool true ∧ Bs = []) := by
 intro w0 F0 H
 obtain ⟨A1, c2, rfl, hc3, hm4, hp5⟩ := H.fR 0 rfl
 obtain ⟨A6, c7, rfl, hc8, hm9, hp10⟩ := H.fR 2 rfl
 obtain ⟨A11, c12, rfl, hc13, hm14, hp15⟩ := H.fR 3 rfl
 obtain ⟨A16, c17, rfl, hc18, hm19, hp20⟩ := H.fR 4 rfl
 obtain ⟨A21, c22, rfl, hc23, hm24, hp25⟩ := H.fR 5 rfl
 obtain ⟨A26, c27, rfl, hc28, hm29, hp30⟩ := H.fR 6 rfl
 refine enter Tryz.func9 rfl rfl (Nat.le_of_ble_eq_true rfl) (c_seq (c_reg (s_box rfl rfl rfl rfl H (fun b31 w H => (s_1 rfl (s_nil (q_then ?_)))))))
 replace H : Hd _ _ _ [blk b31 [.slice A1 C.J.us.length c2, .int .i64 C.J.parts, .slice A6 C.J.map.length c7, .slice A11 C.J.comb.length c12, .slice A16 C.J.red.length c17, .int .i64 C.J.chunk, .int .i64 C.J.window, .int .i64 C.J.fuel, .slice A21 C.J.marks.length c22, .int .i64 C.w, .int .i64 C.t, .int .i64 C.o] 28] [rsl (kHd kPair) (.slice A1 C.J.us.length c2) C.J.us, rsl (kSl kPair) (.slice A1 C.J.us.length c2) ss, rsl kIns (.slice A6 C.J.map.length c7) C.J.map, rsl kIns (.slice A11 C.J.comb.length c12) C.J.comb, rsl kIns (.slice A16 C.J.red.length c17) C.J.red, rsl (kInt .i64) (.slice A21 C.J.marks.length c22) C.J.marks, rsl kA21 (.slice A26 acts.length c27) acts, gl] := H
 refine c_seq (c_seq (c_reg (s_val rfl rfl (r_ldA (cs := [.slice A1 C.J.us.length c2, .int .i64 C.J.parts, .slice A6 C.J.map.length c7, .slice A11 C.J.comb.length c12, .slice A16 C.J.red.length c17, .int .i64 C.J.chunk, .int .i64 C.J.window, .int .i64 C.J.fuel, .slice A21 C.J.marks.length c22, .int .i64 C.w, .int .i64 C.t, .int .i64 C.o]) rfl ty28 rfl rfl (H.cellsI 0 rfl rfl)) (s_1 rfl (sc (great21_ok (.slice A1 C.J.us.length c2) (.slice A6 C.J.map.length c7) (.slice A11 C.J.comb.length c12) (.slice A16 C.J.red.length c17) (.slice A21 C.J.marks.length c22) C (.slice none 0 0) [] (.slice A26 acts.length c27) acts 60) H (lR 0 rfl (lR 2 rfl (lR 3 rfl (lR 4 rfl (lR 5 rfl (lX (fun F _ _ => rsl_nil _ _ F trivial (by decide)) (lR 6 rfl l0))))))) rfl rfl (e_fn kn46 rfl rfl) ?_)))))
 rintro _ _ w ⟨rfl, rfl⟩ H
 refine s_1 rfl ?_
 refine s_boo (d := 27) (b := greatA C.J [] acts 60) rfl (fun h32 => ?_) (fun h32 => ?_)
 ·refine s_k 4 rfl (s_nil (q_then ?_))
  replace H : Hd _ _ _ [blk b31 [.slice A1 C.J.us.length c2, .int .i64 C.J.parts, .slice A6 C.J.map.length c7, .slice A11 C.J.comb.length c12, .slice A16 C.J.red.length c17, .int .i64 C.J.chunk, .int .i64 C.J.window, .int .i64 C.J.fuel, .slice A21 C.J.marks.length c22, .int .i64 C.w, .int .i64 C.t, .int .i64 C.o] 28] [rsl (kHd kPair) (.slice A1 C.J.us.length c2) C.J.us, rsl (kSl kPair) (.slice A1 C.J.us.length c2) ss, rsl kIns (.slice A6 C.J.map.length c7) C.J.map, rsl kIns (.slice A11 C.J.comb.length c12) C.J.comb, rsl kIns (.slice A16 C.J.red.length c17) C.J.red, rsl (kInt .i64) (.slice A21 C.J.marks.length c22) C.J.marks, rsl kA21 (.slice A26 acts.length c27) acts, gl] := H
  refine c_yes rfl (c_seq (c_reg (sc (awake21_ok) H (lR 7 rfl l0) rfl rfl (e_fn kn47 rfl rfl) ?_)))
  rintro _ _ w ⟨rfl, rfl⟩ H
  refine s_1 rfl (s_nil (q_then (c_ret (q_thenR (q_ret1 rfl rfl ?_)))))
  replace H := H.nil
  exact fin ⟨rfl, rfl⟩ H
 ·refine s_val rfl rfl (r_ldA (cs := [.slice A1 C.J.us.length c2, .int .i64 C.J.parts, .slice A6 C.J.map.length c7, .slice A11 C.J.comb.length c12, .slice A16 C.J.red.length c17, .int .i64 C.J.chunk, .int .i64 C.J.window, .int .i64 C.J.fuel, .slice A21 C.J.marks.length c22, .int .i64 C.w, .int .i64 C.t, .int .i64 C.o]) rfl ty28 rfl rfl (H.cellsI 0 rfl rfl)) ?_
  replace H : Hd _ _ _ [blk b31 [.slice A1 C.J.us.length c2, .int .i64 C.J.parts, .slice A6 C.J.map.length c7, .slice A11 C.J.comb.length c12, .slice A16 C.J.red.length c17, .int .i64 C.J.chunk, .int .i64 C.J.window, .int .i64 C.J.fuel, .slice A21 C.J.marks.length c22, .int .i64 C.w, .int .i64 C.t, .int .i64 C.o] 28] [rsl (kHd kPair) (.slice A1 C.J.us.length c2) C.J.us, rsl (kSl kPair) (.slice A1 C.J.us.length c2) ss, rsl kIns (.slice A6 C.J.map.length c7) C.J.map, rsl kIns (.slice A11 C.J.comb.length c12) C.J.comb, rsl kIns (.slice A16 C.J.red.length c17) C.J.red, rsl (kInt .i64) (.slice A21 C.J.marks.length c22) C.J.marks, rsl kA21 (.slice A26 acts.length c27) acts, gl] := H
  refine sc (mayC_ok (.slice A1 C.J.us.length c2) (.slice A6 C.J.map.length c7) (.slice A11 C.J.comb.length c12) (.slice A16 C.J.red.length c17) (.slice A21 C.J.marks.length c22) C) H (lR 0 rfl (lR 2 rfl (lR 3 rfl (lR 4 rfl (lR 5 rfl l0))))) rfl rfl (e_fn kn19 rfl rfl) ?_
  rintro _ _ w ⟨rfl, rfl⟩ H
  refine s_val rfl rfl (r_notP rfl rfl) (s_1 rfl (s_nil (q_then ?_)))
  refine c_dec rfl (fun h33 => ?_) (fun h33 => ?_)
  ·refine c_seq (c_reg (sc (awake21_ok) H (lR 7 rfl l0) rfl rfl (e_fn kn47 rfl rfl) ?_))
   rintro _ _ w ⟨rfl, rfl⟩ H
   refine s_1 rfl (s_nil (q_then (c_ret (q_thenR (q_ret1 rfl rfl ?_)))))
   replace H := H.nil
   exact fin ⟨rfl, rfl⟩ H
  ·refine c_skip (q_then (c_seq ?_))
   have hC : mayC C := Classical.not_not.1 h33
   have hJ : OkJ C.J := ⟨hC.1, gm, gc, gr⟩
   have hus := hJ.us
   have hpt := hJ.parts
   have ga := greatA_no h32
   have hal := ga.1.1
   refine c_reg (s_val rfl rfl (r_ldA (cs := [.slice A1 C.J.us.length c2, .int .i64 C.J.parts, .slice A6 C.J.map.length c7, .slice A11 C.J.comb.length c12, .slice A16 C.J.red.length c17, .int .i64 C.J.chunk, .int .i64 C.J.window, .int .i64 C.J.fuel, .slice A21 C.J.marks.length c22, .int .i64 C.w, .int .i64 C.t, .int .i64 C.o]) rfl ty28 rfl rfl (H.cellsI 0 rfl rfl)) (s_1 rfl (sc (begun_ok (.slice A1 C.J.us.length c2) (.slice A6 C.J.map.length c7) (.slice A11 C.J.comb.length c12) (.slice A16 C.J.red.length c17) (.slice A21 C.J.marks.length c22) C k0 (by first | exact ⟨home_pos hC (by omega) (by omega), by omega⟩ | assumption | omega | exact hrsm | exact OkR.pairs (by assumption) | exact OkR.mono (by assumption) (by omega) | (unfold In64; omega)) (by first | exact ⟨home_pos hC (by omega) (by omega), by omega⟩ | assumption | omega | exact hrsm | exact OkR.pairs (by assumption) | exact OkR.mono (by assumption) (by omega) | (unfold In64; omega))) H (lR 0 rfl (lR 2 rfl (lR 3 rfl (lR 4 rfl (lR 5 rfl l0))))) rfl rfl (e_fn kn48 rfl rfl) ?_)))
   rintro _ _ w ⟨r34, lo35, vS36, vM37, vC38, vR39, vK40, J41, sb42, R43, rfl, rfl, hf44, hf45, hf46⟩ H
   replace H := H.h1 (A := redI r34 vS36 vM37 vC38 vR39 vK40 J41 C.w C.t C.o sb42 R43)
   have hsj := hf44
   have hR0 := hf45
   have hlo := hf46
   have h6 : J41.us.length ≤ 6 := by have := hC.1.1; have := hsj.len; omega
   have hmk : J41.marks.length ≤ 1000 := by have := hC.1.2.2.1; rw [hsj.marks]; omega
   have hred : ∀ i ∈ J41.red, In64 i.a := by rw [hsj.red]; exact gr
   have hf64 : In64 J41.fuel := by rw [hsj.fuel]; have := hC.1.2.2.2.2.2.2.2.2.2.2; unfold In64; omega
   have hlo1 : In64 lo35 := by unfold In64; omega
   have hp0 : R43.part = lo35 := by rw [hR0]; exact (newR_part _ _ _ _).1
   have hk0 : OkR 0 R43 := by rw [hR0]; exact OkR.new (rs := []) fun r h => by cases h
   refine s_k 5 rfl (s_nil (q_then (c_seq (c_seq (c_reg (s_1 rfl (s_val rfl rfl (r_peq rfl un75 rfl rfl) (s_nil (q_then (c_no rfl (c_skip (q_then (c_seq (c_reg (s_1 rfl (s_nil (q_then (c_seq (c_seq (c_reg (s_1 rfl (s_nil (q_then (c_block ?_))))))))))))))))))))))))
   replace H := H.newnil kRecF |>.rec0 |>.h1 (A := recS []) |>.h2 (A := recS []) (B := osl kRecF (.slice none 0 0) (([] : List Rec).map toF)) |>.p1 |>.p2 |>.p3
   have hr00 : RelR J41.us.length R43 (newR J41.us.length lo35 1 (([] : List Rec).map Rec.p)) := by rw [hR0]; rw [← hsj.len]; exact rel0 _ _ _ _
   refine c_loop (σ := Nat × Red × Value × List Rec) (fun (k, R, q, al) => [(2, .slice A26 acts.length c27), (3, .int .i64 e0), (4, .pointer (some ⟨b31, 0, none⟩)), (8, .bool false), (9, .pointer (some ⟨r34, 0, none⟩)), (10, .int .i64 lo35), (11, q), (12, .int .i64 ((k : Nat) : Int))]) (fun (k, R, q, al) w => (Hd w0 F0 w [blk b31 [.slice A1 C.J.us.length c2, .int .i64 C.J.parts, .slice A6 C.J.map.length c7, .slice A11 C.J.comb.length c12, .slice A16 C.J.red.length c17, .int .i64 C.J.chunk, .int .i64 C.J.window, .int .i64 C.J.fuel, .slice A21 C.J.marks.length c22, .int .i64 C.w, .int .i64 C.t, .int .i64 C.o] 28, redI r34 vS36 vM37 vC38 vR39 vK40 J41 C.w C.t C.o sb42 R, osl kRecF q (al.map toF), recS al] [rsl (kHd kPair) (.slice A1 C.J.us.length c2) C.J.us, rsl (kSl kPair) (.slice A1 C.J.us.length c2) ss, rsl kIns (.slice A6 C.J.map.length c7) C.J.map, rsl kIns (.slice A11 C.J.comb.length c12) C.J.comb, rsl kIns (.slice A16 C.J.red.length c17) C.J.red, rsl (kInt .i64) (.slice A21 C.J.marks.length c22) C.J.marks, rsl kA21 (.slice A26 acts.length c27) acts, gl]) ∧ (k ≤ acts.length) ∧ (OkR k R) ∧ (R.part = lo35) ∧ (RelR J41.us.length R (newR J41.us.length lo35 1 (al.map Rec.p))) ∧ (∀ r ∈ al.map Rec.p, smallP r) ∧ (al.length ≤ 2 * k)) (fun (k, R, q, al) => acts.length - k) (0, R43, .slice none 0 0, []) ⟨rfl, rfl, rfl, rfl, rfl, rfl, rfl, rfl, trivial⟩ ⟨H, Nat.zero_le _, hk0, hp0, hr00, (fun r h => by cases h), Nat.le_refl _⟩ ?_
   rintro ⟨k, R, q, al⟩ w ⟨H, hk, hB, hp, hrel, hsm, hlen⟩
   have hfl : (al.map toF).length = al.length := List.length_map ..
   refine c_seq (c_seq (c_reg (s_k 2 rfl (s_val rfl rfl (r_lenL rfl un73 rfl) (s_val rfl rfl (r_lt rfl rfl rfl) (s_nil (q_then ?_)))))))
   refine c_dec rfl (fun h47 => ?_) (fun h47 => ?_)
   ·refine c_skip (q_then (c_seq (c_block (c_seq (c_reg (s_k 2 rfl ?_))))))
    obtain ⟨⟨⟨a50, ⟨a51, a52, a53, a54, a55, a56, a57, a58⟩, a59⟩, sv60, se61, pv62, pr63⟩, hx49⟩ : ∃ z9, acts[k]? = some z9 := ⟨_, List.getElem?_eq_getElem (show k < acts.length by omega)⟩
    obtain ⟨A64, c65, A66, c67, rfl, rfl, m68, m69, m70, m71⟩ := H.nestRt 6 rfl hx49
    have th72 := H.thRt 6 rfl hx49
    refine s_val rfl rfl (r_iaE (p := oOf A26 + k * 12) rfl sl73 rfl rfl (by omega) (by omega) th72 rfl) (s_val rfl rfl (r_fa rfl fo79_1 rfl) (s_val rfl rfl (r_ldA (cs := [.int .i64 a51, .int .i64 a52, .int .i64 a53, .int .i64 a54, .int .i64 a55, .int .i64 a56, .int .i64 a57, .int .i64 a58, .slice A64 se61.length c65, .slice A66 pr63.length c67]) rfl ty64 rfl rfl (H.elsRt 6 rfl hx49 1 10 rfl rfl)) (s_alloc rfl rfl rfl zr64 H (fun b73 w H => (s_st rfl rfl rfl ty64 rfl rfl H rfl (Nat.le_of_ble_eq_true rfl) (fun u hu => by simp [Value.cells] at hu; rcases hu with rfl | rfl | rfl | rfl | rfl | rfl | rfl | rfl | rfl | rfl <;> rfl) (fun w H => ?_))))))
    replace H : Hd _ _ _ [blk b73 [.int .i64 a51, .int .i64 a52, .int .i64 a53, .int .i64 a54, .int .i64 a55, .int .i64 a56, .int .i64 a57, .int .i64 a58, .slice A64 se61.length c65, .slice A66 pr63.length c67] 64, blk b31 [.slice A1 C.J.us.length c2, .int .i64 C.J.parts, .slice A6 C.J.map.length c7, .slice A11 C.J.comb.length c12, .slice A16 C.J.red.length c17, .int .i64 C.J.chunk, .int .i64 C.J.window, .int .i64 C.J.fuel, .slice A21 C.J.marks.length c22, .int .i64 C.w, .int .i64 C.t, .int .i64 C.o] 28, redI r34 vS36 vM37 vC38 vR39 vK40 J41 C.w C.t C.o sb42 R, osl kRecF q (al.map toF), recS al] [rsl (kHd kPair) (.slice A1 C.J.us.length c2) C.J.us, rsl (kSl kPair) (.slice A1 C.J.us.length c2) ss, rsl kIns (.slice A6 C.J.map.length c7) C.J.map, rsl kIns (.slice A11 C.J.comb.length c12) C.J.comb, rsl kIns (.slice A16 C.J.red.length c17) C.J.red, rsl (kInt .i64) (.slice A21 C.J.marks.length c22) C.J.marks, rsl kA21 (.slice A26 acts.length c27) acts, gl] := H
    refine s_nil (q_then (c_seq (c_reg (s_1 rfl (s_val rfl rfl (r_fa rfl fo64_3 rfl) (s_st rfl rfl rfl ty3 rfl rfl H rfl (Nat.le_of_ble_eq_true rfl) (fun u hu => by simp [Value.cells] at hu; subst hu; rfl) (fun w H => ?_)))))))
    replace H := H.h1 (A := blk b73 [.int .i64 a51, .int .i64 a52, .int .i64 a53, .int .i64 lo35, .int .i64 a55, .int .i64 a56, .int .i64 a57, .int .i64 a58, .slice A64 se61.length c65, .slice A66 pr63.length c67] 64)
    refine s_nil (q_then (c_seq (c_reg (s_1 rfl (s_nil (q_then (c_seq (c_seq (c_reg (s_k 2 rfl ?_))))))))))
    have th74 := H.thRt 6 rfl hx49
    refine s_val rfl rfl (r_iaE (p := oOf A26 + k * 12) rfl sl73 rfl rfl (by omega) (by omega) th74 rfl) (s_val rfl rfl (r_fa rfl fo79_0 rfl) (s_val rfl rfl (r_ld rfl ty4 rfl (H.elRt 6 rfl hx49 (q := 0) rfl rfl)) (s_nil (q_then ?_))))
    refine c_cond (b := a50) rfl (fun h75 => ?_) (fun h75 => ?_)
    ·replace H := H.p4.p4.p3.p3
     refine c_ord (.e 0 (.e 1 (.e 2 (.e 3 (.e 4 (.e 5 (.e 6 (.e 7 (.e 8 (.e 9 (.m 10 (.e 11 .z)))))))))))) (fun w => ∃ Ar, Hd w0 F0 w (blk b73 [.int .i64 a51, .int .i64 a52, .int .i64 a53, .int .i64 lo35, .int .i64 a55, .int .i64 a56, .int .i64 a57, .int .i64 a58, .slice A64 se61.length c65, .slice A66 pr63.length c67] 64 :: blk b31 [.slice A1 C.J.us.length c2, .int .i64 C.J.parts, .slice A6 C.J.map.length c7, .slice A11 C.J.comb.length c12, .slice A16 C.J.red.length c17, .int .i64 C.J.chunk, .int .i64 C.J.window, .int .i64 C.J.fuel, .slice A21 C.J.marks.length c22, .int .i64 C.w, .int .i64 C.t, .int .i64 C.o] 28 :: osl kRecF q (al.map toF) :: recS al :: Ar) [rsl (kHd kPair) (.slice A1 C.J.us.length c2) C.J.us, rsl (kSl kPair) (.slice A1 C.J.us.length c2) ss, rsl kIns (.slice A6 C.J.map.length c7) C.J.map, rsl kIns (.slice A11 C.J.comb.length c12) C.J.comb, rsl kIns (.slice A16 C.J.red.length c17) C.J.red, rsl (kInt .i64) (.slice A21 C.J.marks.length c22) C.J.marks, rsl kA21 (.slice A26 acts.length c27) acts, gl]) mo (by kernel_rfl) (fun w H => ⟨_, H⟩) H (fun w H => ?_)
     refine d_1 rfl (d_val rfl rfl rfl (fun w ⟨Ar, H⟩ => r_fa rfl fo64_1 rfl) (d_val rfl rfl rfl (fun w ⟨Ar, H⟩ => r_ld rfl ty3 rfl (H.cellI 0 rfl rfl)) (d_val rfl rfl rfl (fun w ⟨Ar, H⟩ => r_fa rfl fo64_2 rfl) (d_val rfl rfl rfl (fun w ⟨Ar, H⟩ => r_ld rfl ty3 rfl (H.cellI 0 rfl rfl)) (d_1 rfl (d_1 rfl ?_))))))
     have th76 := H.thRt 6 rfl hx49
     refine d_val rfl rfl rfl (fun w ⟨Ar, H⟩ => r_iaE (p := oOf A26 + k * 12) rfl sl73 rfl rfl (by omega) (by omega) th76 rfl) (d_val rfl rfl rfl (fun w ⟨Ar, H⟩ => r_fa rfl fo79_2 rfl) (d_val rfl rfl rfl (fun w ⟨Ar, H⟩ => r_ld rfl ty3 rfl (H.elRt 6 rfl hx49 (q := 11) rfl rfl)) (d_main rfl ?_)))
     replace H := H.p4
     refine sc (rwon_ok r34 vS36 vM37 vC38 vR39 vK40 J41 C.w C.t C.o sb42 R a52 a53 a59 (by first | exact ⟨home_pos hC (by omega) (by omega), by omega⟩ | assumption | omega | exact hrsm | exact OkR.pairs (by assumption) | exact OkR.mono (by assumption) (by omega) | (unfold In64; omega)) (by first | exact ⟨home_pos hC (by omega) (by omega), by omega⟩ | assumption | omega | exact hrsm | exact OkR.pairs (by assumption) | exact OkR.mono (by assumption) (by omega) | (unfold In64; omega)) (by first | exact ⟨home_pos hC (by omega) (by omega), by omega⟩ | assumption | omega | exact hrsm | exact OkR.pairs (by assumption) | exact OkR.mono (by assumption) (by omega) | (unfold In64; omega))) H l0 rfl rfl (e_fn kn49 rfl rfl) ?_
     rintro v79 _ w ⟨rs77, rfl, hf78⟩ H
     replace H := H.h2 (A := osl kRec v79 rs77) (B := redI r34 vS36 vM37 vC38 vR39 vK40 J41 C.w C.t C.o sb42 ((wonR J41 C.t R a52 a53 a59).1)) |>.p5 |>.p5 |>.p5 |>.p5
     refine d_back ⟨_, H⟩ (d_1 rfl (d_nil (q_then ?_)))
     replace H := H.p5.p5.p5.p5.p5.k5
     refine c_reg (s_k 2 rfl ?_)
     obtain ⟨A80, c81, rfl, hc82, hm83, hp84⟩ := H.fA 3 rfl
     have hll : rs77.length ≤ 2 := by have h := (show smallsP (rs77.map Rec.p) by rw [hf78]; exact won_small h6).2; rwa [List.length_map] at h
     replace H := H.p3.recO |>.h2 (A := osl kRecF (.slice A80 rs77.length c81) (rs77.map toF)) (B := recS rs77)
     have hfl2 : (rs77.map toF).length = rs77.length := List.length_map ..
     replace H := H.p3
     refine s_appF (xs := al.map toF) (ys := rs77.map toF) rfl rfl rfl sl29 zr37 rfl (by decide) rfl rfl H (by first | omega | (simp only [List.length_append, List.length_map]; omega)) (fun F hA hR => own_rd F (hA _ (List.mem_of_getElem? (i := 0) rfl))) (fun v85 w H => ?_)
     rw [← List.map_append] at H
     replace H : Hd _ _ _ [osl kRecF v85 ((al ++ rs77).map toF), osl kRecF (.slice A80 rs77.length c81) (rs77.map toF), recS rs77, blk b31 [.slice A1 C.J.us.length c2, .int .i64 C.J.parts, .slice A6 C.J.map.length c7, .slice A11 C.J.comb.length c12, .slice A16 C.J.red.length c17, .int .i64 C.J.chunk, .int .i64 C.J.window, .int .i64 C.J.fuel, .slice A21 C.J.marks.length c22, .int .i64 C.w, .int .i64 C.t, .int .i64 C.o] 28, recS al, redI r34 vS36 vM37 vC38 vR39 vK40 J41 C.w C.t C.o sb42 ((wonR J41 C.t R a52 a53 a59).1)] [rsl (kHd kPair) (.slice A1 C.J.us.length c2) C.J.us, rsl (kSl kPair) (.slice A1 C.J.us.length c2) ss, rsl kIns (.slice A6 C.J.map.length c7) C.J.map, rsl kIns (.slice A11 C.J.comb.length c12) C.J.comb, rsl kIns (.slice A16 C.J.red.length c17) C.J.red, rsl (kInt .i64) (.slice A21 C.J.marks.length c22) C.J.marks, rsl kA21 (.slice A26 acts.length c27) acts, gl] := H
     replace H := H.p2.p4
     replace H := recS_app H
     replace H := H.h1 (A := recS (al ++ rs77))
     refine s_1 rfl (s_nil (q_blockN (q_then (c_reg (s_1 rfl (s_val rfl rfl (r_add (z := ((k + 1 : Nat) : Int)) rfl rfl rfl (by rw [w64 (by omega) (by omega)]; omega)) (s_1 rfl (s_nil ?_))))))))
     have hrl2 : RelR J41.us.length (wonR J41 C.t R a52 a53 a59).1 (newR J41.us.length lo35 1 ((al ++ rs77).map Rec.p)) := by rw [List.map_append, hf78]; exact rel_new hrel (won_rel hrel)
     have hsm2 : ∀ r ∈ (al ++ rs77).map Rec.p, smallP r := by rw [List.map_append, hf78]; exact smalls_app hsm (won_small h6)
     replace H := H.p1.p4.p4.k4
     exact q_round (s := (k, R, undef, al)) (k + 1, (wonR J41 C.t R a52 a53 a59).1, v85, al ++ rs77) ⟨rfl, rfl, rfl, rfl, rfl, rfl, rfl, rfl, trivial⟩ ⟨H, by (try dsimp only); omega, hB.won h6 _ _ _, (won_part _ _ _ _ _ _).1.trans hp, hrl2, hsm2, by (try dsimp only); rw [List.length_append]; omega⟩ (by (try dsimp only); omega)
    ·refine c_reg (s_1 rfl (s_val rfl rfl (r_ldA (cs := [.int .i64 a51, .int .i64 a52, .int .i64 a53, .int .i64 lo35, .int .i64 a55, .int .i64 a56, .int .i64 a57, .int .i64 a58, .slice A64 se61.length c65, .slice A66 pr63.length c67]) rfl ty64 rfl rfl (H.cellsI 0 rfl rfl)) ?_))
     replace H := H.p2
     refine sc (rpush_ok r34 vS36 vM37 vC38 vR39 vK40 J41 C.w C.t C.o sb42 R (⟨a51, a52, a53, lo35, a55, a56, a57, a58, se61, pr63⟩ : Msg) (.slice A64 se61.length c65) (.slice A66 pr63.length c67) (by first | exact ⟨home_pos hC (by omega) (by omega), by omega⟩ | assumption | omega | exact hrsm | exact OkR.pairs (by assumption) | exact OkR.mono (by assumption) (by omega) | (unfold In64; omega)) (by first | exact ⟨home_pos hC (by omega) (by omega), by omega⟩ | assumption | omega | exact hrsm | exact OkR.pairs (by assumption) | exact OkR.mono (by assumption) (by omega) | (unfold In64; omega)) (by first | exact ⟨home_pos hC (by omega) (by omega), by omega⟩ | assumption | omega | exact hrsm | exact OkR.pairs (by assumption) | exact OkR.mono (by assumption) (by omega) | (unfold In64; omega))) H (lX (fun F hA hR => tw_set (hR _ (List.mem_of_getElem? (i := 6) rfl)) hx49) (lX (fun F hA hR => tw_pairs (hR _ (List.mem_of_getElem? (i := 6) rfl)) hx49) l0)) rfl rfl (e_fn kn50 rfl rfl) ?_
     rintro _ _ w ⟨u86, rs87, rfl, rfl, hf88⟩ H
     replace H := H.h2 (A := osl kRec u86 rs87) (B := redI r34 vS36 vM37 vC38 vR39 vK40 J41 C.w C.t C.o sb42 ((pushR J41 R (⟨a51, a52, a53, lo35, a55, a56, a57, a58, se61, pr63⟩ : Msg)).1))
     refine s_k 4 rfl (s_nil (q_then ?_))
     replace H := H.p5.p5.p5.p4.p4.k5
     refine c_reg (s_k 2 rfl ?_)
     obtain ⟨A89, c90, rfl, hc91, hm92, hp93⟩ := H.fA 0 rfl
     have hll : rs87.length ≤ 2 := by have h := (show smallsP (rs87.map Rec.p) by rw [hf88]; exact push_small h6).2; rwa [List.length_map] at h
     replace H := H.recO |>.h2 (A := osl kRecF (.slice A89 rs87.length c90) (rs87.map toF)) (B := recS rs87)
     have hfl2 : (rs87.map toF).length = rs87.length := List.length_map ..
     replace H := H.p4
     refine s_appF (xs := al.map toF) (ys := rs87.map toF) rfl rfl rfl sl29 zr37 rfl (by decide) rfl rfl H (by first | omega | (simp only [List.length_append, List.length_map]; omega)) (fun F hA hR => own_rd F (hA _ (List.mem_of_getElem? (i := 0) rfl))) (fun v94 w H => ?_)
     rw [← List.map_append] at H
     replace H : Hd _ _ _ [osl kRecF v94 ((al ++ rs87).map toF), osl kRecF (.slice A89 rs87.length c90) (rs87.map toF), recS rs87, redI r34 vS36 vM37 vC38 vR39 vK40 J41 C.w C.t C.o sb42 ((pushR J41 R (⟨a51, a52, a53, lo35, a55, a56, a57, a58, se61, pr63⟩ : Msg)).1), blk b31 [.slice A1 C.J.us.length c2, .int .i64 C.J.parts, .slice A6 C.J.map.length c7, .slice A11 C.J.comb.length c12, .slice A16 C.J.red.length c17, .int .i64 C.J.chunk, .int .i64 C.J.window, .int .i64 C.J.fuel, .slice A21 C.J.marks.length c22, .int .i64 C.w, .int .i64 C.t, .int .i64 C.o] 28, recS al] [rsl (kHd kPair) (.slice A1 C.J.us.length c2) C.J.us, rsl (kSl kPair) (.slice A1 C.J.us.length c2) ss, rsl kIns (.slice A6 C.J.map.length c7) C.J.map, rsl kIns (.slice A11 C.J.comb.length c12) C.J.comb, rsl kIns (.slice A16 C.J.red.length c17) C.J.red, rsl (kInt .i64) (.slice A21 C.J.marks.length c22) C.J.marks, rsl kA21 (.slice A26 acts.length c27) acts, gl] := H
     replace H := H.p2.p5
     replace H := recS_app H
     replace H := H.h1 (A := recS (al ++ rs87))
     refine s_1 rfl (s_nil (q_blockN (q_then (c_reg (s_1 rfl (s_val rfl rfl (r_add (z := ((k + 1 : Nat) : Int)) rfl rfl rfl (by rw [w64 (by omega) (by omega)]; omega)) (s_1 rfl (s_nil ?_))))))))
     have hrl2 : RelR J41.us.length (pushR J41 R (⟨a51, a52, a53, lo35, a55, a56, a57, a58, se61, pr63⟩ : Msg)).1 (newR J41.us.length lo35 1 ((al ++ rs87).map Rec.p)) := by rw [List.map_append, hf88]; exact rel_new hrel (push_rel hrel)
     have hsm2 : ∀ r ∈ (al ++ rs87).map Rec.p, smallP r := by rw [List.map_append, hf88]; exact smalls_app hsm (push_small h6)
     replace H := H.p1.p3.p4.k4
     exact q_round (s := (k, R, undef, al)) (k + 1, (pushR J41 R (⟨a51, a52, a53, lo35, a55, a56, a57, a58, se61, pr63⟩ : Msg)).1, v94, al ++ rs87) ⟨rfl, rfl, rfl, rfl, rfl, rfl, rfl, rfl, trivial⟩ ⟨H, by (try dsimp only); omega, hB.push h6 _, (push_part _ _ _).1.trans hp, hrl2, hsm2, by (try dsimp only); rw [List.length_append]; omega⟩ (by (try dsimp only); omega)
   ·refine c_exit (q_thenE (q_thenE (q_blockE (q_then (c_seq ?_)))))
    have hkk : k = acts.length := by omega
    replace H := H.p3.p3.h4 (A := osl kRecF q (al.map toF)) (B := recS al) (C := blk b31 [.slice A1 C.J.us.length c2, .int .i64 C.J.parts, .slice A6 C.J.map.length c7, .slice A11 C.J.comb.length c12, .slice A16 C.J.red.length c17, .int .i64 C.J.chunk, .int .i64 C.J.window, .int .i64 C.J.fuel, .slice A21 C.J.marks.length c22, .int .i64 C.w, .int .i64 C.t, .int .i64 C.o] 28) (D := redI r34 vS36 vM37 vC38 vR39 vK40 J41 C.w C.t C.o sb42 R) |>.recI |>.h1 (A := osl kRec q al)
    have hrsm : ∀ r ∈ al, (In64 r.sp ∧ r.set.length ≤ 1000) ∧ r.pairs.length ≤ 1000 := fun r hr => hsm r.p (List.mem_map_of_mem hr)
    have hall : al.length ≤ 100000 := by omega
    refine c_ord (.e 0 (.e 1 (.e 2 (.e 5 (.m 3 (.e 4 (.m 6 (.e 7 (.e 8 (.e 9 (.e 10 (.e 11 .z)))))))))))) (fun w => ∃ Ar, Hd w0 F0 w (osl kRec q al :: blk b31 [.slice A1 C.J.us.length c2, .int .i64 C.J.parts, .slice A6 C.J.map.length c7, .slice A11 C.J.comb.length c12, .slice A16 C.J.red.length c17, .int .i64 C.J.chunk, .int .i64 C.J.window, .int .i64 C.J.fuel, .slice A21 C.J.marks.length c22, .int .i64 C.w, .int .i64 C.t, .int .i64 C.o] 28 :: redI r34 vS36 vM37 vC38 vR39 vK40 J41 C.w C.t C.o sb42 R :: Ar) [rsl (kHd kPair) (.slice A1 C.J.us.length c2) C.J.us, rsl (kSl kPair) (.slice A1 C.J.us.length c2) ss, rsl kIns (.slice A6 C.J.map.length c7) C.J.map, rsl kIns (.slice A11 C.J.comb.length c12) C.J.comb, rsl kIns (.slice A16 C.J.red.length c17) C.J.red, rsl (kInt .i64) (.slice A21 C.J.marks.length c22) C.J.marks, rsl kA21 (.slice A26 acts.length c27) acts, gl]) mo (by kernel_rfl) (fun w H => ⟨_, H⟩) H (fun w H => ?_)
    refine d_val rfl rfl rfl (fun w ⟨Ar, H⟩ => r_ldA (cs := [.slice A1 C.J.us.length c2, .int .i64 C.J.parts, .slice A6 C.J.map.length c7, .slice A11 C.J.comb.length c12, .slice A16 C.J.red.length c17, .int .i64 C.J.chunk, .int .i64 C.J.window, .int .i64 C.J.fuel, .slice A21 C.J.marks.length c22, .int .i64 C.w, .int .i64 C.t, .int .i64 C.o]) rfl ty28 rfl rfl (H.cellsI 1 rfl rfl)) (d_1 rfl (d_1 rfl (d_1 rfl (d_main rfl (sc (low_ok e0 50 (by first | assumption | (unfold In64; omega)) (by omega) (by omega)) H l0 rfl rfl (e_fn kn22 rfl rfl) ?_)))))
    rintro _ _ w ⟨rfl, rfl⟩ H
    obtain ⟨lo95, hl96, hl97, hl98⟩ : ∃ z : Int, IntKind.u64.wrap e0 % 50 = z ∧ 0 ≤ z ∧ z < 50 := ⟨_, rfl, Int.emod_nonneg _ (by omega), Int.emod_lt_of_pos _ (by omega)⟩
    rw [hl96]
    refine d_back ⟨_, H⟩ (d_val rfl rfl rfl (fun w ⟨Ar, H⟩ => r_add (z := 2 + lo95) rfl rfl rfl (w64 (by omega) (by omega))) (d_main rfl (sc (redNew_ok (.slice A1 C.J.us.length c2) (.slice A6 C.J.map.length c7) (.slice A11 C.J.comb.length c12) (.slice A16 C.J.red.length c17) (.slice A21 C.J.marks.length c22) C lo35 (2 + lo95) q al (by first | exact ⟨home_pos hC (by omega) (by omega), by omega⟩ | assumption | omega | exact hrsm | exact OkR.pairs (by assumption) | exact OkR.mono (by assumption) (by omega) | (unfold In64; omega)) (by first | exact ⟨home_pos hC (by omega) (by omega), by omega⟩ | assumption | omega | exact hrsm | exact OkR.pairs (by assumption) | exact OkR.mono (by assumption) (by omega) | (unfold In64; omega)) (by first | exact ⟨home_pos hC (by omega) (by omega), by omega⟩ | assumption | omega | exact hrsm | exact OkR.pairs (by assumption) | exact OkR.mono (by assumption) (by omega) | (unfold In64; omega)) (by first | exact ⟨home_pos hC (by omega) (by omega), by omega⟩ | assumption | omega | exact hrsm | exact OkR.pairs (by assumption) | exact OkR.mono (by assumption) (by omega) | (unfold In64; omega)) (by first | exact ⟨home_pos hC (by omega) (by omega), by omega⟩ | assumption | omega | exact hrsm | exact OkR.pairs (by assumption) | exact OkR.mono (by assumption) (by omega) | (unfold In64; omega)) (by first | exact ⟨home_pos hC (by omega) (by omega), by omega⟩ | assumption | omega | exact hrsm | exact OkR.pairs (by assumption) | exact OkR.mono (by assumption) (by omega) | (unfold In64; omega))) H (lR 0 rfl (lR 2 rfl (lR 3 rfl (lR 4 rfl (lR 5 rfl (lA 0 rfl own_rd l0)))))) rfl rfl (e_fn kn56 rfl rfl) ?_)))
    rintro _ _ w ⟨r99, vS100, vM101, vC102, vR103, vK104, J105, hv106, sb107, vs108, us109, rfl, rfl, hf110, hf111⟩ H
    replace H : Hd _ _ _ [blk r99 (redC vS100 vM101 vC102 vR103 vK104 J105 C.w C.t C.o lo35 (2 + lo95) ((newR J105.us.length lo35 (2 + lo95) (al.map Rec.p)).g) hv106 sb107 vs108) 185, osl (kHd kPair) vS100 J105.us, osl kIns vM101 J105.map, osl kIns vC102 J105.comb, osl kIns vR103 J105.red, osl (kInt .i64) vK104 J105.marks, prsS ((newR J105.us.length lo35 (2 + lo95) (al.map Rec.p)).g) hv106, osl (kHd (kInt .i64)) vs108 us109, stgI 253 sb107 ([]), osl kRec q al, blk b31 [.slice A1 C.J.us.length c2, .int .i64 C.J.parts, .slice A6 C.J.map.length c7, .slice A11 C.J.comb.length c12, .slice A16 C.J.red.length c17, .int .i64 C.J.chunk, .int .i64 C.J.window, .int .i64 C.J.fuel, .slice A21 C.J.marks.length c22, .int .i64 C.w, .int .i64 C.t, .int .i64 C.o] 28, redI r34 vS36 vM37 vC38 vR39 vK40 J41 C.w C.t C.o sb42 R] [rsl (kHd kPair) (.slice A1 C.J.us.length c2) C.J.us, rsl (kSl kPair) (.slice A1 C.J.us.length c2) ss, rsl kIns (.slice A6 C.J.map.length c7) C.J.map, rsl kIns (.slice A11 C.J.comb.length c12) C.J.comb, rsl kIns (.slice A16 C.J.red.length c17) C.J.red, rsl (kInt .i64) (.slice A21 C.J.marks.length c22) C.J.marks, rsl kA21 (.slice A26 acts.length c27) acts, gl] := H
    obtain ⟨N112, hR113⟩ : ∃ z : Red, z = newR J105.us.length lo35 (2 + lo95) (al.map Rec.p) := ⟨_, rfl⟩
    rw [← hR113] at H hf111
    have hRp114 : N112.part = lo35 := by rw [hR113]; exact (newR_part _ _ _ _).1
    have hRe115 : N112.ep = 2 + lo95 := by rw [hR113]; exact (newR_part _ _ _ _).2.1
    have hRs116 : N112.st = [] := by rw [hR113]; exact (newR_part _ _ _ _).2.2
    rw [show redC vS100 vM101 vC102 vR103 vK104 J105 C.w C.t C.o lo35 (2 + lo95) N112.g hv106 sb107 vs108 = redC vS100 vM101 vC102 vR103 vK104 J105 C.w C.t C.o N112.part N112.ep N112.g hv106 sb107 vs108 from by rw [hRp114, hRe115], show stgI 253 sb107 ([]) = stgI 253 sb107 (N112.st) from by rw [hRs116]] at H
    replace H : Hd _ _ _ [blk r99 (redC vS100 vM101 vC102 vR103 vK104 J105 C.w C.t C.o N112.part N112.ep N112.g hv106 sb107 vs108) 185, osl (kHd kPair) vS100 J105.us, osl kIns vM101 J105.map, osl kIns vC102 J105.comb, osl kIns vR103 J105.red, osl (kInt .i64) vK104 J105.marks, prsS (N112.g) hv106, osl (kHd (kInt .i64)) vs108 us109, stgI 253 sb107 (N112.st), osl kRec q al, blk b31 [.slice A1 C.J.us.length c2, .int .i64 C.J.parts, .slice A6 C.J.map.length c7, .slice A11 C.J.comb.length c12, .slice A16 C.J.red.length c17, .int .i64 C.J.chunk, .int .i64 C.J.window, .int .i64 C.J.fuel, .slice A21 C.J.marks.length c22, .int .i64 C.w, .int .i64 C.t, .int .i64 C.o] 28, redI r34 vS36 vM37 vC38 vR39 vK40 J41 C.w C.t C.o sb42 R] [rsl (kHd kPair) (.slice A1 C.J.us.length c2) C.J.us, rsl (kSl kPair) (.slice A1 C.J.us.length c2) ss, rsl kIns (.slice A6 C.J.map.length c7) C.J.map, rsl kIns (.slice A11 C.J.comb.length c12) C.J.comb, rsl kIns (.slice A16 C.J.red.length c17) C.J.red, rsl (kInt .i64) (.slice A21 C.J.marks.length c22) C.J.marks, rsl kA21 (.slice A26 acts.length c27) acts, gl] := H
    replace H := redI_shut r99 vS100 vM101 vC102 vR103 vK104 J105 C.w C.t C.o sb107 N112 hv106 vs108 us109 hf111 H
    replace H := H.h1 (A := redI r99 vS100 vM101 vC102 vR103 vK104 J105 C.w C.t C.o sb107 N112)
    have hsj_N112 := hf110
    have hcl : J105.us.length = J41.us.length := by rw [hsj_N112.len, hsj.len]
    have hrelN : RelR J41.us.length R N112 := by rw [hR113, hcl]; exact rel_ep hrel
    have hBN : OkR 1000 N112 := by rw [hR113]; exact (OkR.new (rs := al.map Rec.p) fun r hr => ⟨(hsm r hr).2, (hsm r hr).1.2⟩).mono (by rw [List.length_map]; omega)
    have hn6 : J105.us.length ≤ 6 := by omega
    have hnred : ∀ i ∈ J105.red, In64 i.a := by rw [hsj_N112.red]; exact gr
    have hnf : In64 J105.fuel := by rw [hsj_N112.fuel, ← hsj.fuel]; exact hf64
    have hsjj : SameJ J105 J41 := hsj_N112.trans hsj.symm
    have em : mergedL J105.us.length N112 = mergedL J41.us.length R := by rw [hcl]; exact rel_merged hrelN
    have eo : outR dg J105 N112 = outR dg J41 R := (hsjj.out dg N112).trans (rel_out hrelN)
    have es : snapsR dg J105 N112 = snapsR dg J41 R := (snaps_same hsjj dg N112).trans (rel_snaps hrelN)
    have ep : ∀ s, pairsR J105.us.length N112 s = pairsR J41.us.length R s := fun s => by rw [hcl]; exact rel_pairs hrelN s
    replace H := H.p3.p3.p3
    refine d_back ⟨_, H⟩ (d_1 rfl (d_1 rfl (d_1 rfl (d_1 rfl (d_1 rfl (d_nil (q_then ?_)))))))
    replace H := H.p3.p3.p3.k3
    refine c_seq (c_seq (c_reg (s_1 rfl (s_val rfl rfl (r_ne rfl rfl rfl) (s_k 2 rfl (s_val rfl rfl (r_peq rfl un75 rfl rfl) (s_k 3 rfl ?_)))))))
    replace H := H.p2
    obtain ⟨hv117, vs118, us119, hsets120, H⟩ := redI_open r99 vS100 vM101 vC102 vR103 vK104 J105 C.w C.t C.o sb107 N112 H
    replace H : Hd _ _ _ [blk r99 (redC vS100 vM101 vC102 vR103 vK104 J105 C.w C.t C.o N112.part N112.ep N112.g hv117 sb107 vs118) 185, osl (kHd kPair) vS100 J105.us, osl kIns vM101 J105.map, osl kIns vC102 J105.comb, osl kIns vR103 J105.red, osl (kInt .i64) vK104 J105.marks, prsS (N112.g) hv117, osl (kHd (kInt .i64)) vs118 us119, stgI 253 sb107 (N112.st), blk b31 [.slice A1 C.J.us.length c2, .int .i64 C.J.parts, .slice A6 C.J.map.length c7, .slice A11 C.J.comb.length c12, .slice A16 C.J.red.length c17, .int .i64 C.J.chunk, .int .i64 C.J.window, .int .i64 C.J.fuel, .slice A21 C.J.marks.length c22, .int .i64 C.w, .int .i64 C.t, .int .i64 C.o] 28, redI r34 vS36 vM37 vC38 vR39 vK40 J41 C.w C.t C.o sb42 R] [rsl (kHd kPair) (.slice A1 C.J.us.length c2) C.J.us, rsl (kSl kPair) (.slice A1 C.J.us.length c2) ss, rsl kIns (.slice A6 C.J.map.length c7) C.J.map, rsl kIns (.slice A11 C.J.comb.length c12) C.J.comb, rsl kIns (.slice A16 C.J.red.length c17) C.J.red, rsl (kInt .i64) (.slice A21 C.J.marks.length c22) C.J.marks, rsl kA21 (.slice A26 acts.length c27) acts, gl] := H
    obtain ⟨A121, c122, rfl, hc123, hm124, hp125⟩ := H.fA 1 rfl
    replace H := H.p8
    refine sc (staged_ok r99 A121 c122 vM101 vC102 vR103 vK104 J105 C.w C.t C.o N112.part N112.ep N112 hv117 sb107 vs118) H (lA 0 rfl (fun _ h => h) l0) rfl rfl (e_fn kn57 rfl rfl) ?_
    rintro _ _ w ⟨rfl, rfl⟩ H
    replace H := H.p8.p8.p8.p8.p8.p8.p8.p8
    replace H := redI_shut r99 (.slice A121 J105.us.length c122) vM101 vC102 vR103 vK104 J105 C.w C.t C.o sb107 N112 hv117 vs118 us119 hsets120 H
    replace H := H.h1 (A := redI r99 (.slice A121 J105.us.length c122) vM101 vC102 vR103 vK104 J105 C.w C.t C.o sb107 N112)
    refine s_val rfl rfl (r_ne rfl rfl rfl) (s_k 2 rfl ?_)
    refine s_dec (d := 100) rfl (fun h126 => ?_) (fun h126 => ?_)
    ·exact (h126 (by rw [hRs116]; rfl)).elim
    ·refine s_1 rfl ?_
     replace H := H.p2
     obtain ⟨hv127, vs128, us129, hsets130, H⟩ := redI_open r34 vS36 vM37 vC38 vR39 vK40 J41 C.w C.t C.o sb42 R H
     replace H : Hd _ _ _ [blk r34 (redC vS36 vM37 vC38 vR39 vK40 J41 C.w C.t C.o R.part R.ep R.g hv127 sb42 vs128) 185, osl (kHd kPair) vS36 J41.us, osl kIns vM37 J41.map, osl kIns vC38 J41.comb, osl kIns vR39 J41.red, osl (kInt .i64) vK40 J41.marks, prsS (R.g) hv127, osl (kHd (kInt .i64)) vs128 us129, stgI 253 sb42 (R.st), redI r99 (.slice A121 J105.us.length c122) vM101 vC102 vR103 vK104 J105 C.w C.t C.o sb107 N112, blk b31 [.slice A1 C.J.us.length c2, .int .i64 C.J.parts, .slice A6 C.J.map.length c7, .slice A11 C.J.comb.length c12, .slice A16 C.J.red.length c17, .int .i64 C.J.chunk, .int .i64 C.J.window, .int .i64 C.J.fuel, .slice A21 C.J.marks.length c22, .int .i64 C.w, .int .i64 C.t, .int .i64 C.o] 28] [rsl (kHd kPair) (.slice A1 C.J.us.length c2) C.J.us, rsl (kSl kPair) (.slice A1 C.J.us.length c2) ss, rsl kIns (.slice A6 C.J.map.length c7) C.J.map, rsl kIns (.slice A11 C.J.comb.length c12) C.J.comb, rsl kIns (.slice A16 C.J.red.length c17) C.J.red, rsl (kInt .i64) (.slice A21 C.J.marks.length c22) C.J.marks, rsl kA21 (.slice A26 acts.length c27) acts, gl] := H
     obtain ⟨A131, c132, rfl, hc133, hm134, hp135⟩ := H.fA 1 rfl
     refine sc (merged_ok r34 A131 c132 vM37 vC38 vR39 vK40 J41 C.w C.t C.o R.part R.ep R hv127 sb42 vs128 (by first | exact ⟨home_pos hC (by omega) (by omega), by omega⟩ | assumption | omega | exact hrsm | exact OkR.pairs (by assumption) | exact OkR.mono (by assumption) (by omega) | (unfold In64; omega))) H (lA 0 rfl (fun _ h => h) l0) rfl rfl (e_fn kn51 rfl rfl) ?_
     rintro v136 _ w rfl H
     replace H := H.h1 (A := osl (kInt .i64) v136 (mergedL J41.us.length R)) |>.p9 |>.p9 |>.p9 |>.p9 |>.p9 |>.p9 |>.p9 |>.p9 |>.p9
     replace H := redI_shut r34 (.slice A131 J41.us.length c132) vM37 vC38 vR39 vK40 J41 C.w C.t C.o sb42 R hv127 vs128 us129 hsets130 H
     replace H := H.h1 (A := redI r34 (.slice A131 J41.us.length c132) vM37 vC38 vR39 vK40 J41 C.w C.t C.o sb42 R)
     refine s_1 rfl ?_
     replace H := H.p2
     obtain ⟨hv137, vs138, us139, hsets140, H⟩ := redI_open r99 (.slice A121 J105.us.length c122) vM101 vC102 vR103 vK104 J105 C.w C.t C.o sb107 N112 H
     replace H : Hd _ _ _ [blk r99 (redC (.slice A121 J105.us.length c122) vM101 vC102 vR103 vK104 J105 C.w C.t C.o N112.part N112.ep N112.g hv137 sb107 vs138) 185, osl (kHd kPair) (.slice A121 J105.us.length c122) J105.us, osl kIns vM101 J105.map, osl kIns vC102 J105.comb, osl kIns vR103 J105.red, osl (kInt .i64) vK104 J105.marks, prsS (N112.g) hv137, osl (kHd (kInt .i64)) vs138 us139, stgI 253 sb107 (N112.st), redI r34 (.slice A131 J41.us.length c132) vM37 vC38 vR39 vK40 J41 C.w C.t C.o sb42 R, osl (kInt .i64) v136 (mergedL J41.us.length R), blk b31 [.slice A1 C.J.us.length c2, .int .i64 C.J.parts, .slice A6 C.J.map.length c7, .slice A11 C.J.comb.length c12, .slice A16 C.J.red.length c17, .int .i64 C.J.chunk, .int .i64 C.J.window, .int .i64 C.J.fuel, .slice A21 C.J.marks.length c22, .int .i64 C.w, .int .i64 C.t, .int .i64 C.o] 28] [rsl (kHd kPair) (.slice A1 C.J.us.length c2) C.J.us, rsl (kSl kPair) (.slice A1 C.J.us.length c2) ss, rsl kIns (.slice A6 C.J.map.length c7) C.J.map, rsl kIns (.slice A11 C.J.comb.length c12) C.J.comb, rsl kIns (.slice A16 C.J.red.length c17) C.J.red, rsl (kInt .i64) (.slice A21 C.J.marks.length c22) C.J.marks, rsl kA21 (.slice A26 acts.length c27) acts, gl] := H
     refine sc (merged_ok r99 A121 c122 vM101 vC102 vR103 vK104 J105 C.w C.t C.o N112.part N112.ep N112 hv137 sb107 vs138 (by first | exact ⟨home_pos hC (by omega) (by omega), by omega⟩ | assumption | omega | exact hrsm | exact OkR.pairs (by assumption) | exact OkR.mono (by assumption) (by omega) | (unfold In64; omega))) H (lA 0 rfl (fun _ h => h) l0) rfl rfl (e_fn kn51 rfl rfl) ?_
     rintro v141 _ w rfl H
     replace H := H.h1 (A := osl (kInt .i64) v141 (mergedL J105.us.length N112)) |>.p9 |>.p9 |>.p9 |>.p9 |>.p9 |>.p9 |>.p9 |>.p9 |>.p9
     replace H := redI_shut r99 (.slice A121 J105.us.length c122) vM101 vC102 vR103 vK104 J105 C.w C.t C.o sb107 N112 hv137 vs138 us139 hsets140 H
     replace H := H.h1 (A := redI r99 (.slice A121 J105.us.length c122) vM101 vC102 vR103 vK104 J105 C.w C.t C.o sb107 N112)
     refine sc (sameInts_ok v136 v141 (mergedL J41.us.length R) (mergedL J105.us.length N112)) H (lA 3 rfl own_rd (lA 1 rfl own_rd l0)) rfl rfl (e_fn kn33 rfl rfl) ?_
     rintro _ _ w ⟨rfl, rfl⟩ H
     refine s_val rfl rfl (r_notP rfl rfl) (s_k 2 rfl ?_)
     refine s_dec (d := 108) rfl (fun h142 => ?_) (fun h142 => ?_)
     ·exact (h142 em.symm).elim
     ·refine s_1 rfl ?_
      replace H := H.p2
      replace H : Hd _ _ _ [redI r34 (.slice A131 J41.us.length c132) vM37 vC38 vR39 vK40 J41 C.w C.t C.o sb42 R, redI r99 (.slice A121 J105.us.length c122) vM101 vC102 vR103 vK104 J105 C.w C.t C.o sb107 N112, osl (kInt .i64) v141 (mergedL J105.us.length N112), osl (kInt .i64) v136 (mergedL J41.us.length R), blk b31 [.slice A1 C.J.us.length c2, .int .i64 C.J.parts, .slice A6 C.J.map.length c7, .slice A11 C.J.comb.length c12, .slice A16 C.J.red.length c17, .int .i64 C.J.chunk, .int .i64 C.J.window, .int .i64 C.J.fuel, .slice A21 C.J.marks.length c22, .int .i64 C.w, .int .i64 C.t, .int .i64 C.o] 28] [rsl (kHd kPair) (.slice A1 C.J.us.length c2) C.J.us, rsl (kSl kPair) (.slice A1 C.J.us.length c2) ss, rsl kIns (.slice A6 C.J.map.length c7) C.J.map, rsl kIns (.slice A11 C.J.comb.length c12) C.J.comb, rsl kIns (.slice A16 C.J.red.length c17) C.J.red, rsl (kInt .i64) (.slice A21 C.J.marks.length c22) C.J.marks, rsl kA21 (.slice A26 acts.length c27) acts, gl] := H
      obtain ⟨hv143, vs144, us145, hsets146, H⟩ := redI_open r34 (.slice A131 J41.us.length c132) vM37 vC38 vR39 vK40 J41 C.w C.t C.o sb42 R H
      replace H : Hd _ _ _ [blk r34 (redC (.slice A131 J41.us.length c132) vM37 vC38 vR39 vK40 J41 C.w C.t C.o R.part R.ep R.g hv143 sb42 vs144) 185, osl (kHd kPair) (.slice A131 J41.us.length c132) J41.us, osl kIns vM37 J41.map, osl kIns vC38 J41.comb, osl kIns vR39 J41.red, osl (kInt .i64) vK40 J41.marks, prsS (R.g) hv143, osl (kHd (kInt .i64)) vs144 us145, stgI 253 sb42 (R.st), redI r99 (.slice A121 J105.us.length c122) vM101 vC102 vR103 vK104 J105 C.w C.t C.o sb107 N112, osl (kInt .i64) v141 (mergedL J105.us.length N112), osl (kInt .i64) v136 (mergedL J41.us.length R), blk b31 [.slice A1 C.J.us.length c2, .int .i64 C.J.parts, .slice A6 C.J.map.length c7, .slice A11 C.J.comb.length c12, .slice A16 C.J.red.length c17, .int .i64 C.J.chunk, .int .i64 C.J.window, .int .i64 C.J.fuel, .slice A21 C.J.marks.length c22, .int .i64 C.w, .int .i64 C.t, .int .i64 C.o] 28] [rsl (kHd kPair) (.slice A1 C.J.us.length c2) C.J.us, rsl (kSl kPair) (.slice A1 C.J.us.length c2) ss, rsl kIns (.slice A6 C.J.map.length c7) C.J.map, rsl kIns (.slice A11 C.J.comb.length c12) C.J.comb, rsl kIns (.slice A16 C.J.red.length c17) C.J.red, rsl (kInt .i64) (.slice A21 C.J.marks.length c22) C.J.marks, rsl kA21 (.slice A26 acts.length c27) acts, gl] := H
      have hul_us145 := us_len hsets146 (show OkR _ R by assumption) (by omega)
      have hsl_us145 := us_small hsets146 (show OkR _ R by assumption)
      refine sc (snaps_ok r34 A131 c132 vM37 vC38 vR39 vK40 J41 C.w C.t C.o R.part R.ep R hv143 sb42 vs144 us145 (by first | exact ⟨home_pos hC (by omega) (by omega), by omega⟩ | assumption | omega | exact hrsm | exact OkR.pairs (by assumption) | exact OkR.mono (by assumption) (by omega) | (unfold In64; omega)) (by first | exact ⟨home_pos hC (by omega) (by omega), by omega⟩ | assumption | omega | exact hrsm | exact OkR.pairs (by assumption) | exact OkR.mono (by assumption) (by omega) | (unfold In64; omega)) (by first | exact ⟨home_pos hC (by omega) (by omega), by omega⟩ | assumption | omega | exact hrsm | exact OkR.pairs (by assumption) | exact OkR.mono (by assumption) (by omega) | (unfold In64; omega)) (by first | exact ⟨home_pos hC (by omega) (by omega), by omega⟩ | assumption | omega | exact hrsm | exact OkR.pairs (by assumption) | exact OkR.mono (by assumption) (by omega) | (unfold In64; omega)) (by first | exact ⟨home_pos hC (by omega) (by omega), by omega⟩ | assumption | omega | exact hrsm | exact OkR.pairs (by assumption) | exact OkR.mono (by assumption) (by omega) | (unfold In64; omega)) (by first | exact ⟨home_pos hC (by omega) (by omega), by omega⟩ | assumption | omega | exact hrsm | exact OkR.pairs (by assumption) | exact OkR.mono (by assumption) (by omega) | (unfold In64; omega)) (by first | exact ⟨home_pos hC (by omega) (by omega), by omega⟩ | assumption | omega | exact hrsm | exact OkR.pairs (by assumption) | exact OkR.mono (by assumption) (by omega) | (unfold In64; omega))) H (lA 0 rfl (fun _ h => h) (lA 6 rfl (fun _ h => h) (lA 4 rfl own_rd (lA 7 rfl own_rd (lR 7 rfl l0))))) rfl rfl (e_fn kn59 rfl rfl) ?_
      rintro v149 _ w ⟨zs147, rfl, hf148⟩ H
      replace H := H.h1 (A := osl kSnap v149 zs147) |>.p9 |>.p9 |>.p9 |>.p9 |>.p9 |>.p9 |>.p9 |>.p9 |>.p9
      replace H := redI_shut r34 (.slice A131 J41.us.length c132) vM37 vC38 vR39 vK40 J41 C.w C.t C.o sb42 R hv143 vs144 us145 hsets146 H
      replace H := H.h1 (A := redI r34 (.slice A131 J41.us.length c132) vM37 vC38 vR39 vK40 J41 C.w C.t C.o sb42 R)
      refine s_1 rfl ?_
      replace H := H.p2
      obtain ⟨hv150, vs151, us152, hsets153, H⟩ := redI_open r99 (.slice A121 J105.us.length c122) vM101 vC102 vR103 vK104 J105 C.w C.t C.o sb107 N112 H
      replace H : Hd _ _ _ [blk r99 (redC (.slice A121 J105.us.length c122) vM101 vC102 vR103 vK104 J105 C.w C.t C.o N112.part N112.ep N112.g hv150 sb107 vs151) 185, osl (kHd kPair) (.slice A121 J105.us.length c122) J105.us, osl kIns vM101 J105.map, osl kIns vC102 J105.comb, osl kIns vR103 J105.red, osl (kInt .i64) vK104 J105.marks, prsS (N112.g) hv150, osl (kHd (kInt .i64)) vs151 us152, stgI 253 sb107 (N112.st), redI r34 (.slice A131 J41.us.length c132) vM37 vC38 vR39 vK40 J41 C.w C.t C.o sb42 R, osl kSnap v149 zs147, osl (kInt .i64) v141 (mergedL J105.us.length N112), osl (kInt .i64) v136 (mergedL J41.us.length R), blk b31 [.slice A1 C.J.us.length c2, .int .i64 C.J.parts, .slice A6 C.J.map.length c7, .slice A11 C.J.comb.length c12, .slice A16 C.J.red.length c17, .int .i64 C.J.chunk, .int .i64 C.J.window, .int .i64 C.J.fuel, .slice A21 C.J.marks.length c22, .int .i64 C.w, .int .i64 C.t, .int .i64 C.o] 28] [rsl (kHd kPair) (.slice A1 C.J.us.length c2) C.J.us, rsl (kSl kPair) (.slice A1 C.J.us.length c2) ss, rsl kIns (.slice A6 C.J.map.length c7) C.J.map, rsl kIns (.slice A11 C.J.comb.length c12) C.J.comb, rsl kIns (.slice A16 C.J.red.length c17) C.J.red, rsl (kInt .i64) (.slice A21 C.J.marks.length c22) C.J.marks, rsl kA21 (.slice A26 acts.length c27) acts, gl] := H
      have hul_us152 := us_len hsets153 (show OkR _ N112 by assumption) (by omega)
      have hsl_us152 := us_small hsets153 (show OkR _ N112 by assumption)
      refine sc (snaps_ok r99 A121 c122 vM101 vC102 vR103 vK104 J105 C.w C.t C.o N112.part N112.ep N112 hv150 sb107 vs151 us152 (by first | exact ⟨home_pos hC (by omega) (by omega), by omega⟩ | assumption | omega | exact hrsm | exact OkR.pairs (by assumption) | exact OkR.mono (by assumption) (by omega) | (unfold In64; omega)) (by first | exact ⟨home_pos hC (by omega) (by omega), by omega⟩ | assumption | omega | exact hrsm | exact OkR.pairs (by assumption) | exact OkR.mono (by assumption) (by omega) | (unfold In64; omega)) (by first | exact ⟨home_pos hC (by omega) (by omega), by omega⟩ | assumption | omega | exact hrsm | exact OkR.pairs (by assumption) | exact OkR.mono (by assumption) (by omega) | (unfold In64; omega)) (by first | exact ⟨home_pos hC (by omega) (by omega), by omega⟩ | assumption | omega | exact hrsm | exact OkR.pairs (by assumption) | exact OkR.mono (by assumption) (by omega) | (unfold In64; omega)) (by first | exact ⟨home_pos hC (by omega) (by omega), by omega⟩ | assumption | omega | exact hrsm | exact OkR.pairs (by assumption) | exact OkR.mono (by assumption) (by omega) | (unfold In64; omega)) (by first | exact ⟨home_pos hC (by omega) (by omega), by omega⟩ | assumption | omega | exact hrsm | exact OkR.pairs (by assumption) | exact OkR.mono (by assumption) (by omega) | (unfold In64; omega)) (by first | exact ⟨home_pos hC (by omega) (by omega), by omega⟩ | assumption | omega | exact hrsm | exact OkR.pairs (by assumption) | exact OkR.mono (by assumption) (by omega) | (unfold In64; omega))) H (lA 0 rfl (fun _ h => h) (lA 6 rfl (fun _ h => h) (lA 4 rfl own_rd (lA 7 rfl own_rd (lR 7 rfl l0))))) rfl rfl (e_fn kn59 rfl rfl) ?_
      rintro v156 _ w ⟨zs154, rfl, hf155⟩ H
      replace H := H.h1 (A := osl kSnap v156 zs154) |>.p9 |>.p9 |>.p9 |>.p9 |>.p9 |>.p9 |>.p9 |>.p9 |>.p9
      replace H := redI_shut r99 (.slice A121 J105.us.length c122) vM101 vC102 vR103 vK104 J105 C.w C.t C.o sb107 N112 hv150 vs151 us152 hsets153 H
      replace H := H.h1 (A := redI r99 (.slice A121 J105.us.length c122) vM101 vC102 vR103 vK104 J105 C.w C.t C.o sb107 N112)
      refine sc (sameSnaps_ok v149 zs147 v156 zs154) H (lA 3 rfl own_rd (lA 1 rfl own_rd l0)) rfl rfl (e_fn kn58 rfl rfl) ?_
      rintro _ _ w ⟨rfl, rfl⟩ H
      refine s_val rfl rfl (r_notP rfl rfl) (s_1 rfl (s_nil (q_then ?_)))
      replace H := H.p6.p3.p2.k3
      refine c_dec rfl (fun h157 => ?_) (fun h157 => ?_)
      ·exact (h157 (by rw [hf148, hf155]; exact es.symm)).elim
      ·refine c_skip (q_then (c_seq (c_reg (s_1 rfl ?_))))
       replace H := H.p1
       obtain ⟨hv158, vs159, us160, hsets161, H⟩ := redI_open r34 (.slice A131 J41.us.length c132) vM37 vC38 vR39 vK40 J41 C.w C.t C.o sb42 R H
       replace H : Hd _ _ _ [blk r34 (redC (.slice A131 J41.us.length c132) vM37 vC38 vR39 vK40 J41 C.w C.t C.o R.part R.ep R.g hv158 sb42 vs159) 185, osl (kHd kPair) (.slice A131 J41.us.length c132) J41.us, osl kIns vM37 J41.map, osl kIns vC38 J41.comb, osl kIns vR39 J41.red, osl (kInt .i64) vK40 J41.marks, prsS (R.g) hv158, osl (kHd (kInt .i64)) vs159 us160, stgI 253 sb42 (R.st), redI r99 (.slice A121 J105.us.length c122) vM101 vC102 vR103 vK104 J105 C.w C.t C.o sb107 N112, blk b31 [.slice A1 C.J.us.length c2, .int .i64 C.J.parts, .slice A6 C.J.map.length c7, .slice A11 C.J.comb.length c12, .slice A16 C.J.red.length c17, .int .i64 C.J.chunk, .int .i64 C.J.window, .int .i64 C.J.fuel, .slice A21 C.J.marks.length c22, .int .i64 C.w, .int .i64 C.t, .int .i64 C.o] 28] [rsl (kHd kPair) (.slice A1 C.J.us.length c2) C.J.us, rsl (kSl kPair) (.slice A1 C.J.us.length c2) ss, rsl kIns (.slice A6 C.J.map.length c7) C.J.map, rsl kIns (.slice A11 C.J.comb.length c12) C.J.comb, rsl kIns (.slice A16 C.J.red.length c17) C.J.red, rsl (kInt .i64) (.slice A21 C.J.marks.length c22) C.J.marks, rsl kA21 (.slice A26 acts.length c27) acts, gl] := H
       refine sc (output_ok r34 A131 c132 vM37 vC38 vR39 vK40 J41 C.w C.t C.o R.part R.ep R hv158 sb42 vs159 (by first | exact ⟨home_pos hC (by omega) (by omega), by omega⟩ | assumption | omega | exact hrsm | exact OkR.pairs (by assumption) | exact OkR.mono (by assumption) (by omega) | (unfold In64; omega)) (by first | exact ⟨home_pos hC (by omega) (by omega), by omega⟩ | assumption | omega | exact hrsm | exact OkR.pairs (by assumption) | exact OkR.mono (by assumption) (by omega) | (unfold In64; omega)) (by first | exact ⟨home_pos hC (by omega) (by omega), by omega⟩ | assumption | omega | exact hrsm | exact OkR.pairs (by assumption) | exact OkR.mono (by assumption) (by omega) | (unfold In64; omega)) (by first | exact ⟨home_pos hC (by omega) (by omega), by omega⟩ | assumption | omega | exact hrsm | exact OkR.pairs (by assumption) | exact OkR.mono (by assumption) (by omega) | (unfold In64; omega))) H (lA 0 rfl (fun _ h => h) (lA 6 rfl (fun _ h => h) (lA 4 rfl own_rd (lR 7 rfl l0)))) rfl rfl (e_fn kn60 rfl rfl) ?_
       rintro _ _ w ⟨u162, rfl, rfl⟩ H
       replace H := H.h1 (A := osl kPair u162 ((outR dg J41 R).1)) |>.p9 |>.p9 |>.p9 |>.p9 |>.p9 |>.p9 |>.p9 |>.p9 |>.p9
       replace H := redI_shut r34 (.slice A131 J41.us.length c132) vM37 vC38 vR39 vK40 J41 C.w C.t C.o sb42 R hv158 vs159 us160 hsets161 H
       replace H := H.h1 (A := redI r34 (.slice A131 J41.us.length c132) vM37 vC38 vR39 vK40 J41 C.w C.t C.o sb42 R)
       refine s_k 7 rfl (s_nil (q_then (c_seq (c_reg (s_1 rfl ?_)))))
       replace H := H.p2
       obtain ⟨hv163, vs164, us165, hsets166, H⟩ := redI_open r99 (.slice A121 J105.us.length c122) vM101 vC102 vR103 vK104 J105 C.w C.t C.o sb107 N112 H
       replace H : Hd _ _ _ [blk r99 (redC (.slice A121 J105.us.length c122) vM101 vC102 vR103 vK104 J105 C.w C.t C.o N112.part N112.ep N112.g hv163 sb107 vs164) 185, osl (kHd kPair) (.slice A121 J105.us.length c122) J105.us, osl kIns vM101 J105.map, osl kIns vC102 J105.comb, osl kIns vR103 J105.red, osl (kInt .i64) vK104 J105.marks, prsS (N112.g) hv163, osl (kHd (kInt .i64)) vs164 us165, stgI 253 sb107 (N112.st), redI r34 (.slice A131 J41.us.length c132) vM37 vC38 vR39 vK40 J41 C.w C.t C.o sb42 R, osl kPair u162 ((outR dg J41 R).1), blk b31 [.slice A1 C.J.us.length c2, .int .i64 C.J.parts, .slice A6 C.J.map.length c7, .slice A11 C.J.comb.length c12, .slice A16 C.J.red.length c17, .int .i64 C.J.chunk, .int .i64 C.J.window, .int .i64 C.J.fuel, .slice A21 C.J.marks.length c22, .int .i64 C.w, .int .i64 C.t, .int .i64 C.o] 28] [rsl (kHd kPair) (.slice A1 C.J.us.length c2) C.J.us, rsl (kSl kPair) (.slice A1 C.J.us.length c2) ss, rsl kIns (.slice A6 C.J.map.length c7) C.J.map, rsl kIns (.slice A11 C.J.comb.length c12) C.J.comb, rsl kIns (.slice A16 C.J.red.length c17) C.J.red, rsl (kInt .i64) (.slice A21 C.J.marks.length c22) C.J.marks, rsl kA21 (.slice A26 acts.length c27) acts, gl] := H
       refine sc (output_ok r99 A121 c122 vM101 vC102 vR103 vK104 J105 C.w C.t C.o N112.part N112.ep N112 hv163 sb107 vs164 (by first | exact ⟨home_pos hC (by omega) (by omega), by omega⟩ | assumption | omega | exact hrsm | exact OkR.pairs (by assumption) | exact OkR.mono (by assumption) (by omega) | (unfold In64; omega)) (by first | exact ⟨home_pos hC (by omega) (by omega), by omega⟩ | assumption | omega | exact hrsm | exact OkR.pairs (by assumption) | exact OkR.mono (by assumption) (by omega) | (unfold In64; omega)) (by first | exact ⟨home_pos hC (by omega) (by omega), by omega⟩ | assumption | omega | exact hrsm | exact OkR.pairs (by assumption) | exact OkR.mono (by assumption) (by omega) | (unfold In64; omega)) (by first | exact ⟨home_pos hC (by omega) (by omega), by omega⟩ | assumption | omega | exact hrsm | exact OkR.pairs (by assumption) | exact OkR.mono (by assumption) (by omega) | (unfold In64; omega))) H (lA 0 rfl (fun _ h => h) (lA 6 rfl (fun _ h => h) (lA 4 rfl own_rd (lR 7 rfl l0)))) rfl rfl (e_fn kn60 rfl rfl) ?_
       rintro _ _ w ⟨u167, rfl, rfl⟩ H
       replace H := H.h1 (A := osl kPair u167 ((outR dg J105 N112).1)) |>.p9 |>.p9 |>.p9 |>.p9 |>.p9 |>.p9 |>.p9 |>.p9 |>.p9
       replace H := redI_shut r99 (.slice A121 J105.us.length c122) vM101 vC102 vR103 vK104 J105 C.w C.t C.o sb107 N112 hv163 vs164 us165 hsets166 H
       replace H := H.h1 (A := redI r99 (.slice A121 J105.us.length c122) vM101 vC102 vR103 vK104 J105 C.w C.t C.o sb107 N112)
       refine s_k 7 rfl (s_nil (q_then (c_seq (c_seq (c_reg (s_1 rfl (s_nil (q_then (c_block ?_)))))))))
       replace H := H.p3.p1.p3.p4
       refine c_loop (σ := Nat) (fun j => [(3, .int .i64 e0), (4, .pointer (some ⟨b31, 0, none⟩)), (9, .pointer (some ⟨r34, 0, none⟩)), (15, .pointer (some ⟨r99, 0, none⟩)), (17, u162), (18, .int .i64 ((outR dg J41 R).2.1)), (19, .bool ((outR dg J41 R).2.2)), (20, u167), (21, .int .i64 ((outR dg J105 N112).2.1)), (22, .bool ((outR dg J105 N112).2.2)), (23, .int .i64 ((j : Nat) : Int))]) (fun j w => (Hd w0 F0 w [blk b31 [.slice A1 C.J.us.length c2, .int .i64 C.J.parts, .slice A6 C.J.map.length c7, .slice A11 C.J.comb.length c12, .slice A16 C.J.red.length c17, .int .i64 C.J.chunk, .int .i64 C.J.window, .int .i64 C.J.fuel, .slice A21 C.J.marks.length c22, .int .i64 C.w, .int .i64 C.t, .int .i64 C.o] 28, redI r34 (.slice A131 J41.us.length c132) vM37 vC38 vR39 vK40 J41 C.w C.t C.o sb42 R, redI r99 (.slice A121 J105.us.length c122) vM101 vC102 vR103 vK104 J105 C.w C.t C.o sb107 N112, osl kPair u162 ((outR dg J41 R).1), osl kPair u167 ((outR dg J105 N112).1)] [rsl (kHd kPair) (.slice A1 C.J.us.length c2) C.J.us, rsl (kSl kPair) (.slice A1 C.J.us.length c2) ss, rsl kIns (.slice A6 C.J.map.length c7) C.J.map, rsl kIns (.slice A11 C.J.comb.length c12) C.J.comb, rsl kIns (.slice A16 C.J.red.length c17) C.J.red, rsl (kInt .i64) (.slice A21 C.J.marks.length c22) C.J.marks, rsl kA21 (.slice A26 acts.length c27) acts, gl]) ∧ (j ≤ C.J.us.length)) (fun j => C.J.us.length - j) 0 ⟨rfl, rfl, rfl, rfl, rfl, rfl, rfl, rfl, rfl, rfl, rfl, trivial⟩ ⟨H, Nat.zero_le _⟩ ?_
       rintro j w ⟨H, hj⟩
       refine c_seq (c_seq (c_reg (s_1 rfl (s_val rfl rfl (r_fa rfl fo28_0 rfl) (s_val rfl rfl (r_fa rfl fo26_0 rfl) (s_val rfl rfl (r_ld rfl ty22 rfl (H.cellI 0 rfl rfl)) (s_val rfl rfl (r_lenL rfl un22 rfl) (s_val rfl rfl (r_lt rfl rfl rfl) (s_nil (q_then ?_))))))))))
       refine c_dec rfl (fun h168 => ?_) (fun h168 => ?_)
       ·refine c_skip (q_then (c_seq (c_block (c_seq (c_reg (s_k 2 rfl ?_))))))
        replace H := H.p1
        obtain ⟨hv169, vs170, us171, hsets172, H⟩ := redI_open r34 (.slice A131 J41.us.length c132) vM37 vC38 vR39 vK40 J41 C.w C.t C.o sb42 R H
        replace H : Hd _ _ _ [blk r34 (redC (.slice A131 J41.us.length c132) vM37 vC38 vR39 vK40 J41 C.w C.t C.o R.part R.ep R.g hv169 sb42 vs170) 185, osl (kHd kPair) (.slice A131 J41.us.length c132) J41.us, osl kIns vM37 J41.map, osl kIns vC38 J41.comb, osl kIns vR39 J41.red, osl (kInt .i64) vK40 J41.marks, prsS (R.g) hv169, osl (kHd (kInt .i64)) vs170 us171, stgI 253 sb42 (R.st), blk b31 [.slice A1 C.J.us.length c2, .int .i64 C.J.parts, .slice A6 C.J.map.length c7, .slice A11 C.J.comb.length c12, .slice A16 C.J.red.length c17, .int .i64 C.J.chunk, .int .i64 C.J.window, .int .i64 C.J.fuel, .slice A21 C.J.marks.length c22, .int .i64 C.w, .int .i64 C.t, .int .i64 C.o] 28, redI r99 (.slice A121 J105.us.length c122) vM101 vC102 vR103 vK104 J105 C.w C.t C.o sb107 N112, osl kPair u162 ((outR dg J41 R).1), osl kPair u167 ((outR dg J105 N112).1)] [rsl (kHd kPair) (.slice A1 C.J.us.length c2) C.J.us, rsl (kSl kPair) (.slice A1 C.J.us.length c2) ss, rsl kIns (.slice A6 C.J.map.length c7) C.J.map, rsl kIns (.slice A11 C.J.comb.length c12) C.J.comb, rsl kIns (.slice A16 C.J.red.length c17) C.J.red, rsl (kInt .i64) (.slice A21 C.J.marks.length c22) C.J.marks, rsl kA21 (.slice A26 acts.length c27) acts, gl] := H
        refine sc (rpairs_ok r34 A131 c132 vM37 vC38 vR39 vK40 J41 C.w C.t C.o R.part R.ep R hv169 sb42 vs170 ((j : Nat) : Int) (by first | exact ⟨home_pos hC (by omega) (by omega), by omega⟩ | assumption | omega | exact hrsm | exact OkR.pairs (by assumption) | exact OkR.mono (by assumption) (by omega) | (unfold In64; omega)) (by first | exact ⟨home_pos hC (by omega) (by omega), by omega⟩ | assumption | omega | exact hrsm | exact OkR.pairs (by assumption) | exact OkR.mono (by assumption) (by omega) | (unfold In64; omega))) H (lA 0 rfl (fun _ h => h) (lA 6 rfl (fun _ h => h) l0)) rfl rfl (e_fn kn52 rfl rfl) ?_
        rintro v173 _ w rfl H
        replace H := H.h1 (A := osl kPair v173 (pairsR J41.us.length R ((j : Nat) : Int))) |>.p9 |>.p9 |>.p9 |>.p9 |>.p9 |>.p9 |>.p9 |>.p9 |>.p9
        replace H := redI_shut r34 (.slice A131 J41.us.length c132) vM37 vC38 vR39 vK40 J41 C.w C.t C.o sb42 R hv169 vs170 us171 hsets172 H
        replace H := H.h1 (A := redI r34 (.slice A131 J41.us.length c132) vM37 vC38 vR39 vK40 J41 C.w C.t C.o sb42 R)
        refine s_k 2 rfl ?_
        replace H := H.p3
        obtain ⟨hv174, vs175, us176, hsets177, H⟩ := redI_open r99 (.slice A121 J105.us.length c122) vM101 vC102 vR103 vK104 J105 C.w C.t C.o sb107 N112 H
        replace H : Hd _ _ _ [blk r99 (redC (.slice A121 J105.us.length c122) vM101 vC102 vR103 vK104 J105 C.w C.t C.o N112.part N112.ep N112.g hv174 sb107 vs175) 185, osl (kHd kPair) (.slice A121 J105.us.length c122) J105.us, osl kIns vM101 J105.map, osl kIns vC102 J105.comb, osl kIns vR103 J105.red, osl (kInt .i64) vK104 J105.marks, prsS (N112.g) hv174, osl (kHd (kInt .i64)) vs175 us176, stgI 253 sb107 (N112.st), redI r34 (.slice A131 J41.us.length c132) vM37 vC38 vR39 vK40 J41 C.w C.t C.o sb42 R, osl kPair v173 (pairsR J41.us.length R ((j : Nat) : Int)), blk b31 [.slice A1 C.J.us.length c2, .int .i64 C.J.parts, .slice A6 C.J.map.length c7, .slice A11 C.J.comb.length c12, .slice A16 C.J.red.length c17, .int .i64 C.J.chunk, .int .i64 C.J.window, .int .i64 C.J.fuel, .slice A21 C.J.marks.length c22, .int .i64 C.w, .int .i64 C.t, .int .i64 C.o] 28, osl kPair u162 ((outR dg J41 R).1), osl kPair u167 ((outR dg J105 N112).1)] [rsl (kHd kPair) (.slice A1 C.J.us.length c2) C.J.us, rsl (kSl kPair) (.slice A1 C.J.us.length c2) ss, rsl kIns (.slice A6 C.J.map.length c7) C.J.map, rsl kIns (.slice A11 C.J.comb.length c12) C.J.comb, rsl kIns (.slice A16 C.J.red.length c17) C.J.red, rsl (kInt .i64) (.slice A21 C.J.marks.length c22) C.J.marks, rsl kA21 (.slice A26 acts.length c27) acts, gl] := H
        refine sc (rpairs_ok r99 A121 c122 vM101 vC102 vR103 vK104 J105 C.w C.t C.o N112.part N112.ep N112 hv174 sb107 vs175 ((j : Nat) : Int) (by first | exact ⟨home_pos hC (by omega) (by omega), by omega⟩ | assumption | omega | exact hrsm | exact OkR.pairs (by assumption) | exact OkR.mono (by assumption) (by omega) | (unfold In64; omega)) (by first | exact ⟨home_pos hC (by omega) (by omega), by omega⟩ | assumption | omega | exact hrsm | exact OkR.pairs (by assumption) | exact OkR.mono (by assumption) (by omega) | (unfold In64; omega))) H (lA 0 rfl (fun _ h => h) (lA 6 rfl (fun _ h => h) l0)) rfl rfl (e_fn kn52 rfl rfl) ?_
        rintro v178 _ w rfl H
        replace H := H.h1 (A := osl kPair v178 (pairsR J105.us.length N112 ((j : Nat) : Int))) |>.p9 |>.p9 |>.p9 |>.p9 |>.p9 |>.p9 |>.p9 |>.p9 |>.p9
        replace H := redI_shut r99 (.slice A121 J105.us.length c122) vM101 vC102 vR103 vK104 J105 C.w C.t C.o sb107 N112 hv174 vs175 us176 hsets177 H
        replace H := H.h1 (A := redI r99 (.slice A121 J105.us.length c122) vM101 vC102 vR103 vK104 J105 C.w C.t C.o sb107 N112)
        refine sc (samePairs_ok v173 v178 (pairsR J41.us.length R ((j : Nat) : Int)) (pairsR J105.us.length N112 ((j : Nat) : Int))) H (lA 3 rfl own_rd (lA 1 rfl own_rd l0)) rfl rfl (e_fn kn25 rfl rfl) ?_
        rintro _ _ w ⟨rfl, rfl⟩ H
        refine s_val rfl rfl (r_notP rfl rfl) (s_nil (q_then ?_))
        replace H := H.sel 7 [0, 2, 4, 5, 6] [1, 3] rfl (by kernel_rfl)
        replace H : Hd _ _ _ [redI r99 (.slice A121 J105.us.length c122) vM101 vC102 vR103 vK104 J105 C.w C.t C.o sb107 N112, redI r34 (.slice A131 J41.us.length c132) vM37 vC38 vR39 vK40 J41 C.w C.t C.o sb42 R, blk b31 [.slice A1 C.J.us.length c2, .int .i64 C.J.parts, .slice A6 C.J.map.length c7, .slice A11 C.J.comb.length c12, .slice A16 C.J.red.length c17, .int .i64 C.J.chunk, .int .i64 C.J.window, .int .i64 C.J.fuel, .slice A21 C.J.marks.length c22, .int .i64 C.w, .int .i64 C.t, .int .i64 C.o] 28, osl kPair u162 ((outR dg J41 R).1), osl kPair u167 ((outR dg J105 N112).1)] [rsl (kHd kPair) (.slice A1 C.J.us.length c2) C.J.us, rsl (kSl kPair) (.slice A1 C.J.us.length c2) ss, rsl kIns (.slice A6 C.J.map.length c7) C.J.map, rsl kIns (.slice A11 C.J.comb.length c12) C.J.comb, rsl kIns (.slice A16 C.J.red.length c17) C.J.red, rsl (kInt .i64) (.slice A21 C.J.marks.length c22) C.J.marks, rsl kA21 (.slice A26 acts.length c27) acts, gl] := H
        refine c_dec rfl (fun h179 => ?_) (fun h179 => ?_)
        ·exact (h179 (ep _).symm).elim
        ·refine c_skip (q_blockN (q_then (c_reg (s_1 rfl (s_val rfl rfl (r_add (z := ((j + 1 : Nat) : Int)) rfl rfl rfl (by rw [w64 (by omega) (by omega)]; omega)) (s_1 rfl (s_nil ?_)))))))
         replace H := H.p1.p2
         exact q_round (s := j) (j + 1) ⟨rfl, rfl, rfl, rfl, rfl, rfl, rfl, rfl, rfl, rfl, rfl, trivial⟩ ⟨H, by (try dsimp only); omega⟩ (by (try dsimp only); omega)
       ·refine c_exit (q_thenE (q_thenE (q_blockE (q_then ?_))))
        replace H := H.p4.p4.p4.k3
        refine c_seq (c_reg (s_k 2 rfl (sc (samePairs_ok u162 u167 ((outR dg J41 R).1) ((outR dg J105 N112).1)) H (lA 1 rfl own_rd (lA 2 rfl own_rd l0)) rfl rfl (e_fn kn25 rfl rfl) ?_)))
        rintro _ _ w ⟨rfl, rfl⟩ H
        refine s_1 rfl ?_
        refine s_dec (d := 147) rfl (fun h180 => ?_) (fun h180 => ?_)
        ·refine s_k 2 rfl (s_val rfl rfl (r_eq rfl rfl rfl) (s_k 2 rfl ?_))
         refine s_dec (d := 152) rfl (fun h181 => ?_) (fun h181 => ?_)
         ·refine s_k 2 rfl (s_val rfl rfl (r_beq rfl un4 rfl rfl) (s_k 2 rfl ?_))
          refine s_dec (d := 157) rfl (fun h182 => ?_) (fun h182 => ?_)
          ·refine s_1 rfl ?_
           obtain ⟨hv183, vs184, us185, hsets186, H⟩ := redI_open r99 (.slice A121 J105.us.length c122) vM101 vC102 vR103 vK104 J105 C.w C.t C.o sb107 N112 H
           replace H : Hd _ _ _ [blk r99 (redC (.slice A121 J105.us.length c122) vM101 vC102 vR103 vK104 J105 C.w C.t C.o N112.part N112.ep N112.g hv183 sb107 vs184) 185, osl (kHd kPair) (.slice A121 J105.us.length c122) J105.us, osl kIns vM101 J105.map, osl kIns vC102 J105.comb, osl kIns vR103 J105.red, osl (kInt .i64) vK104 J105.marks, prsS (N112.g) hv183, osl (kHd (kInt .i64)) vs184 us185, stgI 253 sb107 (N112.st), osl kPair u162 ((outR dg J41 R).1), osl kPair u167 ((outR dg J105 N112).1)] [rsl (kHd kPair) (.slice A1 C.J.us.length c2) C.J.us, rsl (kSl kPair) (.slice A1 C.J.us.length c2) ss, rsl kIns (.slice A6 C.J.map.length c7) C.J.map, rsl kIns (.slice A11 C.J.comb.length c12) C.J.comb, rsl kIns (.slice A16 C.J.red.length c17) C.J.red, rsl (kInt .i64) (.slice A21 C.J.marks.length c22) C.J.marks, rsl kA21 (.slice A26 acts.length c27) acts, gl] := H
           refine sc (hello_ok r99 A121 c122 vM101 vC102 vR103 vK104 J105 C.w C.t C.o N112.part N112.ep N112 hv183 sb107 vs184 (by first | exact ⟨home_pos hC (by omega) (by omega), by omega⟩ | assumption | omega | exact hrsm | exact OkR.pairs (by assumption) | exact OkR.mono (by assumption) (by omega) | (unfold In64; omega)) (by first | exact ⟨home_pos hC (by omega) (by omega), by omega⟩ | assumption | omega | exact hrsm | exact OkR.pairs (by assumption) | exact OkR.mono (by assumption) (by omega) | (unfold In64; omega)) (by first | exact ⟨home_pos hC (by omega) (by omega), by omega⟩ | assumption | omega | exact hrsm | exact OkR.pairs (by assumption) | exact OkR.mono (by assumption) (by omega) | (unfold In64; omega)) (by first | exact ⟨home_pos hC (by omega) (by omega), by omega⟩ | assumption | omega | exact hrsm | exact OkR.pairs (by assumption) | exact OkR.mono (by assumption) (by omega) | (unfold In64; omega)) (by first | exact ⟨home_pos hC (by omega) (by omega), by omega⟩ | assumption | omega | exact hrsm | exact OkR.pairs (by assumption) | exact OkR.mono (by assumption) (by omega) | (unfold In64; omega)) (by first | exact ⟨home_pos hC (by omega) (by omega), by omega⟩ | assumption | omega | exact hrsm | exact OkR.pairs (by assumption) | exact OkR.mono (by assumption) (by omega) | (unfold In64; omega))) H (lA 0 rfl (fun _ h => h) (lA 6 rfl (fun _ h => h) (lA 4 rfl own_rd (lR 7 rfl l0)))) rfl rfl (e_fn kn61 rfl rfl) ?_
           rintro _ _ w ⟨u187, rfl, rfl⟩ H
           replace H := H.h1 (A := osl (kInt .i64) u187 ((helloR dg J105 N112).set)) |>.p9 |>.p9 |>.p9 |>.p9 |>.p9 |>.p9 |>.p9 |>.p9 |>.p9
           replace H := redI_shut r99 (.slice A121 J105.us.length c122) vM101 vC102 vR103 vK104 J105 C.w C.t C.o sb107 N112 hv183 vs184 us185 hsets186 H
           replace H := H.h1 (A := redI r99 (.slice A121 J105.us.length c122) vM101 vC102 vR103 vK104 J105 C.w C.t C.o sb107 N112)
           refine s_val rfl rfl (r_fdS rfl fd64_6 rfl rfl) (s_1 rfl (sc (low_ok e0 50 (by first | assumption | (unfold In64; omega)) (by omega) (by omega)) H l0 rfl rfl (e_fn kn22 rfl rfl) ?_))
           rintro _ _ w ⟨rfl, rfl⟩ H
           obtain ⟨lo188, hl189, hl190, hl191⟩ : ∃ z : Int, IntKind.u64.wrap e0 % 50 = z ∧ 0 ≤ z ∧ z < 50 := ⟨_, rfl, Int.emod_nonneg _ (by omega), Int.emod_lt_of_pos _ (by omega)⟩
           rw [hl189]
           refine s_val rfl rfl (r_add (z := 2 + lo188) rfl rfl rfl (w64 (by omega) (by omega))) (s_val rfl rfl (r_eq rfl rfl rfl) (s_k 2 rfl ?_))
           refine s_dec (d := 166) rfl (fun h192 => ?_) (fun h192 => ?_)
           ·refine sc (awake21_ok) H (lR 7 rfl l0) rfl rfl (e_fn kn47 rfl rfl) ?_
            rintro _ _ w ⟨rfl, rfl⟩ H
            refine s_k 2 rfl (s_nil (q_then ?_))
            replace H := H.nil
            replace H : Hd _ _ _ [] [rsl (kHd kPair) (.slice A1 C.J.us.length c2) C.J.us, rsl (kSl kPair) (.slice A1 C.J.us.length c2) ss, rsl kIns (.slice A6 C.J.map.length c7) C.J.map, rsl kIns (.slice A11 C.J.comb.length c12) C.J.comb, rsl kIns (.slice A16 C.J.red.length c17) C.J.red, rsl (kInt .i64) (.slice A21 C.J.marks.length c22) C.J.marks, rsl kA21 (.slice A26 acts.length c27) acts, gl] := H
            exact c_ret (q_ret1 rfl rfl (fin ⟨rfl, rfl⟩ H))
           ·exact (h192 (by rw [hello_ep, hRe115]; omega)).elim
          ·exact (h182 (by rw [eo])).elim
         ·exact (h181 (by rw [eo])).elim
        ·exact (h180 (by rw [eo])).elim
theorem reducerRecords_ok (vS vM vC vR vK : Value) (ss : List (List Pair)) (map comb red : List Ins) (marks : List Int) (parts chunk window fuel : Int) (wj : ((∀ x ∈ ss, (∀ p ∈ x, p.key.size ≤ 9223372036854775807 ∧ p.val.size ≤ 9223372036854775807) ∧ x.length ≤ 9223372036854775807) ∧ ss.length ≤ 9223372036854775807) ∧ ((∀ p ∈ map, In64 p.op ∧ In64 p.a ∧ p.s.size ≤ 9223372036854775807) ∧ map.length ≤ 9223372036854775807) ∧ ((∀ p ∈ comb, In64 p.op ∧ In64 p.a ∧ p.s.size ≤ 9223372036854775807) ∧ comb.length ≤ 9223372036854775807) ∧ ((∀ p ∈ red, In64 p.op ∧ In64 p.a ∧ p.s.size ≤ 9223372036854775807) ∧ red.length ≤ 9223372036854775807) ∧ (∀ x ∈ marks, In64 x) ∧ marks.length ≤ 9223372036854775807) (wn : In64 parts ∧ In64 chunk ∧ In64 window ∧ In64 fuel) (cw ct co : Int) (wc : In64 cw ∧ In64 ct ∧ In64 co) (k1 : Int) (g1 : In64 k1) (va : Value) (acts : List (Two A21H)) (wacts : (∀ x ∈ acts, (InT (fun a : A21H => InM a.m ∧ In64 a.n) (fun p : Pair => p.key.size ≤ 9223372036854775807 ∧ p.val.size ≤ 9223372036854775807)) x) ∧ acts.length ≤ 9223372036854775807) (e0 : Int) (we : In64 e0) :
  Cn Tryz.prog 9 [.agg #[vS, .int .i64 parts, vM, vC, vR, .int .i64 chunk, .int .i64 window, .int .i64 fuel, vK, .int .i64 cw, .int .i64 ct, .int .i64 co], .int .i64 k1, va, .int .i64 e0] [] [rsl (kSl kPair) vS ss, rsl kIns vM map, rsl kIns vC comb, rsl kIns vR red, rsl (kInt .i64) vK marks, rsl kA21 va acts, gl] (fun v Bs => v = .bool true ∧ Bs = []) :=
 Cn.heads0 fun us hus => reducerRecordsC_ok vS vM vC vR vK ⟨⟨us, parts, map, comb, red, chunk, window, fuel, marks⟩, cw, ct, co⟩ ss (fun i hi => (wj.2.1.1 i hi).2.1) (fun i hi => (wj.2.2.1.1 i hi).2.1) (fun i hi => (wj.2.2.2.1.1 i hi).2.1) k1 g1 va acts wacts e0 we

theorem v_foot {P : Program} {W : World} {name : String} {g : Nat} {cs : Array Value} (hg : P.globalNamed name = some g) (h : W.var? P name = some cs) : Old W g := by
 unfold World.var? at h
 rw [hg] at h
 simp only [Option.bind_some] at h
 show g < W.heap.size
 rcases Nat.lt_or_ge g W.heap.size with h' | h'
 ·exact h'
 ·simp [Array.getElem?_eq_none h'] at h
theorem star2 : "*" ++ "errors.errorString" = "*errors.errorString" := by decide
theorem ptrRow (u : TypeId) (h : Tryz.prog.typeName? 3 u = some "*errors.errorString") : u = 409 := typeName_ptr_named (nm := "errors.errorString") (by rw [star2]; kernel_rfl) (by kernel_rfl) (by decide) u (by rw [star2]; exact h)
theorem gn0 : Tryz.prog.globalNamed "internal/strconv.uint64pow10" = some 2 := by kernel_rfl
theorem gt0 : (Tryz.prog.globals[2]?).map (·.type) = some 406 := by kernel_rfl
theorem gn1 : Tryz.prog.globalNamed "strconv.ErrSyntax" = some 0 := by kernel_rfl
theorem gt1 : (Tryz.prog.globals[0]?).map (·.type) = some 370 := by kernel_rfl
theorem gn2 : Tryz.prog.globalNamed "strconv.ErrRange" = some 1 := by kernel_rfl
theorem gt2 : (Tryz.prog.globals[1]?).map (·.type) = some 370 := by kernel_rfl
theorem lu370 : Tryz.prog.underlying 370 = some (.interface (Tryz.prog.methodsAt 370)) := by kernel_rfl
theorem lu406 : Tryz.prog.underlying 406 = some (.array 20 270) := by kernel_rfl
theorem lu270 : Tryz.prog.underlying 270 = some (.int .u64) := by kernel_rfl
theorem lu409 : Tryz.prog.underlying 409 = some (.pointer 411) := by kernel_rfl
theorem lu411 : Tryz.prog.underlying 411 = some (.struct #[⟨ "s", 9, 0, false, "", "errors", 0⟩]) := by kernel_rfl
theorem lu9 : Tryz.prog.underlying 9 = some (.string) := by kernel_rfl
theorem lc270 : Tryz.prog.cellsOf 270 = 1 := by kernel_rfl
theorem lc406 : Tryz.prog.cellsOf 406 = 20 := by kernel_rfl
theorem lc411 : Tryz.prog.cellsOf 411 = 1 := by kernel_rfl
theorem lc9 : Tryz.prog.cellsOf 9 = 1 := by kernel_rfl
theorem gl_laid {W : World} (h : laidMet Tryz.prog Rows.checkOrdersRow.laid W) : gl.P W (Old W) := by
 refine ⟨?_, ?_, ?_⟩
 ·have h0 : laidMet Tryz.prog [("internal/strconv.uint64pow10", Lib.tabData .u64 Lib.pow10Tab)] W := by
   have e : Rows.checkOrdersRow.laid.filter (fun x => x.1 == "internal/strconv.uint64pow10") = [("internal/strconv.uint64pow10", Lib.tabData .u64 Lib.pow10Tab)] := by kernel_rfl
   have := h.filter (fun x => x.1 == "internal/strconv.uint64pow10"); rw [e] at this; exact this
  have hv := Lib.tabIs_of_head gn0 gt0 lu406 lu270 lc270 lc406 h0
  exact ⟨_, gn0, v_foot gn0 hv, _, hv, rfl⟩
 ·have h0 : laidMet Tryz.prog [("strconv.ErrSyntax", Rows.laid_strconv_ErrSyntax)] W := by
   have e : Rows.checkOrdersRow.laid.filter (fun x => x.1 == "strconv.ErrSyntax") = [("strconv.ErrSyntax", Rows.laid_strconv_ErrSyntax)] := by kernel_rfl
   have := h.filter (fun x => x.1 == "strconv.ErrSyntax"); rw [e] at this; exact this
  obtain ⟨a0, s0, hv, -⟩ := laid_sentinel h0 gn1 gt1 lu370 ptrRow lu409 lu411 rfl rfl lu9 lc411 lc9
  exact ⟨_, gn1, v_foot gn1 hv, _, hv, _, _, rfl⟩
 ·have h0 : laidMet Tryz.prog [("strconv.ErrRange", Rows.laid_strconv_ErrRange)] W := by
   have e : Rows.checkOrdersRow.laid.filter (fun x => x.1 == "strconv.ErrRange") = [("strconv.ErrRange", Rows.laid_strconv_ErrRange)] := by kernel_rfl
   have := h.filter (fun x => x.1 == "strconv.ErrRange"); rw [e] at this; exact this
  obtain ⟨a0, s0, hv, -⟩ := laid_sentinel h0 gn2 gt2 lu370 ptrRow lu409 lu411 rfl rfl lu9 lc411 lc9
  exact ⟨_, gn2, v_foot gn2 hv, _, hv, _, _, rfl⟩

end Go.Proofs.YthgehekecfpikaaGreatDoor.X
