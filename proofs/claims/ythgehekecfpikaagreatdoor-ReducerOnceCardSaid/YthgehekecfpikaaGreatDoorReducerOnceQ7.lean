/- ReducerOnce: texts L6, G1, joined by a program of ours; what nothing names is left out. -/
import Derived.Test.YthgehekecfpikaaGreatDoorReducerOnceQ6
import Derived.Test.YthgehekecfpikaaGreatDoorRows
import Derived.LaidSub
import Derived.Lib.LaidTab
import Derived.Stop.LaidErr
set_option linter.unusedVariables false
set_option linter.unusedSimpArgs false
namespace Go.Proofs.YthgehekecfpikaaGreatDoor.X
open Go
set_option maxHeartbeats 8000000 in
theorem reducerOnceC_ok (vS vM vC vR vK : Value) (C : Cf) (ss : List (List Pair)) (gm : ∀ i ∈ C.J.map, In64 i.a) (gc : ∀ i ∈ C.J.comb, In64 i.a) (gr : ∀ i ∈ C.J.red, In64 i.a) (k0 : Int) (wk : In64 k0) (va : Value) (acts : List (Two A21H)) (wacts : (∀ x ∈ acts, (InT (fun a : A21H => InM a.m ∧ In64 a.n) (fun p : Pair => p.key.size ≤ 9223372036854775807 ∧ p.val.size ≤ 9223372036854775807)) x) ∧ acts.length ≤ 9223372036854775807) (vm : Value) (more : List (Two A21H)) (wmore : (∀ x ∈ more, (InT (fun a : A21H => InM a.m ∧ In64 a.n) (fun p : Pair => p.key.size ≤ 9223372036854775807 ∧ p.val.size ≤ 9223372036854775807)) x) ∧ more.length ≤ 9223372036854775807) :
    Cn Tryz.prog 7 [.agg #[vS, .int .i64 C.J.parts, vM, vC, vR, .int .i64 C.J.chunk, .int .i64 C.J.window, .int .i64 C.J.fuel, vK, .int .i64 C.w, .int .i64 C.t, .int .i64 C.o], .int .i64 k0, va, vm] [] [rsl (kHd kPair) vS C.J.us, rsl (kSl kPair) vS ss, rsl kIns vM C.J.map, rsl kIns vC C.J.comb, rsl kIns vR C.J.red, rsl (kInt .i64) vK C.J.marks, rsl kA21 va acts, rsl kA21 vm more, gl] (fun v Bs => v = .bool true ∧ Bs = []) := by
 intro w0 F0 H
 obtain ⟨A1, c2, rfl, hc3, hm4, hp5⟩ := H.fR 0 rfl
 obtain ⟨A6, c7, rfl, hc8, hm9, hp10⟩ := H.fR 2 rfl
 obtain ⟨A11, c12, rfl, hc13, hm14, hp15⟩ := H.fR 3 rfl
 obtain ⟨A16, c17, rfl, hc18, hm19, hp20⟩ := H.fR 4 rfl
 obtain ⟨A21, c22, rfl, hc23, hm24, hp25⟩ := H.fR 5 rfl
 obtain ⟨A26, c27, rfl, hc28, hm29, hp30⟩ := H.fR 6 rfl
 obtain ⟨A31, c32, rfl, hc33, hm34, hp35⟩ := H.fR 7 rfl
 refine enter Tryz.func7 rfl rfl (Nat.le_of_ble_eq_true rfl) (c_seq (c_reg (s_box rfl rfl rfl rfl H (fun b36 w H => (s_1 rfl (s_nil (q_then ?_)))))))
 replace H : Hd _ _ _ [blk b36 [.slice A1 C.J.us.length c2, .int .i64 C.J.parts, .slice A6 C.J.map.length c7, .slice A11 C.J.comb.length c12, .slice A16 C.J.red.length c17, .int .i64 C.J.chunk, .int .i64 C.J.window, .int .i64 C.J.fuel, .slice A21 C.J.marks.length c22, .int .i64 C.w, .int .i64 C.t, .int .i64 C.o] 28] [rsl (kHd kPair) (.slice A1 C.J.us.length c2) C.J.us, rsl (kSl kPair) (.slice A1 C.J.us.length c2) ss, rsl kIns (.slice A6 C.J.map.length c7) C.J.map, rsl kIns (.slice A11 C.J.comb.length c12) C.J.comb, rsl kIns (.slice A16 C.J.red.length c17) C.J.red, rsl (kInt .i64) (.slice A21 C.J.marks.length c22) C.J.marks, rsl kA21 (.slice A26 acts.length c27) acts, rsl kA21 (.slice A31 more.length c32) more, gl] := H
 refine c_seq (c_seq (c_reg (s_val rfl rfl (r_ldA (cs := [.slice A1 C.J.us.length c2, .int .i64 C.J.parts, .slice A6 C.J.map.length c7, .slice A11 C.J.comb.length c12, .slice A16 C.J.red.length c17, .int .i64 C.J.chunk, .int .i64 C.J.window, .int .i64 C.J.fuel, .slice A21 C.J.marks.length c22, .int .i64 C.w, .int .i64 C.t, .int .i64 C.o]) rfl ty28 rfl rfl (H.cellsI 0 rfl rfl)) (s_1 rfl (sc (great21_ok (.slice A1 C.J.us.length c2) (.slice A6 C.J.map.length c7) (.slice A11 C.J.comb.length c12) (.slice A16 C.J.red.length c17) (.slice A21 C.J.marks.length c22) C (.slice none 0 0) [] (.slice A26 acts.length c27) acts 40) H (lR 0 rfl (lR 2 rfl (lR 3 rfl (lR 4 rfl (lR 5 rfl (lX (fun F _ _ => rsl_nil _ _ F trivial (by decide)) (lR 6 rfl l0))))))) rfl rfl (e_fn kn46 rfl rfl) ?_)))))
 rintro _ _ w ⟨rfl, rfl⟩ H
 refine s_1 rfl ?_
 refine s_boo (d := 24) (b := greatA C.J [] acts 40) rfl (fun h37 => ?_) (fun h37 => ?_)
 ·refine s_k 9 rfl (s_nil (q_then ?_))
  replace H : Hd _ _ _ [blk b36 [.slice A1 C.J.us.length c2, .int .i64 C.J.parts, .slice A6 C.J.map.length c7, .slice A11 C.J.comb.length c12, .slice A16 C.J.red.length c17, .int .i64 C.J.chunk, .int .i64 C.J.window, .int .i64 C.J.fuel, .slice A21 C.J.marks.length c22, .int .i64 C.w, .int .i64 C.t, .int .i64 C.o] 28] [rsl (kHd kPair) (.slice A1 C.J.us.length c2) C.J.us, rsl (kSl kPair) (.slice A1 C.J.us.length c2) ss, rsl kIns (.slice A6 C.J.map.length c7) C.J.map, rsl kIns (.slice A11 C.J.comb.length c12) C.J.comb, rsl kIns (.slice A16 C.J.red.length c17) C.J.red, rsl (kInt .i64) (.slice A21 C.J.marks.length c22) C.J.marks, rsl kA21 (.slice A26 acts.length c27) acts, rsl kA21 (.slice A31 more.length c32) more, gl] := H
  refine c_yes rfl (c_seq (c_reg (sc (awake21_ok) H (lR 8 rfl l0) rfl rfl (e_fn kn47 rfl rfl) ?_)))
  rintro _ _ w ⟨rfl, rfl⟩ H
  refine s_1 rfl (s_nil (q_then (c_ret (q_thenR (q_ret1 rfl rfl ?_)))))
  replace H := H.nil
  exact fin ⟨rfl, rfl⟩ H
 ·refine s_val rfl rfl (r_ldA (cs := [.slice A1 C.J.us.length c2, .int .i64 C.J.parts, .slice A6 C.J.map.length c7, .slice A11 C.J.comb.length c12, .slice A16 C.J.red.length c17, .int .i64 C.J.chunk, .int .i64 C.J.window, .int .i64 C.J.fuel, .slice A21 C.J.marks.length c22, .int .i64 C.w, .int .i64 C.t, .int .i64 C.o]) rfl ty28 rfl rfl (H.cellsI 0 rfl rfl)) (s_1 rfl ?_)
  replace H : Hd _ _ _ [blk b36 [.slice A1 C.J.us.length c2, .int .i64 C.J.parts, .slice A6 C.J.map.length c7, .slice A11 C.J.comb.length c12, .slice A16 C.J.red.length c17, .int .i64 C.J.chunk, .int .i64 C.J.window, .int .i64 C.J.fuel, .slice A21 C.J.marks.length c22, .int .i64 C.w, .int .i64 C.t, .int .i64 C.o] 28] [rsl (kHd kPair) (.slice A1 C.J.us.length c2) C.J.us, rsl (kSl kPair) (.slice A1 C.J.us.length c2) ss, rsl kIns (.slice A6 C.J.map.length c7) C.J.map, rsl kIns (.slice A11 C.J.comb.length c12) C.J.comb, rsl kIns (.slice A16 C.J.red.length c17) C.J.red, rsl (kInt .i64) (.slice A21 C.J.marks.length c22) C.J.marks, rsl kA21 (.slice A26 acts.length c27) acts, rsl kA21 (.slice A31 more.length c32) more, gl] := H
  refine sc (great21_ok (.slice A1 C.J.us.length c2) (.slice A6 C.J.map.length c7) (.slice A11 C.J.comb.length c12) (.slice A16 C.J.red.length c17) (.slice A21 C.J.marks.length c22) C (.slice none 0 0) [] (.slice A31 more.length c32) more 20) H (lR 0 rfl (lR 2 rfl (lR 3 rfl (lR 4 rfl (lR 5 rfl (lX (fun F _ _ => rsl_nil _ _ F trivial (by decide)) (lR 7 rfl l0))))))) rfl rfl (e_fn kn46 rfl rfl) ?_
  rintro _ _ w ⟨rfl, rfl⟩ H
  refine s_k 2 rfl ?_
  refine s_boo (d := 29) (b := greatA C.J [] more 20) rfl (fun h38 => ?_) (fun h38 => ?_)
  ·refine s_k 4 rfl (s_nil (q_then ?_))
   replace H : Hd _ _ _ [blk b36 [.slice A1 C.J.us.length c2, .int .i64 C.J.parts, .slice A6 C.J.map.length c7, .slice A11 C.J.comb.length c12, .slice A16 C.J.red.length c17, .int .i64 C.J.chunk, .int .i64 C.J.window, .int .i64 C.J.fuel, .slice A21 C.J.marks.length c22, .int .i64 C.w, .int .i64 C.t, .int .i64 C.o] 28] [rsl (kHd kPair) (.slice A1 C.J.us.length c2) C.J.us, rsl (kSl kPair) (.slice A1 C.J.us.length c2) ss, rsl kIns (.slice A6 C.J.map.length c7) C.J.map, rsl kIns (.slice A11 C.J.comb.length c12) C.J.comb, rsl kIns (.slice A16 C.J.red.length c17) C.J.red, rsl (kInt .i64) (.slice A21 C.J.marks.length c22) C.J.marks, rsl kA21 (.slice A26 acts.length c27) acts, rsl kA21 (.slice A31 more.length c32) more, gl] := H
   refine c_yes rfl (c_seq (c_reg (sc (awake21_ok) H (lR 8 rfl l0) rfl rfl (e_fn kn47 rfl rfl) ?_)))
   rintro _ _ w ⟨rfl, rfl⟩ H
   refine s_1 rfl (s_nil (q_then (c_ret (q_thenR (q_ret1 rfl rfl ?_)))))
   replace H := H.nil
   exact fin ⟨rfl, rfl⟩ H
  ·refine s_val rfl rfl (r_ldA (cs := [.slice A1 C.J.us.length c2, .int .i64 C.J.parts, .slice A6 C.J.map.length c7, .slice A11 C.J.comb.length c12, .slice A16 C.J.red.length c17, .int .i64 C.J.chunk, .int .i64 C.J.window, .int .i64 C.J.fuel, .slice A21 C.J.marks.length c22, .int .i64 C.w, .int .i64 C.t, .int .i64 C.o]) rfl ty28 rfl rfl (H.cellsI 0 rfl rfl)) ?_
   replace H : Hd _ _ _ [blk b36 [.slice A1 C.J.us.length c2, .int .i64 C.J.parts, .slice A6 C.J.map.length c7, .slice A11 C.J.comb.length c12, .slice A16 C.J.red.length c17, .int .i64 C.J.chunk, .int .i64 C.J.window, .int .i64 C.J.fuel, .slice A21 C.J.marks.length c22, .int .i64 C.w, .int .i64 C.t, .int .i64 C.o] 28] [rsl (kHd kPair) (.slice A1 C.J.us.length c2) C.J.us, rsl (kSl kPair) (.slice A1 C.J.us.length c2) ss, rsl kIns (.slice A6 C.J.map.length c7) C.J.map, rsl kIns (.slice A11 C.J.comb.length c12) C.J.comb, rsl kIns (.slice A16 C.J.red.length c17) C.J.red, rsl (kInt .i64) (.slice A21 C.J.marks.length c22) C.J.marks, rsl kA21 (.slice A26 acts.length c27) acts, rsl kA21 (.slice A31 more.length c32) more, gl] := H
   refine sc (mayC_ok (.slice A1 C.J.us.length c2) (.slice A6 C.J.map.length c7) (.slice A11 C.J.comb.length c12) (.slice A16 C.J.red.length c17) (.slice A21 C.J.marks.length c22) C) H (lR 0 rfl (lR 2 rfl (lR 3 rfl (lR 4 rfl (lR 5 rfl l0))))) rfl rfl (e_fn kn19 rfl rfl) ?_
   rintro _ _ w ⟨rfl, rfl⟩ H
   refine s_val rfl rfl (r_notP rfl rfl) (s_1 rfl (s_nil (q_then ?_)))
   refine c_dec rfl (fun h39 => ?_) (fun h39 => ?_)
   ·refine c_seq (c_reg (sc (awake21_ok) H (lR 8 rfl l0) rfl rfl (e_fn kn47 rfl rfl) ?_))
    rintro _ _ w ⟨rfl, rfl⟩ H
    refine s_1 rfl (s_nil (q_then (c_ret (q_thenR (q_ret1 rfl rfl ?_)))))
    replace H := H.nil
    exact fin ⟨rfl, rfl⟩ H
   ·refine c_skip (q_then (c_seq ?_))
    have hC : mayC C := Classical.not_not.1 h39
    have hJ : OkJ C.J := ⟨hC.1, gm, gc, gr⟩
    have hus := hJ.us
    have hpt := hJ.parts
    have ga := greatA_no h37
    have gb := greatA_no h38
    have hal := ga.1.1
    have hbl := gb.1.1
    refine c_reg (s_val rfl rfl (r_ldA (cs := [.slice A1 C.J.us.length c2, .int .i64 C.J.parts, .slice A6 C.J.map.length c7, .slice A11 C.J.comb.length c12, .slice A16 C.J.red.length c17, .int .i64 C.J.chunk, .int .i64 C.J.window, .int .i64 C.J.fuel, .slice A21 C.J.marks.length c22, .int .i64 C.w, .int .i64 C.t, .int .i64 C.o]) rfl ty28 rfl rfl (H.cellsI 0 rfl rfl)) (s_1 rfl (sc (begun_ok (.slice A1 C.J.us.length c2) (.slice A6 C.J.map.length c7) (.slice A11 C.J.comb.length c12) (.slice A16 C.J.red.length c17) (.slice A21 C.J.marks.length c22) C k0 (by first | assumption | omega | exact OkR.pairs (by assumption) | exact OkR.mono (by assumption) (by omega) | (unfold In64; omega)) (by first | assumption | omega | exact OkR.pairs (by assumption) | exact OkR.mono (by assumption) (by omega) | (unfold In64; omega))) H (lR 0 rfl (lR 2 rfl (lR 3 rfl (lR 4 rfl (lR 5 rfl l0))))) rfl rfl (e_fn kn48 rfl rfl) ?_)))
    rintro _ _ w ⟨r40, lo41, vS42, vM43, vC44, vR45, vK46, J47, sb48, R49, rfl, rfl, hf50, hf51, hf52⟩ H
    have hsj := hf50
    have hR0 := hf51
    have hlo := hf52
    have h6 : J47.us.length ≤ 6 := by have := hC.1.1; have := hsj.len; omega
    have hmk : J47.marks.length ≤ 1000 := by have := hC.1.2.2.1; rw [hsj.marks]; omega
    have hred : ∀ i ∈ J47.red, In64 i.a := by rw [hsj.red]; exact gr
    have hf64 : In64 J47.fuel := by rw [hsj.fuel]; have := hC.1.2.2.2.2.2.2.2.2.2.2; unfold In64; omega
    have hlo1 : In64 lo41 := by unfold In64; omega
    have hp0 : R49.part = lo41 := by rw [hR0]; exact (newR_part _ _ _ _).1
    have hk0 : OkR 0 R49 := by rw [hR0]; exact OkR.new (rs := []) fun r h => by cases h
    refine s_k 5 rfl (s_nil (q_then ?_))
    replace H := H.k1
    replace H : Hd _ _ _ [redI r40 vS42 vM43 vC44 vR45 vK46 J47 C.w C.t C.o sb48 R49] [rsl (kHd kPair) (.slice A1 C.J.us.length c2) C.J.us, rsl (kSl kPair) (.slice A1 C.J.us.length c2) ss, rsl kIns (.slice A6 C.J.map.length c7) C.J.map, rsl kIns (.slice A11 C.J.comb.length c12) C.J.comb, rsl kIns (.slice A16 C.J.red.length c17) C.J.red, rsl (kInt .i64) (.slice A21 C.J.marks.length c22) C.J.marks, rsl kA21 (.slice A26 acts.length c27) acts, rsl kA21 (.slice A31 more.length c32) more, gl] := H
    refine c_seq (c_seq (c_reg (s_1 rfl (s_val rfl rfl (r_peq rfl un75 rfl rfl) (s_nil (q_then (c_no rfl (c_skip (q_then (c_seq (c_seq (c_reg (s_1 rfl (s_nil (q_then (c_block (c_loop (σ := Nat × Red) (fun (k, R) => [(2, .slice A26 acts.length c27), (3, .slice A31 more.length c32), (8, .bool false), (9, .pointer (some ⟨r40, 0, none⟩)), (10, .int .i64 lo41), (11, .int .i64 ((k : Nat) : Int))]) (fun (k, R) w => (Hd w0 F0 w [redI r40 vS42 vM43 vC44 vR45 vK46 J47 C.w C.t C.o sb48 R] [rsl (kHd kPair) (.slice A1 C.J.us.length c2) C.J.us, rsl (kSl kPair) (.slice A1 C.J.us.length c2) ss, rsl kIns (.slice A6 C.J.map.length c7) C.J.map, rsl kIns (.slice A11 C.J.comb.length c12) C.J.comb, rsl kIns (.slice A16 C.J.red.length c17) C.J.red, rsl (kInt .i64) (.slice A21 C.J.marks.length c22) C.J.marks, rsl kA21 (.slice A26 acts.length c27) acts, rsl kA21 (.slice A31 more.length c32) more, gl]) ∧ (k ≤ acts.length) ∧ (OkR k R) ∧ (R.part = lo41)) (fun (k, R) => acts.length - k) (0, R49) ⟨rfl, rfl, rfl, rfl, rfl, rfl, trivial⟩ ⟨H, Nat.zero_le _, hk0, hp0⟩ ?_)))))))))))))))))
    rintro ⟨k, R⟩ w ⟨H, hk, hB, hp⟩
    refine c_seq (c_seq (c_reg (s_k 2 rfl (s_val rfl rfl (r_lenL rfl un73 rfl) (s_val rfl rfl (r_lt rfl rfl rfl) (s_nil (q_then ?_)))))))
    refine c_dec rfl (fun h53 => ?_) (fun h53 => ?_)
    ·refine c_skip (q_then (c_seq (c_block (c_seq (c_reg (s_k 2 rfl ?_))))))
     obtain ⟨⟨⟨a56, ⟨a57, a58, a59, a60, a61, a62, a63, a64⟩, a65⟩, sv66, se67, pv68, pr69⟩, hx55⟩ : ∃ z9, acts[k]? = some z9 := ⟨_, List.getElem?_eq_getElem (show k < acts.length by omega)⟩
     obtain ⟨A70, c71, A72, c73, rfl, rfl, m74, m75, m76, m77⟩ := H.nestRt 6 rfl hx55
     have th78 := H.thRt 6 rfl hx55
     refine s_val rfl rfl (r_iaE (p := oOf A26 + k * 12) rfl sl73 rfl rfl (by omega) (by omega) th78 rfl) (s_val rfl rfl (r_fa rfl fo79_1 rfl) (s_val rfl rfl (r_ldA (cs := [.int .i64 a57, .int .i64 a58, .int .i64 a59, .int .i64 a60, .int .i64 a61, .int .i64 a62, .int .i64 a63, .int .i64 a64, .slice A70 se67.length c71, .slice A72 pr69.length c73]) rfl ty64 rfl rfl (H.elsRt 6 rfl hx55 1 10 rfl rfl)) (s_alloc rfl rfl rfl zr64 H (fun b79 w H => (s_st rfl rfl rfl ty64 rfl rfl H rfl (Nat.le_of_ble_eq_true rfl) (fun u hu => by simp [Value.cells] at hu; rcases hu with rfl | rfl | rfl | rfl | rfl | rfl | rfl | rfl | rfl | rfl <;> rfl) (fun w H => ?_))))))
     replace H : Hd _ _ _ [blk b79 [.int .i64 a57, .int .i64 a58, .int .i64 a59, .int .i64 a60, .int .i64 a61, .int .i64 a62, .int .i64 a63, .int .i64 a64, .slice A70 se67.length c71, .slice A72 pr69.length c73] 64, redI r40 vS42 vM43 vC44 vR45 vK46 J47 C.w C.t C.o sb48 R] [rsl (kHd kPair) (.slice A1 C.J.us.length c2) C.J.us, rsl (kSl kPair) (.slice A1 C.J.us.length c2) ss, rsl kIns (.slice A6 C.J.map.length c7) C.J.map, rsl kIns (.slice A11 C.J.comb.length c12) C.J.comb, rsl kIns (.slice A16 C.J.red.length c17) C.J.red, rsl (kInt .i64) (.slice A21 C.J.marks.length c22) C.J.marks, rsl kA21 (.slice A26 acts.length c27) acts, rsl kA21 (.slice A31 more.length c32) more, gl] := H
     refine s_nil (q_then (c_seq (c_reg (s_1 rfl (s_val rfl rfl (r_fa rfl fo64_3 rfl) (s_st rfl rfl rfl ty3 rfl rfl H rfl (Nat.le_of_ble_eq_true rfl) (fun u hu => by simp [Value.cells] at hu; subst hu; rfl) (fun w H => ?_)))))))
     replace H := H.h1 (A := blk b79 [.int .i64 a57, .int .i64 a58, .int .i64 a59, .int .i64 lo41, .int .i64 a61, .int .i64 a62, .int .i64 a63, .int .i64 a64, .slice A70 se67.length c71, .slice A72 pr69.length c73] 64)
     refine s_nil (q_then (c_seq (c_reg (s_k 2 rfl ?_))))
     have th80 := H.thRt 6 rfl hx55
     refine s_val rfl rfl (r_iaE (p := oOf A26 + k * 12) rfl sl73 rfl rfl (by omega) (by omega) th80 rfl) (s_val rfl rfl (r_fa rfl fo79_0 rfl) (s_val rfl rfl (r_ld rfl ty4 rfl (H.elRt 6 rfl hx55 (q := 0) rfl rfl)) (s_nil (q_then ?_))))
     refine c_cond (b := a56) rfl (fun h81 => ?_) (fun h81 => ?_)
     ·refine c_ord (.e 0 (.e 1 (.e 2 (.e 3 (.e 4 (.e 5 (.e 6 (.e 7 (.e 8 (.e 9 (.m 10 .z))))))))))) (fun w => ∃ Ar, Hd w0 F0 w (blk b79 [.int .i64 a57, .int .i64 a58, .int .i64 a59, .int .i64 lo41, .int .i64 a61, .int .i64 a62, .int .i64 a63, .int .i64 a64, .slice A70 se67.length c71, .slice A72 pr69.length c73] 64 :: Ar) [rsl (kHd kPair) (.slice A1 C.J.us.length c2) C.J.us, rsl (kSl kPair) (.slice A1 C.J.us.length c2) ss, rsl kIns (.slice A6 C.J.map.length c7) C.J.map, rsl kIns (.slice A11 C.J.comb.length c12) C.J.comb, rsl kIns (.slice A16 C.J.red.length c17) C.J.red, rsl (kInt .i64) (.slice A21 C.J.marks.length c22) C.J.marks, rsl kA21 (.slice A26 acts.length c27) acts, rsl kA21 (.slice A31 more.length c32) more, gl]) mo (by kernel_rfl) (fun w H => ⟨_, H⟩) H (fun w H => (d_1 rfl (d_val rfl rfl rfl (fun w ⟨Ar, H⟩ => r_fa rfl fo64_1 rfl) (d_val rfl rfl rfl (fun w ⟨Ar, H⟩ => r_ld rfl ty3 rfl (H.cellI 0 rfl rfl)) ?_))))
      refine d_val rfl rfl rfl (fun w ⟨Ar, H⟩ => r_fa rfl fo64_2 rfl) (d_val rfl rfl rfl (fun w ⟨Ar, H⟩ => r_ld rfl ty3 rfl (H.cellI 0 rfl rfl)) (d_1 rfl (d_1 rfl ?_)))
      have th82 := H.thRt 6 rfl hx55
      refine d_val rfl rfl rfl (fun w ⟨Ar, H⟩ => r_iaE (p := oOf A26 + k * 12) rfl sl73 rfl rfl (by omega) (by omega) th82 rfl) (d_val rfl rfl rfl (fun w ⟨Ar, H⟩ => r_fa rfl fo79_2 rfl) (d_val rfl rfl rfl (fun w ⟨Ar, H⟩ => r_ld rfl ty3 rfl (H.elRt 6 rfl hx55 (q := 11) rfl rfl)) (d_main rfl ?_)))
      replace H := H.p1
      refine sc (rwon_ok r40 vS42 vM43 vC44 vR45 vK46 J47 C.w C.t C.o sb48 R a58 a59 a65 (by first | assumption | omega | exact OkR.pairs (by assumption) | exact OkR.mono (by assumption) (by omega) | (unfold In64; omega)) (by first | assumption | omega | exact OkR.pairs (by assumption) | exact OkR.mono (by assumption) (by omega) | (unfold In64; omega)) (by first | assumption | omega | exact OkR.pairs (by assumption) | exact OkR.mono (by assumption) (by omega) | (unfold In64; omega))) H l0 rfl rfl (e_fn kn49 rfl rfl) ?_
      rintro v85 _ w ⟨rs83, rfl, hf84⟩ H
      replace H := H.h2 (A := osl kRec v85 rs83) (B := redI r40 vS42 vM43 vC44 vR45 vK46 J47 C.w C.t C.o sb48 ((wonR J47 C.t R a58 a59 a65).1)) |>.p2
      refine d_back ⟨_, H⟩ (d_nil (q_blockN (q_then ?_)))
      replace H := H.p2.k1
      exact c_reg (s_1 rfl (s_val rfl rfl (r_add (z := ((k + 1 : Nat) : Int)) rfl rfl rfl (by rw [w64 (by omega) (by omega)]; omega)) (s_1 rfl (s_nil (q_round (s := (k, R)) (k + 1, (wonR J47 C.t R a58 a59 a65).1) ⟨rfl, rfl, rfl, rfl, rfl, rfl, trivial⟩ ⟨H, by (try dsimp only); omega, hB.won h6 _ _ _, (won_part _ _ _ _ _ _).1.trans hp⟩ (by (try dsimp only); omega))))))
     ·refine c_reg (s_1 rfl (s_val rfl rfl (r_ldA (cs := [.int .i64 a57, .int .i64 a58, .int .i64 a59, .int .i64 lo41, .int .i64 a61, .int .i64 a62, .int .i64 a63, .int .i64 a64, .slice A70 se67.length c71, .slice A72 pr69.length c73]) rfl ty64 rfl rfl (H.cellsI 0 rfl rfl)) ?_))
      replace H := H.p1
      refine sc (rpush_ok r40 vS42 vM43 vC44 vR45 vK46 J47 C.w C.t C.o sb48 R (⟨a57, a58, a59, lo41, a61, a62, a63, a64, se67, pr69⟩ : Msg) (.slice A70 se67.length c71) (.slice A72 pr69.length c73) (by first | assumption | omega | exact OkR.pairs (by assumption) | exact OkR.mono (by assumption) (by omega) | (unfold In64; omega)) (by first | assumption | omega | exact OkR.pairs (by assumption) | exact OkR.mono (by assumption) (by omega) | (unfold In64; omega)) (by first | assumption | omega | exact OkR.pairs (by assumption) | exact OkR.mono (by assumption) (by omega) | (unfold In64; omega))) H (lX (fun F hA hR => tw_set (hR _ (List.mem_of_getElem? (i := 6) rfl)) hx55) (lX (fun F hA hR => tw_pairs (hR _ (List.mem_of_getElem? (i := 6) rfl)) hx55) l0)) rfl rfl (e_fn kn50 rfl rfl) ?_
      rintro _ _ w ⟨u86, rs87, rfl, rfl, hf88⟩ H
      replace H := H.h2 (A := osl kRec u86 rs87) (B := redI r40 vS42 vM43 vC44 vR45 vK46 J47 C.w C.t C.o sb48 ((pushR J47 R (⟨a57, a58, a59, lo41, a61, a62, a63, a64, se67, pr69⟩ : Msg)).1))
      refine s_nil (q_blockN (q_then ?_))
      replace H := H.p1.k1
      exact c_reg (s_1 rfl (s_val rfl rfl (r_add (z := ((k + 1 : Nat) : Int)) rfl rfl rfl (by rw [w64 (by omega) (by omega)]; omega)) (s_1 rfl (s_nil (q_round (s := (k, R)) (k + 1, (pushR J47 R (⟨a57, a58, a59, lo41, a61, a62, a63, a64, se67, pr69⟩ : Msg)).1) ⟨rfl, rfl, rfl, rfl, rfl, rfl, trivial⟩ ⟨H, by (try dsimp only); omega, hB.push h6 _, (push_part _ _ _).1.trans hp⟩ (by (try dsimp only); omega))))))
    ·refine c_exit (q_thenE (q_thenE (q_blockE (q_then (c_seq (c_reg (s_1 rfl ?_)))))))
     obtain ⟨hv89, vs90, us91, hsets92, H⟩ := redI_open r40 vS42 vM43 vC44 vR45 vK46 J47 C.w C.t C.o sb48 R H
     replace H : Hd _ _ _ [blk r40 (redC vS42 vM43 vC44 vR45 vK46 J47 C.w C.t C.o R.part R.ep R.g hv89 sb48 vs90) 185, osl (kHd kPair) vS42 J47.us, osl kIns vM43 J47.map, osl kIns vC44 J47.comb, osl kIns vR45 J47.red, osl (kInt .i64) vK46 J47.marks, prsS (R.g) hv89, osl (kHd (kInt .i64)) vs90 us91, stgI 253 sb48 (R.st)] [rsl (kHd kPair) (.slice A1 C.J.us.length c2) C.J.us, rsl (kSl kPair) (.slice A1 C.J.us.length c2) ss, rsl kIns (.slice A6 C.J.map.length c7) C.J.map, rsl kIns (.slice A11 C.J.comb.length c12) C.J.comb, rsl kIns (.slice A16 C.J.red.length c17) C.J.red, rsl (kInt .i64) (.slice A21 C.J.marks.length c22) C.J.marks, rsl kA21 (.slice A26 acts.length c27) acts, rsl kA21 (.slice A31 more.length c32) more, gl] := H
     obtain ⟨A93, c94, rfl, hc95, hm96, hp97⟩ := H.fA 1 rfl
     refine sc (merged_ok r40 A93 c94 vM43 vC44 vR45 vK46 J47 C.w C.t C.o R.part R.ep R hv89 sb48 vs90 (by first | assumption | omega | exact OkR.pairs (by assumption) | exact OkR.mono (by assumption) (by omega) | (unfold In64; omega))) H (lA 0 rfl (fun _ h => h) l0) rfl rfl (e_fn kn51 rfl rfl) ?_
     rintro v98 _ w rfl H
     replace H := H.h1 (A := osl (kInt .i64) v98 (mergedL J47.us.length R)) |>.p9 |>.p9 |>.p9 |>.p9 |>.p9 |>.p9 |>.p9 |>.p9 |>.p9
     replace H := redI_shut r40 (.slice A93 J47.us.length c94) vM43 vC44 vR45 vK46 J47 C.w C.t C.o sb48 R hv89 vs90 us91 hsets92 H
     replace H := H.h1 (A := redI r40 (.slice A93 J47.us.length c94) vM43 vC44 vR45 vK46 J47 C.w C.t C.o sb48 R)
     refine s_1 rfl (s_nil (q_then (c_seq (c_reg (s_alloc rfl rfl rfl zr83 H (fun b99 w H => ?_))))))
     replace H := H.h1 (A := blk b99 [.slice none 0 0, .slice none 0 0, .slice none 0 0, .slice none 0 0, .slice none 0 0, .slice none 0 0] 83)
     refine s_nil (q_then (c_seq (c_seq (c_reg (s_1 rfl (s_nil (q_then (c_block ?_))))))))
     obtain ⟨A100, c101, rfl, hc102, hm103, hp104⟩ := H.fA 2 rfl
     have hml := merged_len J47.us.length R
     replace H := H.prsN
     replace H : Hd _ _ _ [prsS (fun _ => spD0) (fun _ => .slice none 0 0), blk b99 [.slice none 0 0, .slice none 0 0, .slice none 0 0, .slice none 0 0, .slice none 0 0, .slice none 0 0] 83, redI r40 (.slice A93 J47.us.length c94) vM43 vC44 vR45 vK46 J47 C.w C.t C.o sb48 R, osl (kInt .i64) (.slice A100 ((mergedL J47.us.length R).length) c101) (mergedL J47.us.length R)] [rsl (kHd kPair) (.slice A1 C.J.us.length c2) C.J.us, rsl (kSl kPair) (.slice A1 C.J.us.length c2) ss, rsl kIns (.slice A6 C.J.map.length c7) C.J.map, rsl kIns (.slice A11 C.J.comb.length c12) C.J.comb, rsl kIns (.slice A16 C.J.red.length c17) C.J.red, rsl (kInt .i64) (.slice A21 C.J.marks.length c22) C.J.marks, rsl kA21 (.slice A26 acts.length c27) acts, rsl kA21 (.slice A31 more.length c32) more, gl] := H
     replace H := H.p1.p3.p3.h3 (A := redI r40 (.slice A93 J47.us.length c94) vM43 vC44 vR45 vK46 J47 C.w C.t C.o sb48 R) (B := osl (kInt .i64) (.slice A100 ((mergedL J47.us.length R).length) c101) (mergedL J47.us.length R)) (C := blk b99 (arr6 (fun _ => .slice none 0 0)) 83)
     refine c_loop (σ := Nat × (Nat → SpD) × (Nat → Value)) (fun (i, gg, hq) => [(3, .slice A31 more.length c32), (8, .bool false), (9, .pointer (some ⟨r40, 0, none⟩)), (10, .int .i64 lo41), (13, .slice A100 ((mergedL J47.us.length R).length) c101), (14, .pointer (some ⟨b99, 0, none⟩)), (15, .int .i64 ((i : Nat) : Int))]) (fun (i, gg, hq) w => (Hd w0 F0 w [redI r40 (.slice A93 J47.us.length c94) vM43 vC44 vR45 vK46 J47 C.w C.t C.o sb48 R, osl (kInt .i64) (.slice A100 ((mergedL J47.us.length R).length) c101) (mergedL J47.us.length R), blk b99 (arr6 hq) 83, prsS (gg) hq] [rsl (kHd kPair) (.slice A1 C.J.us.length c2) C.J.us, rsl (kSl kPair) (.slice A1 C.J.us.length c2) ss, rsl kIns (.slice A6 C.J.map.length c7) C.J.map, rsl kIns (.slice A11 C.J.comb.length c12) C.J.comb, rsl kIns (.slice A16 C.J.red.length c17) C.J.red, rsl (kInt .i64) (.slice A21 C.J.marks.length c22) C.J.marks, rsl kA21 (.slice A26 acts.length c27) acts, rsl kA21 (.slice A31 more.length c32) more, gl]) ∧ (i ≤ (mergedL J47.us.length R).length) ∧ (keptG J47.us.length R gg i)) (fun (i, gg, hq) => (mergedL J47.us.length R).length - i) (0, (fun _ => spD0), (fun _ => .slice none 0 0)) ⟨rfl, rfl, rfl, rfl, rfl, rfl, rfl, trivial⟩ ⟨H, Nat.zero_le _, keep_0 _ _⟩ ?_
     rintro ⟨i, gg, hq⟩ w ⟨H, hi, hg⟩
     refine c_seq (c_seq (c_reg (s_k 2 rfl (s_val rfl rfl (r_lenL rfl un24 rfl) (s_val rfl rfl (r_lt rfl rfl rfl) (s_nil (q_then ?_)))))))
     refine c_dec rfl (fun h105 => ?_) (fun h105 => ?_)
     ·refine c_skip (q_then (c_seq (c_block ?_)))
      obtain ⟨x106, hx107⟩ : ∃ z9, (mergedL J47.us.length R)[i]? = some z9 := ⟨_, List.getElem?_eq_getElem (show i < (mergedL J47.us.length R).length by omega)⟩
      have hmi := merged_in hx107
      replace H := H.p3.p2.p2.h4 (A := redI r40 (.slice A93 J47.us.length c94) vM43 vC44 vR45 vK46 J47 C.w C.t C.o sb48 R) (B := osl (kInt .i64) (.slice A100 ((mergedL J47.us.length R).length) c101) (mergedL J47.us.length R)) (C := prsS (gg) hq) (D := blk b99 (arr6 hq) 83)
      refine c_ord (.e 0 (.e 1 (.e 2 (.e 3 (.e 4 (.e 5 (.e 6 (.e 7 (.e 8 (.m 9 (.e 10 (.m 11 .z)))))))))))) (fun w => ∃ Ar, Hd w0 F0 w (redI r40 (.slice A93 J47.us.length c94) vM43 vC44 vR45 vK46 J47 C.w C.t C.o sb48 R :: osl (kInt .i64) (.slice A100 ((mergedL J47.us.length R).length) c101) (mergedL J47.us.length R) :: prsS (gg) hq :: Ar) [rsl (kHd kPair) (.slice A1 C.J.us.length c2) C.J.us, rsl (kSl kPair) (.slice A1 C.J.us.length c2) ss, rsl kIns (.slice A6 C.J.map.length c7) C.J.map, rsl kIns (.slice A11 C.J.comb.length c12) C.J.comb, rsl kIns (.slice A16 C.J.red.length c17) C.J.red, rsl (kInt .i64) (.slice A21 C.J.marks.length c22) C.J.marks, rsl kA21 (.slice A26 acts.length c27) acts, rsl kA21 (.slice A31 more.length c32) more, gl]) mo (by kernel_rfl) (fun w H => ⟨_, H⟩) H (fun w H => (d_1 rfl (d_1 rfl ?_)))
      have th108 := H.thA 1 rfl hx107
      refine d_val rfl rfl rfl (fun w ⟨Ar, H⟩ => r_iaE (p := oOf A100 + i * 1) rfl sl24 rfl rfl (by omega) (by omega) th108 rfl) (d_val rfl rfl rfl (fun w ⟨Ar, H⟩ => r_ld rfl ty3 rfl (H.elA 1 rfl hx107 (q := 0) rfl rfl)) (d_1 rfl (d_1 rfl (d_1 rfl ?_))))
      have th109 := H.thA 1 rfl hx107
      refine d_val rfl rfl rfl (fun w ⟨Ar, H⟩ => r_iaE (p := oOf A100 + i * 1) rfl sl24 rfl rfl (by omega) (by omega) th109 rfl) (d_val rfl rfl rfl (fun w ⟨Ar, H⟩ => r_ld rfl ty3 rfl (H.elA 1 rfl hx107 (q := 0) rfl rfl)) (d_main rfl ?_))
      obtain ⟨hv110, vs111, us112, hsets113, H⟩ := redI_open r40 (.slice A93 J47.us.length c94) vM43 vC44 vR45 vK46 J47 C.w C.t C.o sb48 R H
      replace H : Hd _ _ _ [blk r40 (redC (.slice A93 J47.us.length c94) vM43 vC44 vR45 vK46 J47 C.w C.t C.o R.part R.ep R.g hv110 sb48 vs111) 185, osl (kHd kPair) (.slice A93 J47.us.length c94) J47.us, osl kIns vM43 J47.map, osl kIns vC44 J47.comb, osl kIns vR45 J47.red, osl (kInt .i64) vK46 J47.marks, prsS (R.g) hv110, osl (kHd (kInt .i64)) vs111 us112, stgI 253 sb48 (R.st), osl (kInt .i64) (.slice A100 ((mergedL J47.us.length R).length) c101) (mergedL J47.us.length R), prsS (gg) hq, blk b99 (arr6 hq) 83] [rsl (kHd kPair) (.slice A1 C.J.us.length c2) C.J.us, rsl (kSl kPair) (.slice A1 C.J.us.length c2) ss, rsl kIns (.slice A6 C.J.map.length c7) C.J.map, rsl kIns (.slice A11 C.J.comb.length c12) C.J.comb, rsl kIns (.slice A16 C.J.red.length c17) C.J.red, rsl (kInt .i64) (.slice A21 C.J.marks.length c22) C.J.marks, rsl kA21 (.slice A26 acts.length c27) acts, rsl kA21 (.slice A31 more.length c32) more, gl] := H
      refine sc (rpairs_ok r40 A93 c94 vM43 vC44 vR45 vK46 J47 C.w C.t C.o R.part R.ep R hv110 sb48 vs111 x106 (by first | assumption | omega | exact OkR.pairs (by assumption) | exact OkR.mono (by assumption) (by omega) | (unfold In64; omega)) (by first | assumption | omega | exact OkR.pairs (by assumption) | exact OkR.mono (by assumption) (by omega) | (unfold In64; omega))) H (lA 0 rfl (fun _ h => h) (lA 6 rfl (fun _ h => h) l0)) rfl rfl (e_fn kn52 rfl rfl) ?_
      rintro v114 _ w rfl H
      replace H := H.h1 (A := osl kPair v114 (pairsR J47.us.length R x106)) |>.p9 |>.p9 |>.p9 |>.p9 |>.p9 |>.p9 |>.p9 |>.p9 |>.p9
      replace H := redI_shut r40 (.slice A93 J47.us.length c94) vM43 vC44 vR45 vK46 J47 C.w C.t C.o sb48 R hv110 vs111 us112 hsets113 H
      replace H := H.h1 (A := redI r40 (.slice A93 J47.us.length c94) vM43 vC44 vR45 vK46 J47 C.w C.t C.o sb48 R) |>.p3 |>.p3 |>.p2
      refine d_back ⟨_, H⟩ (d_val rfl rfl rfl (fun w ⟨Ar, H⟩ => r_iaB (p := 0 + (x106).toNat * 1) rfl un83 is35 rfl rfl (by omega) (by omega) (by omega)) (d_main rfl ?_))
      obtain ⟨A115, c116, rfl, hc117, hm118, hp119⟩ := H.fA 3 rfl
      replace H := H.p4
      refine s_st rfl rfl rfl ty35 rfl rfl H rfl (by show 0 + ((x106).toNat) * 1 + 1 ≤ 6; omega) (fun u hu => by simp [Value.cells] at hu; subst hu; rfl) (fun w H => ?_)
      replace H : Hd w0 F0 w [blk b99 (arr6 (setD hq ((x106).toNat) (.slice A115 ((pairsR J47.us.length R x106).length) c116 : Value))) 83, redI r40 (.slice A93 J47.us.length c94) vM43 vC44 vR45 vK46 J47 C.w C.t C.o sb48 R, osl (kInt .i64) (.slice A100 ((mergedL J47.us.length R).length) c101) (mergedL J47.us.length R), prsS (gg) hq, osl kPair (.slice A115 ((pairsR J47.us.length R x106).length) c116) (pairsR J47.us.length R x106)] [rsl (kHd kPair) (.slice A1 C.J.us.length c2) C.J.us, rsl (kSl kPair) (.slice A1 C.J.us.length c2) ss, rsl kIns (.slice A6 C.J.map.length c7) C.J.map, rsl kIns (.slice A11 C.J.comb.length c12) C.J.comb, rsl kIns (.slice A16 C.J.red.length c17) C.J.red, rsl (kInt .i64) (.slice A21 C.J.marks.length c22) C.J.marks, rsl kA21 (.slice A26 acts.length c27) acts, rsl kA21 (.slice A31 more.length c32) more, gl] := by rw [← arr6_put1 (show (x106).toNat < 6 by omega) (.slice A115 ((pairsR J47.us.length R x106).length) c116)]; exact H
      replace H := H.p3.p3.p3
      refine d_back ⟨_, H⟩ (d_nil (q_blockN (q_then (c_reg (s_1 rfl (s_val rfl rfl (r_add (z := ((i + 1 : Nat) : Int)) rfl rfl rfl (by rw [w64 (by omega) (by omega)]; omega)) (s_1 rfl (s_nil ?_))))))))
      replace H := H.p2.p4.prsU (g := gg) (hv := hq) (i := (x106).toNat) (x := ({ spD0 with pairs := pairsR J47.us.length R x106 } : SpD)) (by omega) |>.h1 (A := prsS (setD gg (x106).toNat ({ spD0 with pairs := pairsR J47.us.length R x106 } : SpD)) (setD hq (x106).toNat (.slice A115 ((pairsR J47.us.length R x106).length) c116 : Value))) |>.p3 |>.p3 |>.p3
      exact q_round (s := (i, gg, hq)) (i + 1, setD gg (x106).toNat ({ spD0 with pairs := pairsR J47.us.length R x106 } : SpD), setD hq (x106).toNat (.slice A115 ((pairsR J47.us.length R x106).length) c116 : Value)) ⟨rfl, rfl, rfl, rfl, rfl, rfl, rfl, trivial⟩ ⟨H, by (try dsimp only); omega, keep_step hg hx107⟩ (by (try dsimp only); omega)
     ·refine c_exit (q_thenE (q_thenE (q_blockE (q_then (c_seq (c_seq (c_reg (s_1 rfl (s_nil (q_then (c_block (c_loop (σ := Nat) (fun j => [(3, .slice A31 more.length c32), (9, .pointer (some ⟨r40, 0, none⟩)), (10, .int .i64 lo41), (13, .slice A100 ((mergedL J47.us.length R).length) c101), (14, .pointer (some ⟨b99, 0, none⟩)), (16, .int .i64 ((j : Nat) : Int))]) (fun j w => (Hd w0 F0 w [redI r40 (.slice A93 J47.us.length c94) vM43 vC44 vR45 vK46 J47 C.w C.t C.o sb48 R, osl (kInt .i64) (.slice A100 ((mergedL J47.us.length R).length) c101) (mergedL J47.us.length R), blk b99 (arr6 hq) 83, prsS (gg) hq] [rsl (kHd kPair) (.slice A1 C.J.us.length c2) C.J.us, rsl (kSl kPair) (.slice A1 C.J.us.length c2) ss, rsl kIns (.slice A6 C.J.map.length c7) C.J.map, rsl kIns (.slice A11 C.J.comb.length c12) C.J.comb, rsl kIns (.slice A16 C.J.red.length c17) C.J.red, rsl (kInt .i64) (.slice A21 C.J.marks.length c22) C.J.marks, rsl kA21 (.slice A26 acts.length c27) acts, rsl kA21 (.slice A31 more.length c32) more, gl]) ∧ (j ≤ more.length)) (fun j => more.length - j) 0 ⟨rfl, rfl, rfl, rfl, rfl, rfl, trivial⟩ ⟨H, Nat.zero_le _⟩ ?_))))))))))))
      rintro j w ⟨H, hj⟩
      refine c_seq (c_seq (c_reg (s_k 2 rfl (s_val rfl rfl (r_lenL rfl un73 rfl) (s_val rfl rfl (r_lt rfl rfl rfl) (s_1 rfl ?_))))))
      refine s_dec (d := 98) rfl (fun h120 => ?_) (fun h120 => ?_)
      ·refine s_1 rfl (s_val rfl rfl (r_lenL rfl un24 rfl) (s_val rfl rfl (r_gt rfl rfl rfl) (s_1 rfl (s_nil (q_then ?_)))))
       refine c_dec rfl (fun h121 => ?_) (fun h121 => ?_)
       ·refine c_skip (q_then (c_seq (c_block (c_seq (c_reg (s_k 2 rfl ?_))))))
        obtain ⟨⟨⟨a124, ⟨a125, a126, a127, a128, a129, a130, a131, a132⟩, a133⟩, sv134, se135, pv136, pr137⟩, hx123⟩ : ∃ z9, more[j]? = some z9 := ⟨_, List.getElem?_eq_getElem (show j < more.length by omega)⟩
        obtain ⟨A138, c139, A140, c141, rfl, rfl, m142, m143, m144, m145⟩ := H.nestRt 7 rfl hx123
        have th146 := H.thRt 7 rfl hx123
        refine s_val rfl rfl (r_iaE (p := oOf A31 + j * 12) rfl sl73 rfl rfl (by omega) (by omega) th146 rfl) (s_val rfl rfl (r_fa rfl fo79_1 rfl) (s_val rfl rfl (r_ldA (cs := [.int .i64 a125, .int .i64 a126, .int .i64 a127, .int .i64 a128, .int .i64 a129, .int .i64 a130, .int .i64 a131, .int .i64 a132, .slice A138 se135.length c139, .slice A140 pr137.length c141]) rfl ty64 rfl rfl (H.elsRt 7 rfl hx123 1 10 rfl rfl)) (s_alloc rfl rfl rfl zr64 H (fun b147 w H => (s_st rfl rfl rfl ty64 rfl rfl H rfl (Nat.le_of_ble_eq_true rfl) (fun u hu => by simp [Value.cells] at hu; rcases hu with rfl | rfl | rfl | rfl | rfl | rfl | rfl | rfl | rfl | rfl <;> rfl) (fun w H => ?_))))))
        replace H : Hd _ _ _ [blk b147 [.int .i64 a125, .int .i64 a126, .int .i64 a127, .int .i64 a128, .int .i64 a129, .int .i64 a130, .int .i64 a131, .int .i64 a132, .slice A138 se135.length c139, .slice A140 pr137.length c141] 64, redI r40 (.slice A93 J47.us.length c94) vM43 vC44 vR45 vK46 J47 C.w C.t C.o sb48 R, osl (kInt .i64) (.slice A100 ((mergedL J47.us.length R).length) c101) (mergedL J47.us.length R), blk b99 (arr6 hq) 83, prsS (gg) hq] [rsl (kHd kPair) (.slice A1 C.J.us.length c2) C.J.us, rsl (kSl kPair) (.slice A1 C.J.us.length c2) ss, rsl kIns (.slice A6 C.J.map.length c7) C.J.map, rsl kIns (.slice A11 C.J.comb.length c12) C.J.comb, rsl kIns (.slice A16 C.J.red.length c17) C.J.red, rsl (kInt .i64) (.slice A21 C.J.marks.length c22) C.J.marks, rsl kA21 (.slice A26 acts.length c27) acts, rsl kA21 (.slice A31 more.length c32) more, gl] := H
        refine s_nil (q_then (c_seq ?_))
        have hi64 := (wmore.1 _ (at_mem hx123)).1.1.2.1
        dsimp only at hi64
        replace H := H.p4.p4.p4.p4
        refine c_ord (.e 0 (.e 1 (.e 2 (.e 4 (.e 5 (.m 3 (.e 9 (.m 6 (.e 7 (.e 8 (.m 10 (.e 11 (.m 12 (.e 13 (.m 14 .z))))))))))))))) (fun w => ∃ Ar, Hd w0 F0 w (redI r40 (.slice A93 J47.us.length c94) vM43 vC44 vR45 vK46 J47 C.w C.t C.o sb48 R :: osl (kInt .i64) (.slice A100 ((mergedL J47.us.length R).length) c101) (mergedL J47.us.length R) :: blk b99 (arr6 hq) 83 :: prsS (gg) hq :: Ar) [rsl (kHd kPair) (.slice A1 C.J.us.length c2) C.J.us, rsl (kSl kPair) (.slice A1 C.J.us.length c2) ss, rsl kIns (.slice A6 C.J.map.length c7) C.J.map, rsl kIns (.slice A11 C.J.comb.length c12) C.J.comb, rsl kIns (.slice A16 C.J.red.length c17) C.J.red, rsl (kInt .i64) (.slice A21 C.J.marks.length c22) C.J.marks, rsl kA21 (.slice A26 acts.length c27) acts, rsl kA21 (.slice A31 more.length c32) more, gl]) mo (by kernel_rfl) (fun w H => ⟨_, H⟩) H (fun w H => (d_1 rfl (d_1 rfl (d_val rfl rfl rfl (fun w ⟨Ar, H⟩ => r_fa rfl fo64_1 rfl) ?_))))
        refine d_1 rfl (d_val rfl rfl rfl (fun w ⟨Ar, H⟩ => r_lenL rfl un24 rfl) (d_main rfl (s_val rfl rfl (r_ld rfl ty3 rfl (H.cellI 4 rfl rfl)) (d_back ⟨_, H⟩ (d_val rfl rfl rfl (fun w ⟨Ar, H⟩ => r_fa rfl fo64_0 rfl) (d_main rfl (sc (low_ok a126 (((mergedL J47.us.length R).length : Nat) : Int) (by first | assumption | (unfold In64; omega)) (by omega) (by omega)) H l0 rfl rfl (e_fn kn22 rfl rfl) ?_)))))))
        rintro _ _ w ⟨rfl, rfl⟩ H
        obtain ⟨lo148, hl149, hl150, hl151⟩ : ∃ z : Int, IntKind.u64.wrap a126 % (((mergedL J47.us.length R).length : Nat) : Int) = z ∧ 0 ≤ z ∧ z < (((mergedL J47.us.length R).length : Nat) : Int) := ⟨_, rfl, Int.emod_nonneg _ (by omega), Int.emod_lt_of_pos _ (by omega)⟩
        rw [hl149]
        refine d_back ⟨_, H⟩ ?_
        obtain ⟨x152, hx153⟩ : ∃ z9, (mergedL J47.us.length R)[(lo148).toNat]? = some z9 := ⟨_, List.getElem?_eq_getElem (show (lo148).toNat < (mergedL J47.us.length R).length by omega)⟩
        have th154 := H.thA 1 rfl hx153
        refine d_val rfl rfl rfl (fun w ⟨Ar, H⟩ => r_iaE (p := oOf A100 + ((lo148).toNat) * 1) rfl sl24 rfl rfl (by omega) (by omega) th154 (by omega)) (d_val rfl rfl rfl (fun w ⟨Ar, H⟩ => r_ld rfl ty3 rfl (H.elA 1 rfl hx153 (q := 0) rfl rfl)) (d_main rfl ?_))
        replace H := H.p4
        refine s_st rfl rfl rfl ty3 rfl rfl H rfl (Nat.le_of_ble_eq_true rfl) (fun u hu => by simp [Value.cells] at hu; subst hu; rfl) (fun w H => ?_)
        replace H : Hd _ _ _ [blk b147 [.int .i64 2, .int .i64 a126, .int .i64 a127, .int .i64 a128, .int .i64 a129, .int .i64 a130, .int .i64 a131, .int .i64 a132, .slice A138 se135.length c139, .slice A140 pr137.length c141] 64, redI r40 (.slice A93 J47.us.length c94) vM43 vC44 vR45 vK46 J47 C.w C.t C.o sb48 R, osl (kInt .i64) (.slice A100 ((mergedL J47.us.length R).length) c101) (mergedL J47.us.length R), blk b99 (arr6 hq) 83, prsS (gg) hq] [rsl (kHd kPair) (.slice A1 C.J.us.length c2) C.J.us, rsl (kSl kPair) (.slice A1 C.J.us.length c2) ss, rsl kIns (.slice A6 C.J.map.length c7) C.J.map, rsl kIns (.slice A11 C.J.comb.length c12) C.J.comb, rsl kIns (.slice A16 C.J.red.length c17) C.J.red, rsl (kInt .i64) (.slice A21 C.J.marks.length c22) C.J.marks, rsl kA21 (.slice A26 acts.length c27) acts, rsl kA21 (.slice A31 more.length c32) more, gl] := H
        replace H := H.p4.p4.p4.p4
        refine d_back ⟨_, H⟩ (d_val rfl rfl rfl (fun w ⟨Ar, H⟩ => r_fa rfl fo64_3 rfl) (d_main rfl ?_))
        replace H := H.p4
        refine s_st rfl rfl rfl ty3 rfl rfl H rfl (Nat.le_of_ble_eq_true rfl) (fun u hu => by simp [Value.cells] at hu; subst hu; rfl) (fun w H => ?_)
        replace H := H.h1 (A := blk b147 [.int .i64 2, .int .i64 a126, .int .i64 a127, .int .i64 lo41, .int .i64 a129, .int .i64 a130, .int .i64 a131, .int .i64 a132, .slice A138 se135.length c139, .slice A140 pr137.length c141] 64) |>.p4 |>.p4 |>.p4 |>.p4
        refine d_back ⟨_, H⟩ (d_val rfl rfl rfl (fun w ⟨Ar, H⟩ => r_fa rfl fo64_1 rfl) (d_main rfl ?_))
        replace H := H.p4
        refine s_st rfl rfl rfl ty3 rfl rfl H rfl (Nat.le_of_ble_eq_true rfl) (fun u hu => by simp [Value.cells] at hu; subst hu; rfl) (fun w H => ?_)
        replace H := H.h1 (A := blk b147 [.int .i64 2, .int .i64 x152, .int .i64 a127, .int .i64 lo41, .int .i64 a129, .int .i64 a130, .int .i64 a131, .int .i64 a132, .slice A138 se135.length c139, .slice A140 pr137.length c141] 64) |>.p4 |>.p4 |>.p4 |>.p4
        refine d_back ⟨_, H⟩ (d_nil (q_then (c_seq ?_)))
        have hmi := merged_in hx153
        refine c_reg (s_1 rfl (s_val rfl rfl (r_ldA (cs := [.int .i64 2, .int .i64 x152, .int .i64 a127, .int .i64 lo41, .int .i64 a129, .int .i64 a130, .int .i64 a131, .int .i64 a132, .slice A138 se135.length c139, .slice A140 pr137.length c141]) rfl ty64 rfl rfl (H.cellsI 4 rfl rfl)) (sc (rpush_ok r40 (.slice A93 J47.us.length c94) vM43 vC44 vR45 vK46 J47 C.w C.t C.o sb48 R (⟨2, x152, a127, lo41, a129, a130, a131, a132, se135, pr137⟩ : Msg) (.slice A138 se135.length c139) (.slice A140 pr137.length c141) (by first | assumption | omega | exact OkR.pairs (by assumption) | exact OkR.mono (by assumption) (by omega) | (unfold In64; omega)) (by first | assumption | omega | exact OkR.pairs (by assumption) | exact OkR.mono (by assumption) (by omega) | (unfold In64; omega)) (by first | assumption | omega | exact OkR.pairs (by assumption) | exact OkR.mono (by assumption) (by omega) | (unfold In64; omega))) H (lX (fun F hA hR => tw_set (hR _ (List.mem_of_getElem? (i := 7) rfl)) hx123) (lX (fun F hA hR => tw_pairs (hR _ (List.mem_of_getElem? (i := 7) rfl)) hx123) l0)) rfl rfl (e_fn kn50 rfl rfl) ?_)))
        rintro _ _ w ⟨u155, rs156, rfl, rfl, hf157⟩ H
        replace H := H.h2 (A := osl kRec u155 rs156) (B := redI r40 (.slice A93 J47.us.length c94) vM43 vC44 vR45 vK46 J47 C.w C.t C.o sb48 ((pushR J47 R (⟨2, x152, a127, lo41, a129, a130, a131, a132, se135, pr137⟩ : Msg)).1))
        have hpm := push_merged (J := J47) (R := R) (m := (⟨2, x152, a127, lo41, a129, a130, a131, a132, se135, pr137⟩ : Msg)) (fun h => by rcases h with h | h | h; exact h hmi.1; exact h rfl; exact h hp.symm) hmi.2
        rw [hpm.1] at H
        have hrl := len_nil (hf157.trans hpm.2.2)
        replace H : Hd _ _ _ [osl kRec u155 rs156, redI r40 (.slice A93 J47.us.length c94) vM43 vC44 vR45 vK46 J47 C.w C.t C.o sb48 R, osl (kInt .i64) (.slice A100 ((mergedL J47.us.length R).length) c101) (mergedL J47.us.length R), blk b99 (arr6 hq) 83, prsS (gg) hq, blk b147 [.int .i64 2, .int .i64 x152, .int .i64 a127, .int .i64 lo41, .int .i64 a129, .int .i64 a130, .int .i64 a131, .int .i64 a132, .slice A138 se135.length c139, .slice A140 pr137.length c141] 64] [rsl (kHd kPair) (.slice A1 C.J.us.length c2) C.J.us, rsl (kSl kPair) (.slice A1 C.J.us.length c2) ss, rsl kIns (.slice A6 C.J.map.length c7) C.J.map, rsl kIns (.slice A11 C.J.comb.length c12) C.J.comb, rsl kIns (.slice A16 C.J.red.length c17) C.J.red, rsl (kInt .i64) (.slice A21 C.J.marks.length c22) C.J.marks, rsl kA21 (.slice A26 acts.length c27) acts, rsl kA21 (.slice A31 more.length c32) more, gl] := H
        obtain ⟨A158, c159, rfl, hc160, hm161, hp162⟩ := H.fA 0 rfl
        refine s_k 3 rfl (s_alloc rfl rfl rfl zr64 H (fun b163 w H => (s_st rfl rfl rfl ty64 rfl rfl H rfl (Nat.le_of_ble_eq_true rfl) (fun u hu => by simp [Value.cells] at hu; rcases hu with rfl | rfl | rfl | rfl | rfl | rfl | rfl | rfl | rfl | rfl <;> rfl) (fun w H => ?_))))
        replace H := H.h1 (A := blk b163 [.int .i64 (((pushR J47 R (⟨2, x152, a127, lo41, a129, a130, a131, a132, se135, pr137⟩ : Msg)).2.1).kind), .int .i64 (((pushR J47 R (⟨2, x152, a127, lo41, a129, a130, a131, a132, se135, pr137⟩ : Msg)).2.1).sp), .int .i64 (((pushR J47 R (⟨2, x152, a127, lo41, a129, a130, a131, a132, se135, pr137⟩ : Msg)).2.1).att), .int .i64 (((pushR J47 R (⟨2, x152, a127, lo41, a129, a130, a131, a132, se135, pr137⟩ : Msg)).2.1).part), .int .i64 (((pushR J47 R (⟨2, x152, a127, lo41, a129, a130, a131, a132, se135, pr137⟩ : Msg)).2.1).seq), .int .i64 (((pushR J47 R (⟨2, x152, a127, lo41, a129, a130, a131, a132, se135, pr137⟩ : Msg)).2.1).next), .int .i64 (((pushR J47 R (⟨2, x152, a127, lo41, a129, a130, a131, a132, se135, pr137⟩ : Msg)).2.1).ep), .int .i64 (((pushR J47 R (⟨2, x152, a127, lo41, a129, a130, a131, a132, se135, pr137⟩ : Msg)).2.1).why), .slice none 0 0, .slice none 0 0] 64)
        refine s_1 rfl (s_nil (q_then (c_seq (c_ord (.e 0 (.e 1 (.e 2 (.e 3 (.e 4 (.e 5 (.e 6 (.e 7 (.e 8 (.e 9 (.e 10 (.e 11 (.e 12 (.e 13 (.e 14 (.e 15 (.e 16 (.e 17 (.e 18 (.m 19 (.e 20 (.e 21 (.e 22 .z))))))))))))))))))))))) (fun w => ∃ Ar, Hd w0 F0 w (blk b163 [.int .i64 (((pushR J47 R (⟨2, x152, a127, lo41, a129, a130, a131, a132, se135, pr137⟩ : Msg)).2.1).kind), .int .i64 (((pushR J47 R (⟨2, x152, a127, lo41, a129, a130, a131, a132, se135, pr137⟩ : Msg)).2.1).sp), .int .i64 (((pushR J47 R (⟨2, x152, a127, lo41, a129, a130, a131, a132, se135, pr137⟩ : Msg)).2.1).att), .int .i64 (((pushR J47 R (⟨2, x152, a127, lo41, a129, a130, a131, a132, se135, pr137⟩ : Msg)).2.1).part), .int .i64 (((pushR J47 R (⟨2, x152, a127, lo41, a129, a130, a131, a132, se135, pr137⟩ : Msg)).2.1).seq), .int .i64 (((pushR J47 R (⟨2, x152, a127, lo41, a129, a130, a131, a132, se135, pr137⟩ : Msg)).2.1).next), .int .i64 (((pushR J47 R (⟨2, x152, a127, lo41, a129, a130, a131, a132, se135, pr137⟩ : Msg)).2.1).ep), .int .i64 (((pushR J47 R (⟨2, x152, a127, lo41, a129, a130, a131, a132, se135, pr137⟩ : Msg)).2.1).why), .slice none 0 0, .slice none 0 0] 64 :: osl kRec (.slice A158 rs156.length c159) rs156 :: redI r40 (.slice A93 J47.us.length c94) vM43 vC44 vR45 vK46 J47 C.w C.t C.o sb48 R :: osl (kInt .i64) (.slice A100 ((mergedL J47.us.length R).length) c101) (mergedL J47.us.length R) :: blk b99 (arr6 hq) 83 :: prsS (gg) hq :: blk b147 [.int .i64 2, .int .i64 x152, .int .i64 a127, .int .i64 lo41, .int .i64 a129, .int .i64 a130, .int .i64 a131, .int .i64 a132, .slice A138 se135.length c139, .slice A140 pr137.length c141] 64 :: Ar) [rsl (kHd kPair) (.slice A1 C.J.us.length c2) C.J.us, rsl (kSl kPair) (.slice A1 C.J.us.length c2) ss, rsl kIns (.slice A6 C.J.map.length c7) C.J.map, rsl kIns (.slice A11 C.J.comb.length c12) C.J.comb, rsl kIns (.slice A16 C.J.red.length c17) C.J.red, rsl (kInt .i64) (.slice A21 C.J.marks.length c22) C.J.marks, rsl kA21 (.slice A26 acts.length c27) acts, rsl kA21 (.slice A31 more.length c32) more, gl]) mo (by kernel_rfl) (fun w H => ⟨_, H⟩) H (fun w H => ?_)))))
        refine d_val rfl rfl rfl (fun w ⟨Ar, H⟩ => r_fa rfl fo64_5 rfl) (d_val rfl rfl rfl (fun w ⟨Ar, H⟩ => r_ld rfl ty3 rfl (H.cellI 0 rfl rfl)) (d_val rfl rfl rfl (fun w ⟨Ar, H⟩ => r_ne rfl rfl rfl) (d_1 rfl ?_)))
        refine d_dec (d := 131) rfl (fun h164 => ?_) (fun h164 => ?_)
        ·exact (h164 hpm.2.1).elim
        ·refine d_1 rfl (d_val rfl rfl rfl (fun w ⟨Ar, H⟩ => r_lenL rfl un29 rfl) (d_val rfl rfl rfl (fun w ⟨Ar, H⟩ => r_ne rfl rfl rfl) (d_1 rfl (d_1 rfl ?_))))
         refine d_dec (d := 136) rfl (fun h165 => ?_) (fun h165 => ?_)
         ·exact (h165 (by omega)).elim
         ·refine d_1 rfl (d_val rfl rfl rfl (fun w ⟨Ar, H⟩ => r_fa rfl fo64_1 rfl) (d_val rfl rfl rfl (fun w ⟨Ar, H⟩ => r_ld rfl ty3 rfl (H.cellI 6 rfl rfl)) (d_val rfl rfl rfl (fun w ⟨Ar, H⟩ => r_fa rfl fo64_2 rfl) (d_val rfl rfl rfl (fun w ⟨Ar, H⟩ => r_ld rfl ty3 rfl (H.cellI 6 rfl rfl)) (d_1 rfl (d_1 rfl ?_))))))
          have th166 := H.thRt 7 rfl hx123
          refine d_val rfl rfl rfl (fun w ⟨Ar, H⟩ => r_iaE (p := oOf A31 + j * 12) rfl sl73 rfl rfl (by omega) (by omega) th166 rfl) (d_val rfl rfl rfl (fun w ⟨Ar, H⟩ => r_fa rfl fo79_2 rfl) (d_val rfl rfl rfl (fun w ⟨Ar, H⟩ => r_ld rfl ty3 rfl (H.elRt 7 rfl hx123 (q := 11) rfl rfl)) (d_main rfl ?_)))
          replace H := H.p2
          refine sc (rwon_ok r40 (.slice A93 J47.us.length c94) vM43 vC44 vR45 vK46 J47 C.w C.t C.o sb48 R x152 a127 a133 (by first | assumption | omega | exact OkR.pairs (by assumption) | exact OkR.mono (by assumption) (by omega) | (unfold In64; omega)) (by first | assumption | omega | exact OkR.pairs (by assumption) | exact OkR.mono (by assumption) (by omega) | (unfold In64; omega)) (by first | assumption | omega | exact OkR.pairs (by assumption) | exact OkR.mono (by assumption) (by omega) | (unfold In64; omega))) H l0 rfl rfl (e_fn kn49 rfl rfl) ?_
          rintro v169 _ w ⟨rs167, rfl, hf168⟩ H
          replace H := H.h2 (A := osl kRec v169 rs167) (B := redI r40 (.slice A93 J47.us.length c94) vM43 vC44 vR45 vK46 J47 C.w C.t C.o sb48 ((wonR J47 C.t R x152 a127 a133).1))
          have hwm := won_merged (J := J47) (t := C.t) (R := R) (att := a127) (cnt := a133) hmi.2
          rw [hwm] at H
          have hwl := len_nil (hf168.trans (congrArg Prod.snd hwm))
          replace H : Hd _ _ _ [osl kRec v169 rs167, redI r40 (.slice A93 J47.us.length c94) vM43 vC44 vR45 vK46 J47 C.w C.t C.o sb48 R, blk b163 [.int .i64 (((pushR J47 R (⟨2, x152, a127, lo41, a129, a130, a131, a132, se135, pr137⟩ : Msg)).2.1).kind), .int .i64 (((pushR J47 R (⟨2, x152, a127, lo41, a129, a130, a131, a132, se135, pr137⟩ : Msg)).2.1).sp), .int .i64 (((pushR J47 R (⟨2, x152, a127, lo41, a129, a130, a131, a132, se135, pr137⟩ : Msg)).2.1).att), .int .i64 (((pushR J47 R (⟨2, x152, a127, lo41, a129, a130, a131, a132, se135, pr137⟩ : Msg)).2.1).part), .int .i64 (((pushR J47 R (⟨2, x152, a127, lo41, a129, a130, a131, a132, se135, pr137⟩ : Msg)).2.1).seq), .int .i64 (((pushR J47 R (⟨2, x152, a127, lo41, a129, a130, a131, a132, se135, pr137⟩ : Msg)).2.1).next), .int .i64 (((pushR J47 R (⟨2, x152, a127, lo41, a129, a130, a131, a132, se135, pr137⟩ : Msg)).2.1).ep), .int .i64 (((pushR J47 R (⟨2, x152, a127, lo41, a129, a130, a131, a132, se135, pr137⟩ : Msg)).2.1).why), .slice none 0 0, .slice none 0 0] 64, osl kRec (.slice A158 rs156.length c159) rs156, osl (kInt .i64) (.slice A100 ((mergedL J47.us.length R).length) c101) (mergedL J47.us.length R), blk b99 (arr6 hq) 83, prsS (gg) hq, blk b147 [.int .i64 2, .int .i64 x152, .int .i64 a127, .int .i64 lo41, .int .i64 a129, .int .i64 a130, .int .i64 a131, .int .i64 a132, .slice A138 se135.length c139, .slice A140 pr137.length c141] 64] [rsl (kHd kPair) (.slice A1 C.J.us.length c2) C.J.us, rsl (kSl kPair) (.slice A1 C.J.us.length c2) ss, rsl kIns (.slice A6 C.J.map.length c7) C.J.map, rsl kIns (.slice A11 C.J.comb.length c12) C.J.comb, rsl kIns (.slice A16 C.J.red.length c17) C.J.red, rsl (kInt .i64) (.slice A21 C.J.marks.length c22) C.J.marks, rsl kA21 (.slice A26 acts.length c27) acts, rsl kA21 (.slice A31 more.length c32) more, gl] := H
          obtain ⟨A170, c171, rfl, hc172, hm173, hp174⟩ := H.fA 0 rfl
          replace H := H.p7.p7.p7.p7.p5.p7.p7
          refine d_back ⟨_, H⟩ (d_val rfl rfl rfl (fun w ⟨Ar, H⟩ => r_lenL rfl un29 rfl) (d_val rfl rfl rfl (fun w ⟨Ar, H⟩ => r_ne rfl rfl rfl) (d_1 rfl (d_nil (q_then ?_)))))
          replace H := H.p7.p6.p6.p6.p6.k5
          refine c_dec rfl (fun h175 => ?_) (fun h175 => ?_)
          ·exact (h175 (by omega)).elim
          ·refine c_skip (q_blockN (q_then ?_))
           replace H := H.k4
           exact c_reg (s_1 rfl (s_val rfl rfl (r_add (z := ((j + 1 : Nat) : Int)) rfl rfl rfl (by rw [w64 (by omega) (by omega)]; omega)) (s_1 rfl (s_nil (q_round (s := j) (j + 1) ⟨rfl, rfl, rfl, rfl, rfl, rfl, trivial⟩ ⟨H, by (try dsimp only); omega⟩ (by (try dsimp only); omega))))))
       ·refine c_exit (q_thenE (q_thenE (q_blockE (q_then (c_seq (c_seq (c_reg (s_1 rfl (s_nil (q_then (c_block (c_loop (σ := Nat) (fun j => [(9, .pointer (some ⟨r40, 0, none⟩)), (13, .slice A100 ((mergedL J47.us.length R).length) c101), (14, .pointer (some ⟨b99, 0, none⟩)), (20, .int .i64 ((j : Nat) : Int))]) (fun j w => (Hd w0 F0 w [redI r40 (.slice A93 J47.us.length c94) vM43 vC44 vR45 vK46 J47 C.w C.t C.o sb48 R, osl (kInt .i64) (.slice A100 ((mergedL J47.us.length R).length) c101) (mergedL J47.us.length R), blk b99 (arr6 hq) 83, prsS (gg) hq] [rsl (kHd kPair) (.slice A1 C.J.us.length c2) C.J.us, rsl (kSl kPair) (.slice A1 C.J.us.length c2) ss, rsl kIns (.slice A6 C.J.map.length c7) C.J.map, rsl kIns (.slice A11 C.J.comb.length c12) C.J.comb, rsl kIns (.slice A16 C.J.red.length c17) C.J.red, rsl (kInt .i64) (.slice A21 C.J.marks.length c22) C.J.marks, rsl kA21 (.slice A26 acts.length c27) acts, rsl kA21 (.slice A31 more.length c32) more, gl]) ∧ (j ≤ (mergedL J47.us.length R).length)) (fun j => (mergedL J47.us.length R).length - j) 0 ⟨rfl, rfl, rfl, rfl, trivial⟩ ⟨H, Nat.zero_le _⟩ ?_))))))))))))
        rintro j w ⟨H, hj⟩
        refine c_seq (c_seq (c_reg (s_k 2 rfl (s_val rfl rfl (r_lenL rfl un24 rfl) (s_val rfl rfl (r_lt rfl rfl rfl) (s_nil (q_then ?_)))))))
        refine c_dec rfl (fun h176 => ?_) (fun h176 => ?_)
        ·refine c_skip (q_then (c_seq (c_block (c_seq ?_))))
         obtain ⟨x177, hx178⟩ : ∃ z9, (mergedL J47.us.length R)[j]? = some z9 := ⟨_, List.getElem?_eq_getElem (show j < (mergedL J47.us.length R).length by omega)⟩
         have hmi := merged_in hx178
         refine c_ord (.e 0 (.e 1 (.e 2 (.e 3 (.e 4 (.e 6 (.e 7 (.e 8 (.e 9 (.e 10 (.e 11 (.m 5 (.m 12 (.e 13 .z)))))))))))))) (fun w => ∃ Ar, Hd w0 F0 w (redI r40 (.slice A93 J47.us.length c94) vM43 vC44 vR45 vK46 J47 C.w C.t C.o sb48 R :: osl (kInt .i64) (.slice A100 ((mergedL J47.us.length R).length) c101) (mergedL J47.us.length R) :: blk b99 (arr6 hq) 83 :: prsS (gg) hq :: Ar) [rsl (kHd kPair) (.slice A1 C.J.us.length c2) C.J.us, rsl (kSl kPair) (.slice A1 C.J.us.length c2) ss, rsl kIns (.slice A6 C.J.map.length c7) C.J.map, rsl kIns (.slice A11 C.J.comb.length c12) C.J.comb, rsl kIns (.slice A16 C.J.red.length c17) C.J.red, rsl (kInt .i64) (.slice A21 C.J.marks.length c22) C.J.marks, rsl kA21 (.slice A26 acts.length c27) acts, rsl kA21 (.slice A31 more.length c32) more, gl]) mo (by kernel_rfl) (fun w H => ⟨_, H⟩) H (fun w H => (d_1 rfl (d_1 rfl (d_1 rfl ?_))))
         have th179 := H.thA 1 rfl hx178
         refine d_val rfl rfl rfl (fun w ⟨Ar, H⟩ => r_iaE (p := oOf A100 + j * 1) rfl sl24 rfl rfl (by omega) (by omega) th179 rfl) (d_val rfl rfl rfl (fun w ⟨Ar, H⟩ => r_ld rfl ty3 rfl (H.elA 1 rfl hx178 (q := 0) rfl rfl)) (d_1 rfl (d_1 rfl ?_)))
         have th180 := H.thA 1 rfl hx178
         refine d_val rfl rfl rfl (fun w ⟨Ar, H⟩ => r_iaE (p := oOf A100 + j * 1) rfl sl24 rfl rfl (by omega) (by omega) th180 rfl) (d_val rfl rfl rfl (fun w ⟨Ar, H⟩ => r_ld rfl ty3 rfl (H.elA 1 rfl hx178 (q := 0) rfl rfl)) (d_val rfl rfl rfl (fun w ⟨Ar, H⟩ => r_iaB (p := 0 + (x177).toNat * 1) rfl un83 is35 rfl rfl (by omega) (by omega) (by omega)) ?_))
         obtain ⟨A181, c182, e183, _, _, _⟩ := H.prsForm (i := (x177).toNat) 3 rfl (by omega)
         refine d_val rfl rfl rfl (fun w ⟨Ar, H⟩ => r_ld rfl ty35 rfl (H.cellI 2 rfl ((arr6_at1 (by omega)).trans (congrArg some e183)))) (d_main rfl ?_)
         obtain ⟨hv184, vs185, us186, hsets187, H⟩ := redI_open r40 (.slice A93 J47.us.length c94) vM43 vC44 vR45 vK46 J47 C.w C.t C.o sb48 R H
         replace H : Hd _ _ _ [blk r40 (redC (.slice A93 J47.us.length c94) vM43 vC44 vR45 vK46 J47 C.w C.t C.o R.part R.ep R.g hv184 sb48 vs185) 185, osl (kHd kPair) (.slice A93 J47.us.length c94) J47.us, osl kIns vM43 J47.map, osl kIns vC44 J47.comb, osl kIns vR45 J47.red, osl (kInt .i64) vK46 J47.marks, prsS (R.g) hv184, osl (kHd (kInt .i64)) vs185 us186, stgI 253 sb48 (R.st), osl (kInt .i64) (.slice A100 ((mergedL J47.us.length R).length) c101) (mergedL J47.us.length R), blk b99 (arr6 hq) 83, prsS (gg) hq] [rsl (kHd kPair) (.slice A1 C.J.us.length c2) C.J.us, rsl (kSl kPair) (.slice A1 C.J.us.length c2) ss, rsl kIns (.slice A6 C.J.map.length c7) C.J.map, rsl kIns (.slice A11 C.J.comb.length c12) C.J.comb, rsl kIns (.slice A16 C.J.red.length c17) C.J.red, rsl (kInt .i64) (.slice A21 C.J.marks.length c22) C.J.marks, rsl kA21 (.slice A26 acts.length c27) acts, rsl kA21 (.slice A31 more.length c32) more, gl] := H
         refine sc (rpairs_ok r40 A93 c94 vM43 vC44 vR45 vK46 J47 C.w C.t C.o R.part R.ep R hv184 sb48 vs185 x177 (by first | assumption | omega | exact OkR.pairs (by assumption) | exact OkR.mono (by assumption) (by omega) | (unfold In64; omega)) (by first | assumption | omega | exact OkR.pairs (by assumption) | exact OkR.mono (by assumption) (by omega) | (unfold In64; omega))) H (lA 0 rfl (fun _ h => h) (lA 6 rfl (fun _ h => h) l0)) rfl rfl (e_fn kn52 rfl rfl) ?_
         rintro v188 _ w rfl H
         replace H := H.h1 (A := osl kPair v188 (pairsR J47.us.length R x177)) |>.p9 |>.p9 |>.p9 |>.p9 |>.p9 |>.p9 |>.p9 |>.p9 |>.p9
         replace H := redI_shut r40 (.slice A93 J47.us.length c94) vM43 vC44 vR45 vK46 J47 C.w C.t C.o sb48 R hv184 vs185 us186 hsets187 H
         replace H := H.h1 (A := redI r40 (.slice A93 J47.us.length c94) vM43 vC44 vR45 vK46 J47 C.w C.t C.o sb48 R) |>.p4 |>.p4 |>.p4 |>.p3
         refine d_back ⟨_, H⟩ (d_main rfl (sc (samePairs_ok v188 (.slice A181 ((gg ((x177).toNat)).pairs.length) c182) (pairsR J47.us.length R x177) ((gg ((x177).toNat)).pairs)) H (lA 4 rfl own_rd (lX (fun F hA hR => by rw [← e183]; exact prs_rd (by omega) (hA _ (List.mem_of_getElem? (i := 3) rfl))) l0)) rfl rfl (e_fn kn25 rfl rfl) ?_))
         rintro _ _ w ⟨rfl, rfl⟩ H
         refine d_back ⟨_, H⟩ (d_val rfl rfl rfl (fun w ⟨Ar, H⟩ => r_notP rfl rfl) (d_nil (q_then ?_)))
         replace H := H.k4
         refine c_dec rfl (fun h189 => ?_) (fun h189 => ?_)
         ·exact absurd (hg j _ (by omega) hx178).symm h189
         ·exact c_skip (q_blockN (q_then (c_reg (s_1 rfl (s_val rfl rfl (r_add (z := ((j + 1 : Nat) : Int)) rfl rfl rfl (by rw [w64 (by omega) (by omega)]; omega)) (s_1 rfl (s_nil (q_round (s := j) (j + 1) ⟨rfl, rfl, rfl, rfl, trivial⟩ ⟨H, by (try dsimp only); omega⟩ (by (try dsimp only); omega)))))))))
        ·refine c_exit (q_thenE (q_thenE (q_blockE (q_then ?_))))
         replace H := H.k2
         refine c_seq (c_reg (s_1 rfl ?_))
         obtain ⟨hv190, vs191, us192, hsets193, H⟩ := redI_open r40 (.slice A93 J47.us.length c94) vM43 vC44 vR45 vK46 J47 C.w C.t C.o sb48 R H
         replace H : Hd _ _ _ [blk r40 (redC (.slice A93 J47.us.length c94) vM43 vC44 vR45 vK46 J47 C.w C.t C.o R.part R.ep R.g hv190 sb48 vs191) 185, osl (kHd kPair) (.slice A93 J47.us.length c94) J47.us, osl kIns vM43 J47.map, osl kIns vC44 J47.comb, osl kIns vR45 J47.red, osl (kInt .i64) vK46 J47.marks, prsS (R.g) hv190, osl (kHd (kInt .i64)) vs191 us192, stgI 253 sb48 (R.st), osl (kInt .i64) (.slice A100 ((mergedL J47.us.length R).length) c101) (mergedL J47.us.length R)] [rsl (kHd kPair) (.slice A1 C.J.us.length c2) C.J.us, rsl (kSl kPair) (.slice A1 C.J.us.length c2) ss, rsl kIns (.slice A6 C.J.map.length c7) C.J.map, rsl kIns (.slice A11 C.J.comb.length c12) C.J.comb, rsl kIns (.slice A16 C.J.red.length c17) C.J.red, rsl (kInt .i64) (.slice A21 C.J.marks.length c22) C.J.marks, rsl kA21 (.slice A26 acts.length c27) acts, rsl kA21 (.slice A31 more.length c32) more, gl] := H
         refine sc (merged_ok r40 A93 c94 vM43 vC44 vR45 vK46 J47 C.w C.t C.o R.part R.ep R hv190 sb48 vs191 (by first | assumption | omega | exact OkR.pairs (by assumption) | exact OkR.mono (by assumption) (by omega) | (unfold In64; omega))) H (lA 0 rfl (fun _ h => h) l0) rfl rfl (e_fn kn51 rfl rfl) ?_
         rintro v194 _ w rfl H
         replace H := H.h1 (A := osl (kInt .i64) v194 (mergedL J47.us.length R)) |>.p9 |>.p9 |>.p9 |>.p9 |>.p9 |>.p9 |>.p9 |>.p9 |>.p9
         replace H := redI_shut r40 (.slice A93 J47.us.length c94) vM43 vC44 vR45 vK46 J47 C.w C.t C.o sb48 R hv190 vs191 us192 hsets193 H
         replace H := H.h1 (A := redI r40 (.slice A93 J47.us.length c94) vM43 vC44 vR45 vK46 J47 C.w C.t C.o sb48 R)
         refine s_1 rfl (sc (sameInts_ok v194 (.slice A100 ((mergedL J47.us.length R).length) c101) (mergedL J47.us.length R) (mergedL J47.us.length R)) H (lA 1 rfl own_rd (lA 2 rfl own_rd l0)) rfl rfl (e_fn kn33 rfl rfl) ?_)
         rintro _ _ w ⟨rfl, rfl⟩ H
         refine s_1 rfl ?_
         refine s_dec (d := 175) rfl (fun h195 => ?_) (fun h195 => ?_)
         ·refine sc (awake21_ok) H (lR 8 rfl l0) rfl rfl (e_fn kn47 rfl rfl) ?_
          rintro _ _ w ⟨rfl, rfl⟩ H
          refine s_k 2 rfl (s_nil (q_then ?_))
          replace H := H.nil
          replace H : Hd _ _ _ [] [rsl (kHd kPair) (.slice A1 C.J.us.length c2) C.J.us, rsl (kSl kPair) (.slice A1 C.J.us.length c2) ss, rsl kIns (.slice A6 C.J.map.length c7) C.J.map, rsl kIns (.slice A11 C.J.comb.length c12) C.J.comb, rsl kIns (.slice A16 C.J.red.length c17) C.J.red, rsl (kInt .i64) (.slice A21 C.J.marks.length c22) C.J.marks, rsl kA21 (.slice A26 acts.length c27) acts, rsl kA21 (.slice A31 more.length c32) more, gl] := H
          exact c_ret (q_ret1 rfl rfl (fin ⟨rfl, rfl⟩ H))
         ·exact (h195 rfl).elim
      ·refine s_k 4 rfl (s_nil (q_then (c_no rfl (c_exit (q_thenE (q_thenE (q_blockE (q_then (c_seq (c_seq (c_reg (s_1 rfl (s_nil (q_then (c_block (c_loop (σ := Nat) (fun j => [(9, .pointer (some ⟨r40, 0, none⟩)), (13, .slice A100 ((mergedL J47.us.length R).length) c101), (14, .pointer (some ⟨b99, 0, none⟩)), (20, .int .i64 ((j : Nat) : Int))]) (fun j w => (Hd w0 F0 w [redI r40 (.slice A93 J47.us.length c94) vM43 vC44 vR45 vK46 J47 C.w C.t C.o sb48 R, osl (kInt .i64) (.slice A100 ((mergedL J47.us.length R).length) c101) (mergedL J47.us.length R), blk b99 (arr6 hq) 83, prsS (gg) hq] [rsl (kHd kPair) (.slice A1 C.J.us.length c2) C.J.us, rsl (kSl kPair) (.slice A1 C.J.us.length c2) ss, rsl kIns (.slice A6 C.J.map.length c7) C.J.map, rsl kIns (.slice A11 C.J.comb.length c12) C.J.comb, rsl kIns (.slice A16 C.J.red.length c17) C.J.red, rsl (kInt .i64) (.slice A21 C.J.marks.length c22) C.J.marks, rsl kA21 (.slice A26 acts.length c27) acts, rsl kA21 (.slice A31 more.length c32) more, gl]) ∧ (j ≤ (mergedL J47.us.length R).length)) (fun j => (mergedL J47.us.length R).length - j) 0 ⟨rfl, rfl, rfl, rfl, trivial⟩ ⟨H, Nat.zero_le _⟩ ?_))))))))))))))))
       rintro j w ⟨H, hj⟩
       refine c_seq (c_seq (c_reg (s_k 2 rfl (s_val rfl rfl (r_lenL rfl un24 rfl) (s_val rfl rfl (r_lt rfl rfl rfl) (s_nil (q_then ?_)))))))
       refine c_dec rfl (fun h196 => ?_) (fun h196 => ?_)
       ·refine c_skip (q_then (c_seq (c_block (c_seq ?_))))
        obtain ⟨x197, hx198⟩ : ∃ z9, (mergedL J47.us.length R)[j]? = some z9 := ⟨_, List.getElem?_eq_getElem (show j < (mergedL J47.us.length R).length by omega)⟩
        have hmi := merged_in hx198
        refine c_ord (.e 0 (.e 1 (.e 2 (.e 3 (.e 4 (.e 6 (.e 7 (.e 8 (.e 9 (.e 10 (.e 11 (.m 5 (.m 12 (.e 13 .z)))))))))))))) (fun w => ∃ Ar, Hd w0 F0 w (redI r40 (.slice A93 J47.us.length c94) vM43 vC44 vR45 vK46 J47 C.w C.t C.o sb48 R :: osl (kInt .i64) (.slice A100 ((mergedL J47.us.length R).length) c101) (mergedL J47.us.length R) :: blk b99 (arr6 hq) 83 :: prsS (gg) hq :: Ar) [rsl (kHd kPair) (.slice A1 C.J.us.length c2) C.J.us, rsl (kSl kPair) (.slice A1 C.J.us.length c2) ss, rsl kIns (.slice A6 C.J.map.length c7) C.J.map, rsl kIns (.slice A11 C.J.comb.length c12) C.J.comb, rsl kIns (.slice A16 C.J.red.length c17) C.J.red, rsl (kInt .i64) (.slice A21 C.J.marks.length c22) C.J.marks, rsl kA21 (.slice A26 acts.length c27) acts, rsl kA21 (.slice A31 more.length c32) more, gl]) mo (by kernel_rfl) (fun w H => ⟨_, H⟩) H (fun w H => (d_1 rfl (d_1 rfl (d_1 rfl ?_))))
        have th199 := H.thA 1 rfl hx198
        refine d_val rfl rfl rfl (fun w ⟨Ar, H⟩ => r_iaE (p := oOf A100 + j * 1) rfl sl24 rfl rfl (by omega) (by omega) th199 rfl) (d_val rfl rfl rfl (fun w ⟨Ar, H⟩ => r_ld rfl ty3 rfl (H.elA 1 rfl hx198 (q := 0) rfl rfl)) (d_1 rfl (d_1 rfl ?_)))
        have th200 := H.thA 1 rfl hx198
        refine d_val rfl rfl rfl (fun w ⟨Ar, H⟩ => r_iaE (p := oOf A100 + j * 1) rfl sl24 rfl rfl (by omega) (by omega) th200 rfl) (d_val rfl rfl rfl (fun w ⟨Ar, H⟩ => r_ld rfl ty3 rfl (H.elA 1 rfl hx198 (q := 0) rfl rfl)) (d_val rfl rfl rfl (fun w ⟨Ar, H⟩ => r_iaB (p := 0 + (x197).toNat * 1) rfl un83 is35 rfl rfl (by omega) (by omega) (by omega)) ?_))
        obtain ⟨A201, c202, e203, _, _, _⟩ := H.prsForm (i := (x197).toNat) 3 rfl (by omega)
        refine d_val rfl rfl rfl (fun w ⟨Ar, H⟩ => r_ld rfl ty35 rfl (H.cellI 2 rfl ((arr6_at1 (by omega)).trans (congrArg some e203)))) (d_main rfl ?_)
        obtain ⟨hv204, vs205, us206, hsets207, H⟩ := redI_open r40 (.slice A93 J47.us.length c94) vM43 vC44 vR45 vK46 J47 C.w C.t C.o sb48 R H
        replace H : Hd _ _ _ [blk r40 (redC (.slice A93 J47.us.length c94) vM43 vC44 vR45 vK46 J47 C.w C.t C.o R.part R.ep R.g hv204 sb48 vs205) 185, osl (kHd kPair) (.slice A93 J47.us.length c94) J47.us, osl kIns vM43 J47.map, osl kIns vC44 J47.comb, osl kIns vR45 J47.red, osl (kInt .i64) vK46 J47.marks, prsS (R.g) hv204, osl (kHd (kInt .i64)) vs205 us206, stgI 253 sb48 (R.st), osl (kInt .i64) (.slice A100 ((mergedL J47.us.length R).length) c101) (mergedL J47.us.length R), blk b99 (arr6 hq) 83, prsS (gg) hq] [rsl (kHd kPair) (.slice A1 C.J.us.length c2) C.J.us, rsl (kSl kPair) (.slice A1 C.J.us.length c2) ss, rsl kIns (.slice A6 C.J.map.length c7) C.J.map, rsl kIns (.slice A11 C.J.comb.length c12) C.J.comb, rsl kIns (.slice A16 C.J.red.length c17) C.J.red, rsl (kInt .i64) (.slice A21 C.J.marks.length c22) C.J.marks, rsl kA21 (.slice A26 acts.length c27) acts, rsl kA21 (.slice A31 more.length c32) more, gl] := H
        refine sc (rpairs_ok r40 A93 c94 vM43 vC44 vR45 vK46 J47 C.w C.t C.o R.part R.ep R hv204 sb48 vs205 x197 (by first | assumption | omega | exact OkR.pairs (by assumption) | exact OkR.mono (by assumption) (by omega) | (unfold In64; omega)) (by first | assumption | omega | exact OkR.pairs (by assumption) | exact OkR.mono (by assumption) (by omega) | (unfold In64; omega))) H (lA 0 rfl (fun _ h => h) (lA 6 rfl (fun _ h => h) l0)) rfl rfl (e_fn kn52 rfl rfl) ?_
        rintro v208 _ w rfl H
        replace H := H.h1 (A := osl kPair v208 (pairsR J47.us.length R x197)) |>.p9 |>.p9 |>.p9 |>.p9 |>.p9 |>.p9 |>.p9 |>.p9 |>.p9
        replace H := redI_shut r40 (.slice A93 J47.us.length c94) vM43 vC44 vR45 vK46 J47 C.w C.t C.o sb48 R hv204 vs205 us206 hsets207 H
        replace H := H.h1 (A := redI r40 (.slice A93 J47.us.length c94) vM43 vC44 vR45 vK46 J47 C.w C.t C.o sb48 R) |>.p4 |>.p4 |>.p4 |>.p3
        refine d_back ⟨_, H⟩ (d_main rfl (sc (samePairs_ok v208 (.slice A201 ((gg ((x197).toNat)).pairs.length) c202) (pairsR J47.us.length R x197) ((gg ((x197).toNat)).pairs)) H (lA 4 rfl own_rd (lX (fun F hA hR => by rw [← e203]; exact prs_rd (by omega) (hA _ (List.mem_of_getElem? (i := 3) rfl))) l0)) rfl rfl (e_fn kn25 rfl rfl) ?_))
        rintro _ _ w ⟨rfl, rfl⟩ H
        refine d_back ⟨_, H⟩ (d_val rfl rfl rfl (fun w ⟨Ar, H⟩ => r_notP rfl rfl) (d_nil (q_then ?_)))
        replace H := H.k4
        refine c_dec rfl (fun h209 => ?_) (fun h209 => ?_)
        ·exact absurd (hg j _ (by omega) hx198).symm h209
        ·exact c_skip (q_blockN (q_then (c_reg (s_1 rfl (s_val rfl rfl (r_add (z := ((j + 1 : Nat) : Int)) rfl rfl rfl (by rw [w64 (by omega) (by omega)]; omega)) (s_1 rfl (s_nil (q_round (s := j) (j + 1) ⟨rfl, rfl, rfl, rfl, trivial⟩ ⟨H, by (try dsimp only); omega⟩ (by (try dsimp only); omega)))))))))
       ·refine c_exit (q_thenE (q_thenE (q_blockE (q_then ?_))))
        replace H := H.k2
        refine c_seq (c_reg (s_1 rfl ?_))
        obtain ⟨hv210, vs211, us212, hsets213, H⟩ := redI_open r40 (.slice A93 J47.us.length c94) vM43 vC44 vR45 vK46 J47 C.w C.t C.o sb48 R H
        replace H : Hd _ _ _ [blk r40 (redC (.slice A93 J47.us.length c94) vM43 vC44 vR45 vK46 J47 C.w C.t C.o R.part R.ep R.g hv210 sb48 vs211) 185, osl (kHd kPair) (.slice A93 J47.us.length c94) J47.us, osl kIns vM43 J47.map, osl kIns vC44 J47.comb, osl kIns vR45 J47.red, osl (kInt .i64) vK46 J47.marks, prsS (R.g) hv210, osl (kHd (kInt .i64)) vs211 us212, stgI 253 sb48 (R.st), osl (kInt .i64) (.slice A100 ((mergedL J47.us.length R).length) c101) (mergedL J47.us.length R)] [rsl (kHd kPair) (.slice A1 C.J.us.length c2) C.J.us, rsl (kSl kPair) (.slice A1 C.J.us.length c2) ss, rsl kIns (.slice A6 C.J.map.length c7) C.J.map, rsl kIns (.slice A11 C.J.comb.length c12) C.J.comb, rsl kIns (.slice A16 C.J.red.length c17) C.J.red, rsl (kInt .i64) (.slice A21 C.J.marks.length c22) C.J.marks, rsl kA21 (.slice A26 acts.length c27) acts, rsl kA21 (.slice A31 more.length c32) more, gl] := H
        refine sc (merged_ok r40 A93 c94 vM43 vC44 vR45 vK46 J47 C.w C.t C.o R.part R.ep R hv210 sb48 vs211 (by first | assumption | omega | exact OkR.pairs (by assumption) | exact OkR.mono (by assumption) (by omega) | (unfold In64; omega))) H (lA 0 rfl (fun _ h => h) l0) rfl rfl (e_fn kn51 rfl rfl) ?_
        rintro v214 _ w rfl H
        replace H := H.h1 (A := osl (kInt .i64) v214 (mergedL J47.us.length R)) |>.p9 |>.p9 |>.p9 |>.p9 |>.p9 |>.p9 |>.p9 |>.p9 |>.p9
        replace H := redI_shut r40 (.slice A93 J47.us.length c94) vM43 vC44 vR45 vK46 J47 C.w C.t C.o sb48 R hv210 vs211 us212 hsets213 H
        replace H := H.h1 (A := redI r40 (.slice A93 J47.us.length c94) vM43 vC44 vR45 vK46 J47 C.w C.t C.o sb48 R)
        refine s_1 rfl (sc (sameInts_ok v214 (.slice A100 ((mergedL J47.us.length R).length) c101) (mergedL J47.us.length R) (mergedL J47.us.length R)) H (lA 1 rfl own_rd (lA 2 rfl own_rd l0)) rfl rfl (e_fn kn33 rfl rfl) ?_)
        rintro _ _ w ⟨rfl, rfl⟩ H
        refine s_1 rfl ?_
        refine s_dec (d := 175) rfl (fun h215 => ?_) (fun h215 => ?_)
        ·refine sc (awake21_ok) H (lR 8 rfl l0) rfl rfl (e_fn kn47 rfl rfl) ?_
         rintro _ _ w ⟨rfl, rfl⟩ H
         refine s_k 2 rfl (s_nil (q_then ?_))
         replace H := H.nil
         replace H : Hd _ _ _ [] [rsl (kHd kPair) (.slice A1 C.J.us.length c2) C.J.us, rsl (kSl kPair) (.slice A1 C.J.us.length c2) ss, rsl kIns (.slice A6 C.J.map.length c7) C.J.map, rsl kIns (.slice A11 C.J.comb.length c12) C.J.comb, rsl kIns (.slice A16 C.J.red.length c17) C.J.red, rsl (kInt .i64) (.slice A21 C.J.marks.length c22) C.J.marks, rsl kA21 (.slice A26 acts.length c27) acts, rsl kA21 (.slice A31 more.length c32) more, gl] := H
         exact c_ret (q_ret1 rfl rfl (fin ⟨rfl, rfl⟩ H))
        ·exact (h215 rfl).elim
theorem reducerOnce_ok (vS vM vC vR vK : Value) (ss : List (List Pair)) (map comb red : List Ins) (marks : List Int) (parts chunk window fuel : Int) (wj : ((∀ x ∈ ss, (∀ p ∈ x, p.key.size ≤ 9223372036854775807 ∧ p.val.size ≤ 9223372036854775807) ∧ x.length ≤ 9223372036854775807) ∧ ss.length ≤ 9223372036854775807) ∧ ((∀ p ∈ map, In64 p.op ∧ In64 p.a ∧ p.s.size ≤ 9223372036854775807) ∧ map.length ≤ 9223372036854775807) ∧ ((∀ p ∈ comb, In64 p.op ∧ In64 p.a ∧ p.s.size ≤ 9223372036854775807) ∧ comb.length ≤ 9223372036854775807) ∧ ((∀ p ∈ red, In64 p.op ∧ In64 p.a ∧ p.s.size ≤ 9223372036854775807) ∧ red.length ≤ 9223372036854775807) ∧ (∀ x ∈ marks, In64 x) ∧ marks.length ≤ 9223372036854775807) (wn : In64 parts ∧ In64 chunk ∧ In64 window ∧ In64 fuel) (cw ct co : Int) (wc : In64 cw ∧ In64 ct ∧ In64 co) (k1 : Int) (g1 : In64 k1) (va : Value) (acts : List (Two A21H)) (wacts : (∀ x ∈ acts, (InT (fun a : A21H => InM a.m ∧ In64 a.n) (fun p : Pair => p.key.size ≤ 9223372036854775807 ∧ p.val.size ≤ 9223372036854775807)) x) ∧ acts.length ≤ 9223372036854775807) (vm : Value) (more : List (Two A21H)) (wmore : (∀ x ∈ more, (InT (fun a : A21H => InM a.m ∧ In64 a.n) (fun p : Pair => p.key.size ≤ 9223372036854775807 ∧ p.val.size ≤ 9223372036854775807)) x) ∧ more.length ≤ 9223372036854775807) :
  Cn Tryz.prog 7 [.agg #[vS, .int .i64 parts, vM, vC, vR, .int .i64 chunk, .int .i64 window, .int .i64 fuel, vK, .int .i64 cw, .int .i64 ct, .int .i64 co], .int .i64 k1, va, vm] [] [rsl (kSl kPair) vS ss, rsl kIns vM map, rsl kIns vC comb, rsl kIns vR red, rsl (kInt .i64) vK marks, rsl kA21 va acts, rsl kA21 vm more, gl] (fun v Bs => v = .bool true ∧ Bs = []) :=
 Cn.heads0 fun us hus => reducerOnceC_ok vS vM vC vR vK ⟨⟨us, parts, map, comb, red, chunk, window, fuel, marks⟩, cw, ct, co⟩ ss (fun i hi => (wj.2.1.1 i hi).2.1) (fun i hi => (wj.2.2.1.1 i hi).2.1) (fun i hi => (wj.2.2.2.1.1 i hi).2.1) k1 g1 va acts wacts vm more wmore

end Go.Proofs.YthgehekecfpikaaGreatDoor.X

set_option linter.unusedVariables false
set_option linter.unusedSimpArgs false
namespace Go.Proofs.YthgehekecfpikaaGreatDoor.X
open Go
theorem v_foot {P : Program} {W : World} {name : String} {g : Nat} {cs : Array Value} (hg : P.globalNamed name = some g) (h : W.var? P name = some cs) : Old W g := by
 unfold World.var? at h
 rw [hg] at h
 simp only [Option.bind_some] at h
 show g < W.heap.size
 rcases Nat.lt_or_ge g W.heap.size with h' | h'
 ·exact h'
 ·simp [Array.getElem?_eq_none h'] at h
theorem star2 : "*" ++ "errors.errorString" = "*errors.errorString" := by decide
theorem ptrRow (u : TypeId) (h : Tryz.prog.typeName? 3 u = some "*errors.errorString") : u = 409 := typeName_ptr_named (nm := "errors.errorString") (by rw [star2]; kernel_rfl) (by kernel_rfl) (by decide) u (by rw [star2]; exact h)
theorem gn0 : Tryz.prog.globalNamed "internal/strconv.uint64pow10" = some 2 := by kernel_rfl
theorem gt0 : (Tryz.prog.globals[2]?).map (·.type) = some 406 := by kernel_rfl
theorem gn1 : Tryz.prog.globalNamed "strconv.ErrSyntax" = some 0 := by kernel_rfl
theorem gt1 : (Tryz.prog.globals[0]?).map (·.type) = some 370 := by kernel_rfl
theorem gn2 : Tryz.prog.globalNamed "strconv.ErrRange" = some 1 := by kernel_rfl
theorem gt2 : (Tryz.prog.globals[1]?).map (·.type) = some 370 := by kernel_rfl
theorem lu370 : Tryz.prog.underlying 370 = some (.interface (Tryz.prog.methodsAt 370)) := by kernel_rfl
theorem lu406 : Tryz.prog.underlying 406 = some (.array 20 270) := by kernel_rfl
theorem lu270 : Tryz.prog.underlying 270 = some (.int .u64) := by kernel_rfl
theorem lu409 : Tryz.prog.underlying 409 = some (.pointer 411) := by kernel_rfl
theorem lu411 : Tryz.prog.underlying 411 = some (.struct #[⟨ "s", 9, 0, false, "", "errors", 0⟩]) := by kernel_rfl
theorem lu9 : Tryz.prog.underlying 9 = some (.string) := by kernel_rfl
theorem lc270 : Tryz.prog.cellsOf 270 = 1 := by kernel_rfl
theorem lc406 : Tryz.prog.cellsOf 406 = 20 := by kernel_rfl
theorem lc411 : Tryz.prog.cellsOf 411 = 1 := by kernel_rfl
theorem lc9 : Tryz.prog.cellsOf 9 = 1 := by kernel_rfl
theorem gl_laid {W : World} (h : laidMet Tryz.prog Rows.checkOrdersRow.laid W) : gl.P W (Old W) := by
 refine ⟨?_, ?_, ?_⟩
 ·have h0 : laidMet Tryz.prog [("internal/strconv.uint64pow10", Lib.tabData .u64 Lib.pow10Tab)] W := by
   have e : Rows.checkOrdersRow.laid.filter (fun x => x.1 == "internal/strconv.uint64pow10") = [("internal/strconv.uint64pow10", Lib.tabData .u64 Lib.pow10Tab)] := by kernel_rfl
   have := h.filter (fun x => x.1 == "internal/strconv.uint64pow10"); rw [e] at this; exact this
  have hv := Lib.tabIs_of_head gn0 gt0 lu406 lu270 lc270 lc406 h0
  exact ⟨_, gn0, v_foot gn0 hv, _, hv, rfl⟩
 ·have h0 : laidMet Tryz.prog [("strconv.ErrSyntax", Rows.laid_strconv_ErrSyntax)] W := by
   have e : Rows.checkOrdersRow.laid.filter (fun x => x.1 == "strconv.ErrSyntax") = [("strconv.ErrSyntax", Rows.laid_strconv_ErrSyntax)] := by kernel_rfl
   have := h.filter (fun x => x.1 == "strconv.ErrSyntax"); rw [e] at this; exact this
  obtain ⟨a0, s0, hv, -⟩ := laid_sentinel h0 gn1 gt1 lu370 ptrRow lu409 lu411 rfl rfl lu9 lc411 lc9
  exact ⟨_, gn1, v_foot gn1 hv, _, hv, _, _, rfl⟩
 ·have h0 : laidMet Tryz.prog [("strconv.ErrRange", Rows.laid_strconv_ErrRange)] W := by
   have e : Rows.checkOrdersRow.laid.filter (fun x => x.1 == "strconv.ErrRange") = [("strconv.ErrRange", Rows.laid_strconv_ErrRange)] := by kernel_rfl
   have := h.filter (fun x => x.1 == "strconv.ErrRange"); rw [e] at this; exact this
  obtain ⟨a0, s0, hv, -⟩ := laid_sentinel h0 gn2 gt2 lu370 ptrRow lu409 lu411 rfl rfl lu9 lc411 lc9
  exact ⟨_, gn2, v_foot gn2 hv, _, hv, _, _, rfl⟩
end Go.Proofs.YthgehekecfpikaaGreatDoor.X

