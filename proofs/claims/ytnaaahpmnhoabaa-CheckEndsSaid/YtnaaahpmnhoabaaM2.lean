/- Snapshots: when one is due, how many marks are reached, which set grows; the same of the references. -/
import Derived.Test.YtnaaahpmnhoabaaM1
set_option linter.unusedVariables false
set_option linter.unusedSimpArgs false
namespace Go.Proofs.Ytnaaahpmnhoabaa.X
open Go
set_option maxHeartbeats 1000000 in
theorem low_ok (x : Int) (n : Int) (hx : In64 x) (h0 : 0 < n) (hn : n ≤ 9223372036854775807) :
    Cn Try.prog 30 [.int .i64 x, .int .i64 n] [] [] (fun v Bs => v = .int .i64 (IntKind.u64.wrap x % n) ∧ Bs = []) := by
  intro w0 F0 H
  refine enter (args := [.int .i64 x, .int .i64 n]) Try.func30 rfl rfl (Nat.le_of_ble_eq_true rfl) ?_
  refine c_seq ?_
  refine c_reg ?_
  refine s_val rfl rfl (r_as rfl rfl) ?_
  refine s_nil ?_
  refine q_then ?_
  refine c_env [(0, .int .i64 x), (1, .int .i64 n), (4, .int .i64 0)] ⟨rfl, rfl, rfl, trivial⟩ ?_
  refine c_seq ?_
  refine c_reg ?_
  refine s_val rfl rfl (r_mv rfl rfl) ?_
  refine s_val rfl rfl (r_i2i (z := IntKind.u64.wrap x) rfl rfl un3 un96 rfl) ?_
  refine s_val rfl rfl (r_mv rfl rfl) ?_
  refine s_val rfl rfl (r_i2i (z := n) rfl rfl un3 un96 (wu64 (by omega) (by omega))) ?_
  refine s_val rfl rfl (r_rem (z := (IntKind.u64.wrap x) % n) rfl rfl rfl (by omega) (Int.tmod_eq_emod_of_nonneg (wrapU x).1)) ?_
  refine s_val rfl rfl (r_i2i (z := (IntKind.u64.wrap x) % n) rfl rfl un96 un3 (w64 (by have := Int.emod_nonneg (IntKind.u64.wrap x) (show n ≠ 0 by omega); omega) (by have := Int.emod_lt_of_pos (IntKind.u64.wrap x) h0; omega))) ?_
  refine s_val rfl rfl (r_as rfl rfl) ?_
  refine s_nil ?_
  refine q_then ?_
  refine c_env [(4, .int .i64 ((IntKind.u64.wrap x) % n))] ⟨rfl, trivial⟩ ?_
  refine c_ret ?_
  refine q_ret1 rfl rfl ?_
  exact fin ⟨rfl, rfl⟩ H

set_option maxHeartbeats 1000000 in
theorem due_ok (vmarks : Value) (marks : List Int) (n : Int) :
    Cn Try.prog 23 [vmarks, .int .i64 n] [] [rsl (kInt .i64) vmarks marks] (fun v Bs => v = .bool (decide (n ∈ marks)) ∧ Bs = []) := by
  intro w0 F0 H
  obtain ⟨A1, c2, rfl, hc3, hm4, hp5⟩ := H.fR 0 rfl
  refine enter (args := [.slice A1 marks.length c2, .int .i64 n]) Try.func23 rfl rfl (Nat.le_of_ble_eq_true rfl) ?_
  refine c_seq ?_
  refine c_reg ?_
  refine s_val rfl rfl (r_as rfl rfl) ?_
  refine s_nil ?_
  refine q_then ?_
  replace H : Hd _ _ _ [] [rsl (kInt .i64) (.slice A1 marks.length c2) marks] := H
  refine c_env [(0, .slice A1 marks.length c2), (1, .int .i64 n), (4, .bool false)] ⟨rfl, rfl, rfl, trivial⟩ ?_
  refine c_seq ?_
  refine c_reg ?_
  refine s_val rfl rfl (r_mv rfl rfl) ?_
  refine s_val rfl rfl (r_mv rfl rfl) ?_
  refine sc (containsI_ok (.slice A1 marks.length c2) marks n) H (lR 0 rfl l0) rfl rfl (e_fn kn84 rfl rfl) ?_
  rintro _ _ w ⟨rfl, rfl⟩ H
  refine s_val rfl rfl (r_as rfl rfl) ?_
  refine s_nil ?_
  refine q_then ?_
  refine c_env [(4, .bool (decide (n ∈ marks)))] ⟨rfl, trivial⟩ ?_
  refine c_ret ?_
  refine q_ret1 rfl rfl ?_
  exact fin ⟨rfl, rfl⟩ H

set_option maxHeartbeats 1000000 in
theorem reached_ok (vmarks : Value) (marks : List Int) (n : Int) :
    Cn Try.prog 25 [vmarks, .int .i64 n] [] [rsl (kInt .i64) vmarks marks] (fun v Bs => v = .int .i64 ((cnt (fun m => decide (m ≤ n)) marks : Nat) : Int) ∧ Bs = []) := by
  intro w0 F0 H
  obtain ⟨A1, c2, rfl, hc3, hm4, hp5⟩ := H.fR 0 rfl
  refine enter (args := [.slice A1 marks.length c2, .int .i64 n]) Try.func25 rfl rfl (Nat.le_of_ble_eq_true rfl) ?_
  refine c_seq ?_
  refine c_reg ?_
  refine s_val rfl rfl (r_as rfl rfl) ?_
  refine s_nil ?_
  refine q_then ?_
  replace H : Hd _ _ _ [] [rsl (kInt .i64) (.slice A1 marks.length c2) marks] := H
  refine c_env [(0, .slice A1 marks.length c2), (1, .int .i64 n), (4, .int .i64 0)] ⟨rfl, rfl, rfl, trivial⟩ ?_
  refine c_seq ?_
  refine c_reg ?_
  refine s_val rfl rfl (r_as rfl rfl) ?_
  refine s_nil ?_
  refine q_then ?_
  refine c_env [(0, .slice A1 marks.length c2), (1, .int .i64 n), (4, .int .i64 0), (5, .int .i64 0)] ⟨rfl, rfl, rfl, rfl, trivial⟩ ?_
  refine c_seq ?_
  refine c_seq ?_
  refine c_reg ?_
  refine s_val rfl rfl (r_mv rfl rfl) ?_
  refine s_val rfl rfl (r_lenL rfl un22 rfl) ?_
  refine s_val rfl rfl (r_mv rfl rfl) ?_
  refine s_nil ?_
  refine q_then ?_
  refine c_env [(1, .int .i64 n), (4, .int .i64 0), (5, .int .i64 0), (8, .slice A1 marks.length c2), (9, .int .i64 ((marks.length : Nat) : Int)), (10, .int .i64 0)] ⟨rfl, rfl, rfl, rfl, rfl, rfl, trivial⟩ ?_
  refine c_block ?_
  refine c_loop (σ := Nat) (fun k => [(1, .int .i64 n), (4, .int .i64 0), (5, .int .i64 ((cnt (fun m => decide (m ≤ n)) (marks.take k) : Nat) : Int)), (8, .slice A1 marks.length c2), (9, .int .i64 ((marks.length : Nat) : Int)), (10, .int .i64 ((k : Nat) : Int))]) (fun k w => (Hd w0 F0 w [] [rsl (kInt .i64) (.slice A1 marks.length c2) marks]) ∧ (k ≤ marks.length) ∧ (marks.length ≤ 9223372036854775807)) (fun k => marks.length - k) 0 ⟨rfl, rfl, rfl, rfl, rfl, rfl, trivial⟩ ⟨H, by omega, by omega⟩ ?_
  rintro k w ⟨H, hk, hb⟩
  have hct := cnt_le (fun m => decide (m ≤ n)) (marks.take k)
  have htl := len_take hk
  refine c_seq ?_
  refine c_reg ?_
  refine s_val rfl rfl (r_lt rfl rfl rfl) ?_
  refine s_nil ?_
  refine q_then ?_
  refine c_env [(1, .int .i64 n), (4, .int .i64 0), (5, .int .i64 ((cnt (fun m => decide (m ≤ n)) (marks.take k) : Nat) : Int)), (8, .slice A1 marks.length c2), (9, .int .i64 ((marks.length : Nat) : Int)), (10, .int .i64 ((k : Nat) : Int)), (11, .bool (decide (((k : Nat) : Int) < ((marks.length : Nat) : Int))))] ⟨rfl, rfl, rfl, rfl, rfl, rfl, rfl, trivial⟩ ?_
  refine c_seq ?_
  refine c_dec (p := ((k : Nat) : Int) < ((marks.length : Nat) : Int)) rfl (fun h6 => ?_) (fun h6 => ?_)
  · skip
    refine c_skip ?_
    refine q_then ?_
    refine c_env [(1, .int .i64 n), (4, .int .i64 0), (5, .int .i64 ((cnt (fun m => decide (m ≤ n)) (marks.take k) : Nat) : Int)), (8, .slice A1 marks.length c2), (9, .int .i64 ((marks.length : Nat) : Int)), (10, .int .i64 ((k : Nat) : Int))] ⟨rfl, rfl, rfl, rfl, rfl, rfl, trivial⟩ ?_
    refine c_seq ?_
    refine c_block ?_
    refine c_seq ?_
    refine c_reg ?_
    obtain ⟨x7, hx8⟩ : ∃ z9, marks[k]? = some z9 := ⟨_, List.getElem?_eq_getElem (show k < marks.length by omega)⟩
    have th9 := H.thR 0 rfl hx8
    refine s_val rfl rfl (r_iaE (p := oOf A1 + k * 1) rfl sl22 rfl rfl (by omega) (by omega) th9 rfl) ?_
    refine s_val rfl rfl (r_ld rfl ty3 rfl (H.elR 0 rfl hx8 (q := 0) rfl rfl)) ?_
    refine s_val rfl rfl (r_as rfl rfl) ?_
    refine s_nil ?_
    refine q_then ?_
    refine c_env [(1, .int .i64 n), (4, .int .i64 0), (5, .int .i64 ((cnt (fun m => decide (m ≤ n)) (marks.take k) : Nat) : Int)), (7, .int .i64 x7), (8, .slice A1 marks.length c2), (9, .int .i64 ((marks.length : Nat) : Int)), (10, .int .i64 ((k : Nat) : Int))] ⟨rfl, rfl, rfl, rfl, rfl, rfl, rfl, trivial⟩ ?_
    refine c_seq ?_
    refine c_reg ?_
    refine s_val rfl rfl (r_mv rfl rfl) ?_
    refine s_val rfl rfl (r_mv rfl rfl) ?_
    refine s_val rfl rfl (r_le rfl rfl rfl) ?_
    refine s_nil ?_
    refine q_then ?_
    refine c_env [(1, .int .i64 n), (4, .int .i64 0), (5, .int .i64 ((cnt (fun m => decide (m ≤ n)) (marks.take k) : Nat) : Int)), (8, .slice A1 marks.length c2), (9, .int .i64 ((marks.length : Nat) : Int)), (10, .int .i64 ((k : Nat) : Int)), (16, .bool (decide (x7 ≤ n)))] ⟨rfl, rfl, rfl, rfl, rfl, rfl, rfl, trivial⟩ ?_
    refine c_dec (p := x7 ≤ n) rfl (fun h10 => ?_) (fun h10 => ?_)
    · skip
      refine c_reg ?_
      refine s_val rfl rfl (r_mv rfl rfl) ?_
      refine s_val rfl rfl (r_add (z := ((cnt (fun m => decide (m ≤ n)) (marks.take k) + 1 : Nat) : Int)) rfl rfl rfl (by rw [w64 (by omega) (by omega)]; omega)) ?_
      refine s_val rfl rfl (r_as rfl rfl) ?_
      refine s_nil ?_
      refine q_blockN ?_
      refine q_then ?_
      refine c_env [(1, .int .i64 n), (4, .int .i64 0), (5, .int .i64 ((cnt (fun m => decide (m ≤ n)) (marks.take k) + 1 : Nat) : Int)), (8, .slice A1 marks.length c2), (9, .int .i64 ((marks.length : Nat) : Int)), (10, .int .i64 ((k : Nat) : Int))] ⟨rfl, rfl, rfl, rfl, rfl, rfl, trivial⟩ ?_
      refine c_reg ?_
      refine s_val rfl rfl (r_add (z := ((k + 1 : Nat) : Int)) rfl rfl rfl (by rw [w64 (by omega) (by omega)]; omega)) ?_
      refine s_val rfl rfl (r_mv rfl rfl) ?_
      refine s_nil ?_
      have hc : cnt (fun m => decide (m ≤ n)) (marks.take (k + 1)) = cnt (fun m => decide (m ≤ n)) (marks.take k) + 1 := by rw [cnt_take hx8, if_pos (decide_eq_true h10)]
      exact q_round (s := k) (k + 1) ⟨rfl, rfl, (by rw [hc]; rfl), rfl, rfl, rfl, trivial⟩ ⟨H, by omega, hb⟩ (by (try dsimp only); omega)
    · skip
      refine c_skip ?_
      refine q_blockN ?_
      refine q_then ?_
      refine c_env [(1, .int .i64 n), (4, .int .i64 0), (5, .int .i64 ((cnt (fun m => decide (m ≤ n)) (marks.take k) : Nat) : Int)), (8, .slice A1 marks.length c2), (9, .int .i64 ((marks.length : Nat) : Int)), (10, .int .i64 ((k : Nat) : Int))] ⟨rfl, rfl, rfl, rfl, rfl, rfl, trivial⟩ ?_
      refine c_reg ?_
      refine s_val rfl rfl (r_add (z := ((k + 1 : Nat) : Int)) rfl rfl rfl (by rw [w64 (by omega) (by omega)]; omega)) ?_
      refine s_val rfl rfl (r_mv rfl rfl) ?_
      refine s_nil ?_
      have hc : cnt (fun m => decide (m ≤ n)) (marks.take (k + 1)) = cnt (fun m => decide (m ≤ n)) (marks.take k) + 0 := by rw [cnt_take hx8, if_neg (by simpa using h10)]
      exact q_round (s := k) (k + 1) ⟨rfl, rfl, (by rw [hc]; rfl), rfl, rfl, rfl, trivial⟩ ⟨H, by omega, hb⟩ (by (try dsimp only); omega)
  · skip
    refine c_exit ?_
    refine q_thenE ?_
    refine q_thenE ?_
    refine q_blockE ?_
    refine q_then ?_
    refine c_env [(4, .int .i64 0), (5, .int .i64 ((cnt (fun m => decide (m ≤ n)) (marks.take k) : Nat) : Int))] ⟨rfl, rfl, trivial⟩ ?_
    refine c_seq ?_
    refine c_reg ?_
    refine s_val rfl rfl (r_mv rfl rfl) ?_
    refine s_val rfl rfl (r_as rfl rfl) ?_
    refine s_nil ?_
    refine q_then ?_
    refine c_env [(4, .int .i64 ((cnt (fun m => decide (m ≤ n)) (marks.take k) : Nat) : Int))] ⟨rfl, trivial⟩ ?_
    refine c_ret ?_
    refine q_ret1 rfl rfl ?_
    exact fin ⟨by rw [take_all (xs := marks) (k := k) (by omega)], rfl⟩ H

set_option maxHeartbeats 1000000 in
theorem refReached_ok (vmarks : Value) (marks : List Int) (n : Int) :
    Cn Try.prog 26 [vmarks, .int .i64 n] [] [rsl (kInt .i64) vmarks marks] (fun v Bs => v = .int .i64 ((cnt (fun m => decide (m ≤ n)) marks : Nat) : Int) ∧ Bs = []) := by
  intro w0 F0 H
  obtain ⟨A1, c2, rfl, hc3, hm4, hp5⟩ := H.fR 0 rfl
  refine enter (args := [.slice A1 marks.length c2, .int .i64 n]) Try.func26 rfl rfl (Nat.le_of_ble_eq_true rfl) ?_
  refine c_seq ?_
  refine c_reg ?_
  refine s_val rfl rfl (r_as rfl rfl) ?_
  refine s_nil ?_
  refine q_then ?_
  replace H : Hd _ _ _ [] [rsl (kInt .i64) (.slice A1 marks.length c2) marks] := H
  refine c_env [(0, .slice A1 marks.length c2), (1, .int .i64 n), (4, .int .i64 0)] ⟨rfl, rfl, rfl, trivial⟩ ?_
  refine c_seq ?_
  refine c_reg ?_
  refine s_val rfl rfl (r_as rfl rfl) ?_
  refine s_nil ?_
  refine q_then ?_
  refine c_env [(0, .slice A1 marks.length c2), (1, .int .i64 n), (4, .int .i64 0), (5, .int .i64 0)] ⟨rfl, rfl, rfl, rfl, trivial⟩ ?_
  refine c_seq ?_
  refine c_seq ?_
  refine c_reg ?_
  refine s_val rfl rfl (r_as rfl rfl) ?_
  refine s_nil ?_
  refine q_then ?_
  refine c_env [(0, .slice A1 marks.length c2), (1, .int .i64 n), (4, .int .i64 0), (5, .int .i64 0), (6, .int .i64 0)] ⟨rfl, rfl, rfl, rfl, rfl, trivial⟩ ?_
  refine c_block ?_
  refine c_loop (σ := Nat) (fun k => [(0, .slice A1 marks.length c2), (1, .int .i64 n), (4, .int .i64 0), (5, .int .i64 ((cnt (fun m => decide (m ≤ n)) (marks.take k) : Nat) : Int)), (6, .int .i64 ((k : Nat) : Int))]) (fun k w => (Hd w0 F0 w [] [rsl (kInt .i64) (.slice A1 marks.length c2) marks]) ∧ (k ≤ marks.length) ∧ (marks.length ≤ 9223372036854775807)) (fun k => marks.length - k) 0 ⟨rfl, rfl, rfl, rfl, rfl, trivial⟩ ⟨H, by omega, by omega⟩ ?_
  rintro k w ⟨H, hk, hb⟩
  have hct := cnt_le (fun m => decide (m ≤ n)) (marks.take k)
  have htl := len_take hk
  refine c_seq ?_
  refine c_seq ?_
  refine c_reg ?_
  refine s_val rfl rfl (r_mv rfl rfl) ?_
  refine s_val rfl rfl (r_mv rfl rfl) ?_
  refine s_val rfl rfl (r_lenL rfl un22 rfl) ?_
  refine s_val rfl rfl (r_lt rfl rfl rfl) ?_
  refine s_nil ?_
  refine q_then ?_
  refine c_env [(0, .slice A1 marks.length c2), (1, .int .i64 n), (4, .int .i64 0), (5, .int .i64 ((cnt (fun m => decide (m ≤ n)) (marks.take k) : Nat) : Int)), (6, .int .i64 ((k : Nat) : Int)), (10, .bool (decide (((k : Nat) : Int) < ((marks.length : Nat) : Int))))] ⟨rfl, rfl, rfl, rfl, rfl, rfl, trivial⟩ ?_
  refine c_dec (p := ((k : Nat) : Int) < ((marks.length : Nat) : Int)) rfl (fun h6 => ?_) (fun h6 => ?_)
  · skip
    refine c_skip ?_
    refine q_then ?_
    refine c_env [(0, .slice A1 marks.length c2), (1, .int .i64 n), (4, .int .i64 0), (5, .int .i64 ((cnt (fun m => decide (m ≤ n)) (marks.take k) : Nat) : Int)), (6, .int .i64 ((k : Nat) : Int))] ⟨rfl, rfl, rfl, rfl, rfl, trivial⟩ ?_
    refine c_seq ?_
    refine c_block ?_
    refine c_seq ?_
    refine c_reg ?_
    refine s_val rfl rfl (r_mv rfl rfl) ?_
    refine s_val rfl rfl (r_mv rfl rfl) ?_
    obtain ⟨x7, hx8⟩ : ∃ z9, marks[k]? = some z9 := ⟨_, List.getElem?_eq_getElem (show k < marks.length by omega)⟩
    have th9 := H.thR 0 rfl hx8
    refine s_val rfl rfl (r_iaE (p := oOf A1 + k * 1) rfl sl22 rfl rfl (by omega) (by omega) th9 rfl) ?_
    refine s_val rfl rfl (r_ld rfl ty3 rfl (H.elR 0 rfl hx8 (q := 0) rfl rfl)) ?_
    refine s_val rfl rfl (r_mv rfl rfl) ?_
    refine s_val rfl rfl (r_le rfl rfl rfl) ?_
    refine s_nil ?_
    refine q_then ?_
    refine c_env [(0, .slice A1 marks.length c2), (1, .int .i64 n), (4, .int .i64 0), (5, .int .i64 ((cnt (fun m => decide (m ≤ n)) (marks.take k) : Nat) : Int)), (6, .int .i64 ((k : Nat) : Int)), (18, .bool (decide (x7 ≤ n)))] ⟨rfl, rfl, rfl, rfl, rfl, rfl, trivial⟩ ?_
    refine c_dec (p := x7 ≤ n) rfl (fun h10 => ?_) (fun h10 => ?_)
    · skip
      refine c_reg ?_
      refine s_val rfl rfl (r_mv rfl rfl) ?_
      refine s_val rfl rfl (r_add (z := ((cnt (fun m => decide (m ≤ n)) (marks.take k) + 1 : Nat) : Int)) rfl rfl rfl (by rw [w64 (by omega) (by omega)]; omega)) ?_
      refine s_val rfl rfl (r_as rfl rfl) ?_
      refine s_nil ?_
      refine q_blockN ?_
      refine q_then ?_
      refine c_env [(0, .slice A1 marks.length c2), (1, .int .i64 n), (4, .int .i64 0), (5, .int .i64 ((cnt (fun m => decide (m ≤ n)) (marks.take k) + 1 : Nat) : Int)), (6, .int .i64 ((k : Nat) : Int))] ⟨rfl, rfl, rfl, rfl, rfl, trivial⟩ ?_
      refine c_reg ?_
      refine s_val rfl rfl (r_mv rfl rfl) ?_
      refine s_val rfl rfl (r_add (z := ((k + 1 : Nat) : Int)) rfl rfl rfl (by rw [w64 (by omega) (by omega)]; omega)) ?_
      refine s_val rfl rfl (r_as rfl rfl) ?_
      refine s_nil ?_
      have hc : cnt (fun m => decide (m ≤ n)) (marks.take (k + 1)) = cnt (fun m => decide (m ≤ n)) (marks.take k) + 1 := by rw [cnt_take hx8, if_pos (decide_eq_true h10)]
      exact q_round (s := k) (k + 1) ⟨rfl, rfl, rfl, (by rw [hc]; rfl), rfl, trivial⟩ ⟨H, by omega, hb⟩ (by (try dsimp only); omega)
    · skip
      refine c_skip ?_
      refine q_blockN ?_
      refine q_then ?_
      refine c_env [(0, .slice A1 marks.length c2), (1, .int .i64 n), (4, .int .i64 0), (5, .int .i64 ((cnt (fun m => decide (m ≤ n)) (marks.take k) : Nat) : Int)), (6, .int .i64 ((k : Nat) : Int))] ⟨rfl, rfl, rfl, rfl, rfl, trivial⟩ ?_
      refine c_reg ?_
      refine s_val rfl rfl (r_mv rfl rfl) ?_
      refine s_val rfl rfl (r_add (z := ((k + 1 : Nat) : Int)) rfl rfl rfl (by rw [w64 (by omega) (by omega)]; omega)) ?_
      refine s_val rfl rfl (r_as rfl rfl) ?_
      refine s_nil ?_
      have hc : cnt (fun m => decide (m ≤ n)) (marks.take (k + 1)) = cnt (fun m => decide (m ≤ n)) (marks.take k) + 0 := by rw [cnt_take hx8, if_neg (by simpa using h10)]
      exact q_round (s := k) (k + 1) ⟨rfl, rfl, rfl, (by rw [hc]; rfl), rfl, trivial⟩ ⟨H, by omega, hb⟩ (by (try dsimp only); omega)
  · skip
    refine c_exit ?_
    refine q_thenE ?_
    refine q_thenE ?_
    refine q_blockE ?_
    refine q_then ?_
    refine c_env [(4, .int .i64 0), (5, .int .i64 ((cnt (fun m => decide (m ≤ n)) (marks.take k) : Nat) : Int))] ⟨rfl, rfl, trivial⟩ ?_
    refine c_seq ?_
    refine c_reg ?_
    refine s_val rfl rfl (r_mv rfl rfl) ?_
    refine s_val rfl rfl (r_as rfl rfl) ?_
    refine s_nil ?_
    refine q_then ?_
    refine c_env [(4, .int .i64 ((cnt (fun m => decide (m ≤ n)) (marks.take k) : Nat) : Int))] ⟨rfl, trivial⟩ ?_
    refine c_ret ?_
    refine q_ret1 rfl rfl ?_
    exact fin ⟨by rw [take_all (xs := marks) (k := k) (by omega)], rfl⟩ H

set_option maxHeartbeats 1000000 in
theorem refDue_ok (vmarks : Value) (marks : List Int) (n : Int) :
    Cn Try.prog 24 [vmarks, .int .i64 n] [] [rsl (kInt .i64) vmarks marks] (fun v Bs => v = .bool (decide (n ∈ marks)) ∧ Bs = []) := by
  intro w0 F0 H
  obtain ⟨A1, c2, rfl, hc3, hm4, hp5⟩ := H.fR 0 rfl
  refine enter (args := [.slice A1 marks.length c2, .int .i64 n]) Try.func24 rfl rfl (Nat.le_of_ble_eq_true rfl) ?_
  refine c_seq ?_
  refine c_reg ?_
  refine s_val rfl rfl (r_as rfl rfl) ?_
  refine s_nil ?_
  refine q_then ?_
  replace H : Hd _ _ _ [] [rsl (kInt .i64) (.slice A1 marks.length c2) marks] := H
  refine c_env [(0, .slice A1 marks.length c2), (1, .int .i64 n), (4, .bool false)] ⟨rfl, rfl, rfl, trivial⟩ ?_
  refine c_seq ?_
  refine c_seq ?_
  refine c_reg ?_
  refine s_val rfl rfl (r_as rfl rfl) ?_
  refine s_nil ?_
  refine q_then ?_
  refine c_env [(0, .slice A1 marks.length c2), (1, .int .i64 n), (4, .bool false), (5, .int .i64 0)] ⟨rfl, rfl, rfl, rfl, trivial⟩ ?_
  refine c_block ?_
  refine c_loop (σ := Nat) (fun k => [(0, .slice A1 marks.length c2), (1, .int .i64 n), (5, .int .i64 ((k : Nat) : Int))]) (fun k w => (Hd w0 F0 w [] [rsl (kInt .i64) (.slice A1 marks.length c2) marks]) ∧ (k ≤ marks.length) ∧ (∀ y ∈ marks.take k, decide (n = y) = false)) (fun k => marks.length - k) 0 ⟨rfl, rfl, rfl, trivial⟩ ⟨H, by omega, by simp⟩ ?_
  rintro k w ⟨H, hk, hn⟩
  refine c_seq ?_
  refine c_seq ?_
  refine c_reg ?_
  refine s_val rfl rfl (r_mv rfl rfl) ?_
  refine s_val rfl rfl (r_mv rfl rfl) ?_
  refine s_val rfl rfl (r_lenL rfl un22 rfl) ?_
  refine s_val rfl rfl (r_lt rfl rfl rfl) ?_
  refine s_nil ?_
  refine q_then ?_
  refine c_env [(0, .slice A1 marks.length c2), (1, .int .i64 n), (5, .int .i64 ((k : Nat) : Int)), (9, .bool (decide (((k : Nat) : Int) < ((marks.length : Nat) : Int))))] ⟨rfl, rfl, rfl, rfl, trivial⟩ ?_
  refine c_dec (p := ((k : Nat) : Int) < ((marks.length : Nat) : Int)) rfl (fun h6 => ?_) (fun h6 => ?_)
  · skip
    refine c_skip ?_
    refine q_then ?_
    refine c_env [(0, .slice A1 marks.length c2), (1, .int .i64 n), (5, .int .i64 ((k : Nat) : Int))] ⟨rfl, rfl, rfl, trivial⟩ ?_
    refine c_seq ?_
    refine c_block ?_
    refine c_seq ?_
    refine c_reg ?_
    refine s_val rfl rfl (r_mv rfl rfl) ?_
    refine s_val rfl rfl (r_mv rfl rfl) ?_
    obtain ⟨x7, hx8⟩ : ∃ z9, marks[k]? = some z9 := ⟨_, List.getElem?_eq_getElem (show k < marks.length by omega)⟩
    have th9 := H.thR 0 rfl hx8
    refine s_val rfl rfl (r_iaE (p := oOf A1 + k * 1) rfl sl22 rfl rfl (by omega) (by omega) th9 rfl) ?_
    refine s_val rfl rfl (r_ld rfl ty3 rfl (H.elR 0 rfl hx8 (q := 0) rfl rfl)) ?_
    refine s_val rfl rfl (r_mv rfl rfl) ?_
    refine s_val rfl rfl (r_eq rfl rfl rfl) ?_
    refine s_nil ?_
    refine q_then ?_
    refine c_env [(0, .slice A1 marks.length c2), (1, .int .i64 n), (5, .int .i64 ((k : Nat) : Int)), (17, .bool (decide (x7 = n)))] ⟨rfl, rfl, rfl, rfl, trivial⟩ ?_
    refine c_dec (p := x7 = n) rfl (fun h10 => ?_) (fun h10 => ?_)
    · skip
      refine c_seq ?_
      refine c_reg ?_
      refine s_val rfl rfl (r_as rfl rfl) ?_
      refine s_nil ?_
      refine q_then ?_
      refine c_env [(0, .slice A1 marks.length c2), (1, .int .i64 n), (4, .bool true), (5, .int .i64 ((k : Nat) : Int))] ⟨rfl, rfl, rfl, rfl, trivial⟩ ?_
      refine c_ret ?_
      refine q_blockR ?_
      refine q_thenR ?_
      refine q_thenR ?_
      refine q_blockR ?_
      refine q_thenR ?_
      refine q_ret1 rfl rfl ?_
      exact fin ⟨by rw [decide_eq_true (h10 ▸ mem_of_some hx8)], rfl⟩ H
    · skip
      refine c_skip ?_
      refine q_blockN ?_
      refine q_then ?_
      refine c_env [(0, .slice A1 marks.length c2), (1, .int .i64 n), (5, .int .i64 ((k : Nat) : Int))] ⟨rfl, rfl, rfl, trivial⟩ ?_
      refine c_reg ?_
      refine s_val rfl rfl (r_mv rfl rfl) ?_
      refine s_val rfl rfl (r_add (z := ((k + 1 : Nat) : Int)) rfl rfl rfl (by rw [w64 (by omega) (by omega)]; omega)) ?_
      refine s_val rfl rfl (r_as rfl rfl) ?_
      refine s_nil ?_
      exact q_round (s := k) (k + 1) ⟨rfl, rfl, rfl, trivial⟩ ⟨H, by omega, take_false (p := fun y => decide (n = y)) hn hx8 (decide_eq_false (fun e => h10 e.symm))⟩ (by (try dsimp only); omega)
  · skip
    refine c_exit ?_
    refine q_thenE ?_
    refine q_thenE ?_
    refine q_blockE ?_
    refine q_then ?_
    refine c_env [] trivial ?_
    refine c_seq ?_
    refine c_reg ?_
    refine s_val rfl rfl (r_as rfl rfl) ?_
    refine s_nil ?_
    refine q_then ?_
    refine c_env [(4, .bool false)] ⟨rfl, trivial⟩ ?_
    refine c_ret ?_
    refine q_ret1 rfl rfl ?_
    have hn2 : ∀ y ∈ marks, decide (n = y) = false := by rw [← take_all (xs := marks) (k := k) (by omega)]; exact hn
    exact fin ⟨by rw [decide_eq_false (fun hm => of_decide_eq_false (hn2 _ hm) rfl)], rfl⟩ H

set_option maxHeartbeats 1000000 in
theorem refHas_ok (va : Value) (a : List Int) (x : Int) :
    Cn Try.prog 87 [va, .int .i64 x] [] [rsl (kInt .i64) va a] (fun v Bs => v = .bool (decide (x ∈ a)) ∧ Bs = []) := by
  intro w0 F0 H
  obtain ⟨A1, c2, rfl, hc3, hm4, hp5⟩ := H.fR 0 rfl
  refine enter (args := [.slice A1 a.length c2, .int .i64 x]) Try.func87 rfl rfl (Nat.le_of_ble_eq_true rfl) ?_
  refine c_seq ?_
  refine c_reg ?_
  refine s_val rfl rfl (r_as rfl rfl) ?_
  refine s_nil ?_
  refine q_then ?_
  replace H : Hd _ _ _ [] [rsl (kInt .i64) (.slice A1 a.length c2) a] := H
  refine c_env [(0, .slice A1 a.length c2), (1, .int .i64 x), (4, .bool false)] ⟨rfl, rfl, rfl, trivial⟩ ?_
  refine c_seq ?_
  refine c_seq ?_
  refine c_reg ?_
  refine s_val rfl rfl (r_as rfl rfl) ?_
  refine s_nil ?_
  refine q_then ?_
  refine c_env [(0, .slice A1 a.length c2), (1, .int .i64 x), (4, .bool false), (5, .int .i64 0)] ⟨rfl, rfl, rfl, rfl, trivial⟩ ?_
  refine c_block ?_
  refine c_loop (σ := Nat) (fun k => [(0, .slice A1 a.length c2), (1, .int .i64 x), (5, .int .i64 ((k : Nat) : Int))]) (fun k w => (Hd w0 F0 w [] [rsl (kInt .i64) (.slice A1 a.length c2) a]) ∧ (k ≤ a.length) ∧ (∀ y ∈ a.take k, decide (x = y) = false)) (fun k => a.length - k) 0 ⟨rfl, rfl, rfl, trivial⟩ ⟨H, by omega, by simp⟩ ?_
  rintro k w ⟨H, hk, hn⟩
  refine c_seq ?_
  refine c_seq ?_
  refine c_reg ?_
  refine s_val rfl rfl (r_mv rfl rfl) ?_
  refine s_val rfl rfl (r_mv rfl rfl) ?_
  refine s_val rfl rfl (r_lenL rfl un22 rfl) ?_
  refine s_val rfl rfl (r_lt rfl rfl rfl) ?_
  refine s_nil ?_
  refine q_then ?_
  refine c_env [(0, .slice A1 a.length c2), (1, .int .i64 x), (5, .int .i64 ((k : Nat) : Int)), (9, .bool (decide (((k : Nat) : Int) < ((a.length : Nat) : Int))))] ⟨rfl, rfl, rfl, rfl, trivial⟩ ?_
  refine c_dec (p := ((k : Nat) : Int) < ((a.length : Nat) : Int)) rfl (fun h6 => ?_) (fun h6 => ?_)
  · skip
    refine c_skip ?_
    refine q_then ?_
    refine c_env [(0, .slice A1 a.length c2), (1, .int .i64 x), (5, .int .i64 ((k : Nat) : Int))] ⟨rfl, rfl, rfl, trivial⟩ ?_
    refine c_seq ?_
    refine c_block ?_
    refine c_seq ?_
    refine c_reg ?_
    refine s_val rfl rfl (r_mv rfl rfl) ?_
    refine s_val rfl rfl (r_mv rfl rfl) ?_
    obtain ⟨x7, hx8⟩ : ∃ z9, a[k]? = some z9 := ⟨_, List.getElem?_eq_getElem (show k < a.length by omega)⟩
    have th9 := H.thR 0 rfl hx8
    refine s_val rfl rfl (r_iaE (p := oOf A1 + k * 1) rfl sl22 rfl rfl (by omega) (by omega) th9 rfl) ?_
    refine s_val rfl rfl (r_ld rfl ty3 rfl (H.elR 0 rfl hx8 (q := 0) rfl rfl)) ?_
    refine s_val rfl rfl (r_mv rfl rfl) ?_
    refine s_val rfl rfl (r_eq rfl rfl rfl) ?_
    refine s_nil ?_
    refine q_then ?_
    refine c_env [(0, .slice A1 a.length c2), (1, .int .i64 x), (5, .int .i64 ((k : Nat) : Int)), (17, .bool (decide (x7 = x)))] ⟨rfl, rfl, rfl, rfl, trivial⟩ ?_
    refine c_dec (p := x7 = x) rfl (fun h10 => ?_) (fun h10 => ?_)
    · skip
      refine c_seq ?_
      refine c_reg ?_
      refine s_val rfl rfl (r_as rfl rfl) ?_
      refine s_nil ?_
      refine q_then ?_
      refine c_env [(0, .slice A1 a.length c2), (1, .int .i64 x), (4, .bool true), (5, .int .i64 ((k : Nat) : Int))] ⟨rfl, rfl, rfl, rfl, trivial⟩ ?_
      refine c_ret ?_
      refine q_blockR ?_
      refine q_thenR ?_
      refine q_thenR ?_
      refine q_blockR ?_
      refine q_thenR ?_
      refine q_ret1 rfl rfl ?_
      exact fin ⟨by rw [decide_eq_true (h10 ▸ mem_of_some hx8)], rfl⟩ H
    · skip
      refine c_skip ?_
      refine q_blockN ?_
      refine q_then ?_
      refine c_env [(0, .slice A1 a.length c2), (1, .int .i64 x), (5, .int .i64 ((k : Nat) : Int))] ⟨rfl, rfl, rfl, trivial⟩ ?_
      refine c_reg ?_
      refine s_val rfl rfl (r_mv rfl rfl) ?_
      refine s_val rfl rfl (r_add (z := ((k + 1 : Nat) : Int)) rfl rfl rfl (by rw [w64 (by omega) (by omega)]; omega)) ?_
      refine s_val rfl rfl (r_as rfl rfl) ?_
      refine s_nil ?_
      exact q_round (s := k) (k + 1) ⟨rfl, rfl, rfl, trivial⟩ ⟨H, by omega, take_false (p := fun y => decide (x = y)) hn hx8 (decide_eq_false (fun e => h10 e.symm))⟩ (by (try dsimp only); omega)
  · skip
    refine c_exit ?_
    refine q_thenE ?_
    refine q_thenE ?_
    refine q_blockE ?_
    refine q_then ?_
    refine c_env [] trivial ?_
    refine c_seq ?_
    refine c_reg ?_
    refine s_val rfl rfl (r_as rfl rfl) ?_
    refine s_nil ?_
    refine q_then ?_
    refine c_env [(4, .bool false)] ⟨rfl, trivial⟩ ?_
    refine c_ret ?_
    refine q_ret1 rfl rfl ?_
    have hn2 : ∀ y ∈ a, decide (x = y) = false := by rw [← take_all (xs := a) (k := k) (by omega)]; exact hn
    exact fin ⟨by rw [decide_eq_false (fun hm => of_decide_eq_false (hn2 _ hm) rfl)], rfl⟩ H

set_option maxHeartbeats 1000000 in
theorem growsF_ok (b : Nat) (vy : Value) (ys : List Int) (x : Int) :
    Cn Try.prog 86 [.int .i64 x, .pointer (some ⟨b, 0, none⟩)] [] [blk b [vy] 22, rsl (kInt .i64) vy ys] (fun v Bs => v = .bool (!decide (x ∈ ys)) ∧ Bs = []) := by
  intro w0 F0 H
  refine enter (args := [.int .i64 x, .pointer (some ⟨b, 0, none⟩)]) Try.func86 rfl rfl (Nat.le_of_ble_eq_true rfl) ?_
  refine c_seq ?_
  refine c_reg ?_
  refine s_val rfl rfl (r_as rfl rfl) ?_
  refine s_nil ?_
  refine q_then ?_
  refine c_env [(0, .int .i64 x), (1, .pointer (some ⟨b, 0, none⟩)), (3, .bool false)] ⟨rfl, rfl, rfl, trivial⟩ ?_
  refine c_seq ?_
  refine c_reg ?_
  refine s_val rfl rfl (r_ld rfl ty22 rfl (H.cellRI 0 rfl rfl)) ?_
  refine s_val rfl rfl (r_mv rfl rfl) ?_
  refine sc (containsI_ok vy ys x) H (lR 1 rfl l0) rfl rfl (e_fn kn84 rfl rfl) ?_
  rintro _ _ w ⟨rfl, rfl⟩ H
  refine s_val rfl rfl (r_notP rfl rfl) ?_
  refine s_val rfl rfl (r_as rfl rfl) ?_
  refine s_nil ?_
  refine q_then ?_
  refine c_env [(3, .bool (decide (¬ (x ∈ ys))))] ⟨rfl, trivial⟩ ?_
  refine c_ret ?_
  refine q_ret1 rfl rfl ?_
  exact fin ⟨by simp, rfl⟩ H

set_option maxHeartbeats 1000000 in
theorem grows_ok (va : Value) (a : List Int) (vb : Value) (b : List Int) :
    Cn Try.prog 27 [va, vb] [] [rsl (kInt .i64) va a, rsl (kInt .i64) vb b] (fun v Bs => v = .bool (decide (∀ n ∈ a, n ∈ b)) ∧ Bs = []) := by
  intro w0 F0 H
  obtain ⟨A1, c2, rfl, hc3, hm4, hp5⟩ := H.fR 0 rfl
  obtain ⟨A6, c7, rfl, hc8, hm9, hp10⟩ := H.fR 1 rfl
  refine enter (args := [.slice A1 a.length c2, .slice A6 b.length c7]) Try.func27 rfl rfl (Nat.le_of_ble_eq_true rfl) ?_
  refine c_seq ?_
  refine c_reg ?_
  refine s_box rfl rfl rfl rfl H (fun b11 w H => ?_)
  refine s_val rfl rfl (r_as rfl rfl) ?_
  refine s_nil ?_
  refine q_then ?_
  replace H : Hd _ _ _ [blk b11 [.slice A6 b.length c7] 22] [rsl (kInt .i64) (.slice A1 a.length c2) a, rsl (kInt .i64) (.slice A6 b.length c7) b] := H
  refine c_env [(0, .slice A1 a.length c2), (3, .pointer (some ⟨b11, 0, none⟩)), (4, .bool false)] ⟨rfl, rfl, rfl, trivial⟩ ?_
  refine c_seq ?_
  refine c_reg ?_
  refine s_val rfl rfl (r_mv rfl rfl) ?_
  refine s_val rfl rfl (r_fn (fs := #[]) (cs := #[.pointer (some ⟨b11, 0, none⟩)]) rfl rfl rfl) ?_
  refine sc (containsFI_ok 86 [.pointer (some ⟨b11, 0, none⟩)] [blk b11 [.slice A6 b.length c7] 22, rsl (kInt .i64) (.slice A6 b.length c7) b] (fun x => !decide (x ∈ b)) kn86 (fun x => growsF_ok b11 (.slice A6 b.length c7) b x) (.slice A1 a.length c2) a) H (lR 0 rfl (lA 0 rfl (fun _ h => h) (lR 1 rfl l0))) rfl rfl (e_fn kn85 rfl rfl) ?_
  rintro _ _ w ⟨rfl, rfl⟩ H
  refine s_val rfl rfl (r_not rfl rfl rfl) ?_
  refine s_val rfl rfl (r_as rfl rfl) ?_
  refine s_nil ?_
  refine q_then ?_
  refine c_env [(4, .bool (!(a.any (fun x => !decide (x ∈ b)))))] ⟨rfl, trivial⟩ ?_
  refine c_ret ?_
  refine q_ret1 rfl rfl ?_
  have e : (!(a.any (fun x => !decide (x ∈ b)))) = decide (∀ n ∈ a, n ∈ b) := by rw [Bool.eq_iff_iff]; simp
  replace H := H.keep 0
  exact fin ⟨congrArg Value.bool e, rfl⟩ H

set_option maxHeartbeats 1000000 in
theorem refGrows_ok (va : Value) (a : List Int) (vb : Value) (b : List Int) :
    Cn Try.prog 28 [va, vb] [] [rsl (kInt .i64) va a, rsl (kInt .i64) vb b] (fun v Bs => v = .bool (decide (∀ n ∈ a, n ∈ b)) ∧ Bs = []) := by
  intro w0 F0 H
  obtain ⟨A1, c2, rfl, hc3, hm4, hp5⟩ := H.fR 0 rfl
  obtain ⟨A6, c7, rfl, hc8, hm9, hp10⟩ := H.fR 1 rfl
  refine enter (args := [.slice A1 a.length c2, .slice A6 b.length c7]) Try.func28 rfl rfl (Nat.le_of_ble_eq_true rfl) ?_
  refine c_seq ?_
  refine c_reg ?_
  refine s_val rfl rfl (r_as rfl rfl) ?_
  refine s_nil ?_
  refine q_then ?_
  replace H : Hd _ _ _ [] [rsl (kInt .i64) (.slice A1 a.length c2) a, rsl (kInt .i64) (.slice A6 b.length c7) b] := H
  refine c_env [(0, .slice A1 a.length c2), (1, .slice A6 b.length c7), (4, .bool false)] ⟨rfl, rfl, rfl, trivial⟩ ?_
  refine c_seq ?_
  refine c_seq ?_
  refine c_reg ?_
  refine s_val rfl rfl (r_as rfl rfl) ?_
  refine s_nil ?_
  refine q_then ?_
  refine c_env [(0, .slice A1 a.length c2), (1, .slice A6 b.length c7), (4, .bool false), (5, .int .i64 0)] ⟨rfl, rfl, rfl, rfl, trivial⟩ ?_
  refine c_block ?_
  refine c_loop (σ := Nat) (fun k => [(0, .slice A1 a.length c2), (1, .slice A6 b.length c7), (5, .int .i64 ((k : Nat) : Int))]) (fun k w => (Hd w0 F0 w [] [rsl (kInt .i64) (.slice A1 a.length c2) a, rsl (kInt .i64) (.slice A6 b.length c7) b]) ∧ (k ≤ a.length) ∧ (∀ y ∈ a.take k, decide (y ∈ b) = true)) (fun k => a.length - k) 0 ⟨rfl, rfl, rfl, trivial⟩ ⟨H, by omega, by simp⟩ ?_
  rintro k w ⟨H, hk, hn⟩
  refine c_seq ?_
  refine c_seq ?_
  refine c_reg ?_
  refine s_val rfl rfl (r_mv rfl rfl) ?_
  refine s_val rfl rfl (r_mv rfl rfl) ?_
  refine s_val rfl rfl (r_lenL rfl un22 rfl) ?_
  refine s_val rfl rfl (r_lt rfl rfl rfl) ?_
  refine s_nil ?_
  refine q_then ?_
  refine c_env [(0, .slice A1 a.length c2), (1, .slice A6 b.length c7), (5, .int .i64 ((k : Nat) : Int)), (9, .bool (decide (((k : Nat) : Int) < ((a.length : Nat) : Int))))] ⟨rfl, rfl, rfl, rfl, trivial⟩ ?_
  refine c_dec (p := ((k : Nat) : Int) < ((a.length : Nat) : Int)) rfl (fun h11 => ?_) (fun h11 => ?_)
  · skip
    refine c_skip ?_
    refine q_then ?_
    refine c_env [(0, .slice A1 a.length c2), (1, .slice A6 b.length c7), (5, .int .i64 ((k : Nat) : Int))] ⟨rfl, rfl, rfl, trivial⟩ ?_
    refine c_seq ?_
    refine c_block ?_
    refine c_seq ?_
    refine c_reg ?_
    refine s_val rfl rfl (r_mv rfl rfl) ?_
    refine s_val rfl rfl (r_mv rfl rfl) ?_
    refine s_val rfl rfl (r_mv rfl rfl) ?_
    obtain ⟨x12, hx13⟩ : ∃ z9, a[k]? = some z9 := ⟨_, List.getElem?_eq_getElem (show k < a.length by omega)⟩
    have th14 := H.thR 0 rfl hx13
    refine s_val rfl rfl (r_iaE (p := oOf A1 + k * 1) rfl sl22 rfl rfl (by omega) (by omega) th14 rfl) ?_
    refine s_val rfl rfl (r_ld rfl ty3 rfl (H.elR 0 rfl hx13 (q := 0) rfl rfl)) ?_
    refine sc (refHas_ok (.slice A6 b.length c7) b x12) H (lR 1 rfl l0) rfl rfl (e_fn kn87 rfl rfl) ?_
    rintro _ _ w ⟨rfl, rfl⟩ H
    refine s_val rfl rfl (r_notP rfl rfl) ?_
    refine s_nil ?_
    refine q_then ?_
    refine c_env [(0, .slice A1 a.length c2), (1, .slice A6 b.length c7), (5, .int .i64 ((k : Nat) : Int)), (18, .bool (decide (¬ (x12 ∈ b))))] ⟨rfl, rfl, rfl, rfl, trivial⟩ ?_
    refine c_dec (p := ¬ (x12 ∈ b)) rfl (fun h15 => ?_) (fun h15 => ?_)
    · skip
      refine c_seq ?_
      refine c_reg ?_
      refine s_val rfl rfl (r_as rfl rfl) ?_
      refine s_nil ?_
      refine q_then ?_
      refine c_env [(0, .slice A1 a.length c2), (1, .slice A6 b.length c7), (4, .bool false), (5, .int .i64 ((k : Nat) : Int))] ⟨rfl, rfl, rfl, rfl, trivial⟩ ?_
      refine c_ret ?_
      refine q_blockR ?_
      refine q_thenR ?_
      refine q_thenR ?_
      refine q_blockR ?_
      refine q_thenR ?_
      refine q_ret1 rfl rfl ?_
      exact fin ⟨by rw [decide_eq_false (fun h => h15 (h _ (mem_of_some hx13)))], rfl⟩ H
    · skip
      refine c_skip ?_
      refine q_blockN ?_
      refine q_then ?_
      refine c_env [(0, .slice A1 a.length c2), (1, .slice A6 b.length c7), (5, .int .i64 ((k : Nat) : Int))] ⟨rfl, rfl, rfl, trivial⟩ ?_
      refine c_reg ?_
      refine s_val rfl rfl (r_mv rfl rfl) ?_
      refine s_val rfl rfl (r_add (z := ((k + 1 : Nat) : Int)) rfl rfl rfl (by rw [w64 (by omega) (by omega)]; omega)) ?_
      refine s_val rfl rfl (r_as rfl rfl) ?_
      refine s_nil ?_
      exact q_round (s := k) (k + 1) ⟨rfl, rfl, rfl, trivial⟩ ⟨H, by omega, all_take (p := fun y => decide (y ∈ b)) hn hx13 (decide_eq_true (Classical.not_not.1 h15))⟩ (by (try dsimp only); omega)
  · skip
    refine c_exit ?_
    refine q_thenE ?_
    refine q_thenE ?_
    refine q_blockE ?_
    refine q_then ?_
    refine c_env [] trivial ?_
    refine c_seq ?_
    refine c_reg ?_
    refine s_val rfl rfl (r_as rfl rfl) ?_
    refine s_nil ?_
    refine q_then ?_
    refine c_env [(4, .bool true)] ⟨rfl, trivial⟩ ?_
    refine c_ret ?_
    refine q_ret1 rfl rfl ?_
    have hn2 : ∀ y ∈ a, decide (y ∈ b) = true := by rw [← take_all (xs := a) (k := k) (by omega)]; exact hn
    exact fin ⟨by rw [decide_eq_true (fun n hm => of_decide_eq_true (hn2 n hm))], rfl⟩ H

end Go.Proofs.Ytnaaahpmnhoabaa.X
