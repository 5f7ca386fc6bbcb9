/- The walks of three statements on snapshots. -/
import Derived.Test.YtnaaahpmnhoabaaM2
import Derived.Test.YtnaaahpmnhoabaaXL3
set_option linter.unusedVariables false
set_option linter.unusedSimpArgs false
namespace Go.Proofs.Ytnaaahpmnhoabaa.X
open Go
set_option maxHeartbeats 1000000 in
theorem awake20_ok  :
    Cn Try.prog 21 [] [] [] (fun v Bs => v = .bool true ∧ Bs = []) := by
  intro w0 F0 H
  refine enter (args := []) Try.func21 rfl rfl (Nat.le_of_ble_eq_true rfl) ?_
  refine c_seq ?_
  refine c_reg ?_
  refine s_val rfl rfl (r_as rfl rfl) ?_
  refine s_nil ?_
  refine q_then ?_
  refine c_env [(0, .bool false)] ⟨rfl, trivial⟩ ?_
  refine c_seq ?_
  refine c_reg ?_
  refine s_bsl (parts := [(0, .const (.int .i64 2)), (1, .const (.int .i64 4))]) (vs := [.int .i64 2, .int .i64 4]) (cs := [.int .i64 2, .int .i64 4]) rfl rfl rfl sl22 zr3 rfl (by decide) (by decide) rfl rfl H (fun b1 w H => ?_)
  refine sc (due_ok (.slice (some ⟨b1, 0, none⟩) 2 2) [2, 4] 3) H (lA 0 rfl (fun F h => blk_rsl h rfl (by decide) (RepsR.flat_eq.2 rfl)) l0) rfl rfl (e_fn kn23 rfl rfl) ?_
  rintro _ _ w ⟨rfl, rfl⟩ H
  refine s_val rfl rfl (r_notP rfl rfl) ?_
  refine s_val rfl rfl (r_mv rfl rfl) ?_
  refine s_dec (d := 4) (p := ¬ (3 ∈ [2, 4])) rfl (fun h2 => ?_) (fun h2 => ?_)
  · skip
    refine s_bsl (parts := [(0, .const (.int .i64 2)), (1, .const (.int .i64 4))]) (vs := [.int .i64 2, .int .i64 4]) (cs := [.int .i64 2, .int .i64 4]) rfl rfl rfl sl22 zr3 rfl (by decide) (by decide) rfl rfl H (fun b3 w H => ?_)
    refine sc (due_ok (.slice (some ⟨b3, 0, none⟩) 2 2) [2, 4] 4) H (lA 0 rfl (fun F h => blk_rsl h rfl (by decide) (RepsR.flat_eq.2 rfl)) l0) rfl rfl (e_fn kn23 rfl rfl) ?_
    rintro _ _ w ⟨rfl, rfl⟩ H
    refine s_val rfl rfl (r_pickT rfl rfl rfl) ?_
    refine s_val rfl rfl (r_mv rfl rfl) ?_
    refine s_dec (d := 8) (p := 4 ∈ [2, 4]) rfl (fun h4 => ?_) (fun h4 => ?_)
    · skip
      refine s_bsl (parts := [(0, .const (.int .i64 2)), (1, .const (.int .i64 4))]) (vs := [.int .i64 2, .int .i64 4]) (cs := [.int .i64 2, .int .i64 4]) rfl rfl rfl sl22 zr3 rfl (by decide) (by decide) rfl rfl H (fun b5 w H => ?_)
      refine sc (reached_ok (.slice (some ⟨b5, 0, none⟩) 2 2) [2, 4] 3) H (lA 0 rfl (fun F h => blk_rsl h rfl (by decide) (RepsR.flat_eq.2 rfl)) l0) rfl rfl (e_fn kn25 rfl rfl) ?_
      rintro _ _ w ⟨rfl, rfl⟩ H
      refine s_val rfl rfl (r_eq rfl rfl rfl) ?_
      refine s_val rfl rfl (r_pickT rfl rfl rfl) ?_
      refine s_val rfl rfl (r_mv rfl rfl) ?_
      refine s_dec (d := 13) (p := ((cnt (fun m => decide (m ≤ 3)) [2, 4] : Nat) : Int) = 1) rfl (fun h6 => ?_) (fun h6 => ?_)
      · skip
        refine s_bsl (parts := [(0, .const (.int .i64 1))]) (vs := [.int .i64 1]) (cs := [.int .i64 1]) rfl rfl rfl sl22 zr3 rfl (by decide) (by decide) rfl rfl H (fun b7 w H => ?_)
        refine s_bsl (parts := [(0, .const (.int .i64 3)), (1, .const (.int .i64 1))]) (vs := [.int .i64 3, .int .i64 1]) (cs := [.int .i64 3, .int .i64 1]) rfl rfl rfl sl22 zr3 rfl (by decide) (by decide) rfl rfl H (fun b8 w H => ?_)
        refine sc (grows_ok (.slice (some ⟨b7, 0, none⟩) 1 1) [1] (.slice (some ⟨b8, 0, none⟩) 2 2) [3, 1]) H (lA 1 rfl (fun F h => blk_rsl h rfl (by decide) (RepsR.flat_eq.2 rfl)) (lA 0 rfl (fun F h => blk_rsl h rfl (by decide) (RepsR.flat_eq.2 rfl)) l0)) rfl rfl (e_fn kn27 rfl rfl) ?_
        rintro _ _ w ⟨rfl, rfl⟩ H
        refine s_val rfl rfl (r_pickT rfl rfl rfl) ?_
        refine s_val rfl rfl (r_mv rfl rfl) ?_
        refine s_dec (d := 18) (p := ∀ n ∈ [1], n ∈ [3, 1]) rfl (fun h9 => ?_) (fun h9 => ?_)
        · skip
          refine s_bsl (parts := [(0, .const (.int .i64 1))]) (vs := [.int .i64 1]) (cs := [.int .i64 1]) rfl rfl rfl sl22 zr3 rfl (by decide) (by decide) rfl rfl H (fun b10 w H => ?_)
          refine sc (grows_ok (.slice (some ⟨b10, 0, none⟩) 1 1) [1] (.slice none 0 0) []) H (lA 0 rfl (fun F h => blk_rsl h rfl (by decide) (RepsR.flat_eq.2 rfl)) (lX (fun F _ _ => rsl_nil _ _ F trivial (by decide)) l0)) rfl rfl (e_fn kn27 rfl rfl) ?_
          rintro _ _ w ⟨rfl, rfl⟩ H
          refine s_val rfl rfl (r_notP rfl rfl) ?_
          refine s_val rfl rfl (r_pickT rfl rfl rfl) ?_
          refine s_val rfl rfl (r_as rfl rfl) ?_
          refine s_nil ?_
          refine q_then ?_
          replace H : Hd _ _ _ [blk b10 [.int .i64 1] 3, blk b8 [.int .i64 3, .int .i64 1] 3, blk b7 [.int .i64 1] 3, blk b5 [.int .i64 2, .int .i64 4] 3, blk b3 [.int .i64 2, .int .i64 4] 3, blk b1 [.int .i64 2, .int .i64 4] 3] [] := H
          refine c_env [(0, .bool (decide (¬ (∀ n ∈ [1], n ∈ []))))] ⟨rfl, trivial⟩ ?_
          refine c_ret ?_
          refine q_ret1 rfl rfl ?_
          replace H := H.keep 0
          exact fin ⟨rfl, rfl⟩ H
        · exact (h9 (by decide)).elim
      · exact (h6 (by decide)).elim
    · exact (h4 (by decide)).elim
  · exact (h2 (by decide)).elim

set_option maxHeartbeats 1000000 in
theorem snapTells_ok (vmarks : Value) (marks : List Int) (wmarks : (∀ x ∈ marks, In64 x) ∧ marks.length ≤ 9223372036854775807) (n : Int) (wn : In64 n) (va : Value) (a : List Int) (wa : (∀ x ∈ a, In64 x) ∧ a.length ≤ 9223372036854775807) (vb : Value) (b : List Int) (wb : (∀ x ∈ b, In64 x) ∧ b.length ≤ 9223372036854775807) :
    Cn Try.prog 3 [vmarks, .int .i64 n, va, vb] [] [rsl (kInt .i64) vmarks marks, rsl (kInt .i64) va a, rsl (kInt .i64) vb b] (fun v Bs => v = .bool true ∧ Bs = []) := by
  intro w0 F0 H
  obtain ⟨A1, c2, rfl, hc3, hm4, hp5⟩ := H.fR 0 rfl
  obtain ⟨A6, c7, rfl, hc8, hm9, hp10⟩ := H.fR 1 rfl
  obtain ⟨A11, c12, rfl, hc13, hm14, hp15⟩ := H.fR 2 rfl
  unfold In64 at wn
  refine enter (args := [.slice A1 marks.length c2, .int .i64 n, .slice A6 a.length c7, .slice A11 b.length c12]) Try.func3 rfl rfl (Nat.le_of_ble_eq_true rfl) ?_
  refine c_seq ?_
  refine c_reg ?_
  refine s_val rfl rfl (r_as rfl rfl) ?_
  refine s_nil ?_
  refine q_then ?_
  replace H : Hd _ _ _ [] [rsl (kInt .i64) (.slice A1 marks.length c2) marks, rsl (kInt .i64) (.slice A6 a.length c7) a, rsl (kInt .i64) (.slice A11 b.length c12) b] := H
  refine c_env [(0, .slice A1 marks.length c2), (1, .int .i64 n), (2, .slice A6 a.length c7), (3, .slice A11 b.length c12), (8, .bool false)] ⟨rfl, rfl, rfl, rfl, rfl, trivial⟩ ?_
  refine c_seq ?_
  refine c_seq ?_
  refine c_reg ?_
  refine s_val rfl rfl (r_mv rfl rfl) ?_
  refine s_val rfl rfl (r_lenL rfl un22 rfl) ?_
  refine s_val rfl rfl (r_gt rfl rfl rfl) ?_
  refine s_val rfl rfl (r_mv rfl rfl) ?_
  refine s_dec (d := 13) (p := (20 : Int) < ((marks.length : Nat) : Int)) rfl (fun h16 => ?_) (fun h16 => ?_)
  · skip
    refine s_no rfl rfl ?_
    refine s_no rfl rfl ?_
    refine s_no rfl rfl ?_
    refine s_val rfl rfl (r_pickT rfl rfl rfl) ?_
    refine s_val rfl rfl (r_mv rfl rfl) ?_
    refine s_no rfl rfl ?_
    refine s_no rfl rfl ?_
    refine s_no rfl rfl ?_
    refine s_val rfl rfl (r_pickT rfl rfl rfl) ?_
    refine s_nil ?_
    refine q_then ?_
    refine c_env [(0, .slice A1 marks.length c2), (1, .int .i64 n), (2, .slice A6 a.length c7), (3, .slice A11 b.length c12), (8, .bool false), (22, .bool true)] ⟨rfl, rfl, rfl, rfl, rfl, rfl, trivial⟩ ?_
    refine c_yes rfl ?_
    refine c_seq ?_
    refine c_reg ?_
    refine sc (awake20_ok ) H l0 rfl rfl (e_fn kn21 rfl rfl) ?_
    rintro _ _ w ⟨rfl, rfl⟩ H
    refine s_val rfl rfl (r_as rfl rfl) ?_
    refine s_nil ?_
    refine q_then ?_
    refine c_env [(0, .slice A1 marks.length c2), (1, .int .i64 n), (2, .slice A6 a.length c7), (3, .slice A11 b.length c12), (8, .bool true)] ⟨rfl, rfl, rfl, rfl, rfl, trivial⟩ ?_
    refine c_ret ?_
    refine q_thenR ?_
    refine q_ret1 rfl rfl ?_
    exact fin ⟨rfl, rfl⟩ H
  · skip
    refine s_val rfl rfl (r_mv rfl rfl) ?_
    refine s_val rfl rfl (r_lenL rfl un22 rfl) ?_
    refine s_val rfl rfl (r_gt rfl rfl rfl) ?_
    refine s_val rfl rfl (r_pickF rfl rfl rfl) ?_
    refine s_val rfl rfl (r_mv rfl rfl) ?_
    refine s_dec (d := 18) (p := (20 : Int) < ((a.length : Nat) : Int)) rfl (fun h17 => ?_) (fun h17 => ?_)
    · skip
      refine s_no rfl rfl ?_
      refine s_no rfl rfl ?_
      refine s_no rfl rfl ?_
      refine s_val rfl rfl (r_pickT rfl rfl rfl) ?_
      refine s_nil ?_
      refine q_then ?_
      refine c_env [(0, .slice A1 marks.length c2), (1, .int .i64 n), (2, .slice A6 a.length c7), (3, .slice A11 b.length c12), (8, .bool false), (22, .bool true)] ⟨rfl, rfl, rfl, rfl, rfl, rfl, trivial⟩ ?_
      refine c_yes rfl ?_
      refine c_seq ?_
      refine c_reg ?_
      refine sc (awake20_ok ) H l0 rfl rfl (e_fn kn21 rfl rfl) ?_
      rintro _ _ w ⟨rfl, rfl⟩ H
      refine s_val rfl rfl (r_as rfl rfl) ?_
      refine s_nil ?_
      refine q_then ?_
      refine c_env [(0, .slice A1 marks.length c2), (1, .int .i64 n), (2, .slice A6 a.length c7), (3, .slice A11 b.length c12), (8, .bool true)] ⟨rfl, rfl, rfl, rfl, rfl, trivial⟩ ?_
      refine c_ret ?_
      refine q_thenR ?_
      refine q_ret1 rfl rfl ?_
      exact fin ⟨rfl, rfl⟩ H
    · skip
      refine s_val rfl rfl (r_mv rfl rfl) ?_
      refine s_val rfl rfl (r_lenL rfl un22 rfl) ?_
      refine s_val rfl rfl (r_gt rfl rfl rfl) ?_
      refine s_val rfl rfl (r_pickF rfl rfl rfl) ?_
      refine s_nil ?_
      refine q_then ?_
      refine c_env [(0, .slice A1 marks.length c2), (1, .int .i64 n), (2, .slice A6 a.length c7), (3, .slice A11 b.length c12), (8, .bool false), (22, .bool (decide ((20 : Int) < ((b.length : Nat) : Int))))] ⟨rfl, rfl, rfl, rfl, rfl, rfl, trivial⟩ ?_
      refine c_dec (p := (20 : Int) < ((b.length : Nat) : Int)) rfl (fun h18 => ?_) (fun h18 => ?_)
      · skip
        refine c_seq ?_
        refine c_reg ?_
        refine sc (awake20_ok ) H l0 rfl rfl (e_fn kn21 rfl rfl) ?_
        rintro _ _ w ⟨rfl, rfl⟩ H
        refine s_val rfl rfl (r_as rfl rfl) ?_
        refine s_nil ?_
        refine q_then ?_
        refine c_env [(0, .slice A1 marks.length c2), (1, .int .i64 n), (2, .slice A6 a.length c7), (3, .slice A11 b.length c12), (8, .bool true)] ⟨rfl, rfl, rfl, rfl, rfl, trivial⟩ ?_
        refine c_ret ?_
        refine q_thenR ?_
        refine q_ret1 rfl rfl ?_
        exact fin ⟨rfl, rfl⟩ H
      · skip
        refine c_skip ?_
        refine q_then ?_
        refine c_env [(0, .slice A1 marks.length c2), (1, .int .i64 n), (2, .slice A6 a.length c7), (3, .slice A11 b.length c12), (8, .bool false)] ⟨rfl, rfl, rfl, rfl, rfl, trivial⟩ ?_
        refine c_seq ?_
        refine c_reg ?_
        refine s_val rfl rfl (r_mv rfl rfl) ?_
        refine sc (lendInts_ok (.slice A1 marks.length c2) marks (by omega)) H (lR 0 rfl l0) rfl rfl (e_fn kn22 rfl rfl) ?_
        rintro _ _ w ⟨b19, rfl, rfl⟩ H
        refine s_val rfl rfl (r_as rfl rfl) ?_
        refine s_nil ?_
        refine q_then ?_
        replace H : Hd _ _ _ [rowF encI64 b19 3 (marks ++ List.replicate 3 (-777))] [rsl (kInt .i64) (.slice A1 marks.length c2) marks, rsl (kInt .i64) (.slice A6 a.length c7) a, rsl (kInt .i64) (.slice A11 b.length c12) b] := H
        refine c_env [(0, .slice A1 marks.length c2), (1, .int .i64 n), (2, .slice A6 a.length c7), (3, .slice A11 b.length c12), (8, .bool false), (9, .slice (some ⟨b19, 0, none⟩) marks.length (marks.length + 3))] ⟨rfl, rfl, rfl, rfl, rfl, rfl, trivial⟩ ?_
        refine c_seq ?_
        refine c_reg ?_
        refine s_val rfl rfl (r_mv rfl rfl) ?_
        refine s_val rfl rfl (r_mv rfl rfl) ?_
        refine sc (due_ok (.slice (some ⟨b19, 0, none⟩) marks.length (marks.length + 3)) marks n) H (lA 0 rfl (fun F h => rowF_rsl (i := 0) h (by simp) (by simp) (by simp) (by omega) (by simp)) l0) rfl rfl (e_fn kn23 rfl rfl) ?_
        rintro _ _ w ⟨rfl, rfl⟩ H
        refine s_val rfl rfl (r_mv rfl rfl) ?_
        refine s_val rfl rfl (r_mv rfl rfl) ?_
        refine sc (refDue_ok (.slice A1 marks.length c2) marks n) H (lR 0 rfl l0) rfl rfl (e_fn kn24 rfl rfl) ?_
        rintro _ _ w ⟨rfl, rfl⟩ H
        refine s_val rfl rfl (r_beq rfl un4 rfl rfl) ?_
        refine s_val rfl rfl (r_mv rfl rfl) ?_
        refine s_dec (d := 33) (p := (decide (n ∈ marks)) = (decide (n ∈ marks))) rfl (fun h20 => ?_) (fun h20 => ?_)
        · skip
          refine s_val rfl rfl (r_mv rfl rfl) ?_
          refine s_val rfl rfl (r_mv rfl rfl) ?_
          refine sc (reached_ok (.slice (some ⟨b19, 0, none⟩) marks.length (marks.length + 3)) marks n) H (lA 0 rfl (fun F h => rowF_rsl (i := 0) h (by simp) (by simp) (by simp) (by omega) (by simp)) l0) rfl rfl (e_fn kn25 rfl rfl) ?_
          rintro _ _ w ⟨rfl, rfl⟩ H
          refine s_val rfl rfl (r_mv rfl rfl) ?_
          refine s_val rfl rfl (r_mv rfl rfl) ?_
          refine sc (refReached_ok (.slice A1 marks.length c2) marks n) H (lR 0 rfl l0) rfl rfl (e_fn kn26 rfl rfl) ?_
          rintro _ _ w ⟨rfl, rfl⟩ H
          refine s_val rfl rfl (r_eq rfl rfl rfl) ?_
          refine s_val rfl rfl (r_pickT rfl rfl rfl) ?_
          refine s_val rfl rfl (r_mv rfl rfl) ?_
          refine s_dec (d := 42) (p := ((cnt (fun m => decide (m ≤ n)) marks : Nat) : Int) = ((cnt (fun m => decide (m ≤ n)) marks : Nat) : Int)) rfl (fun h21 => ?_) (fun h21 => ?_)
          · skip
            refine s_val rfl rfl (r_mv rfl rfl) ?_
            refine s_val rfl rfl (r_mv rfl rfl) ?_
            refine sc (grows_ok (.slice A6 a.length c7) a (.slice A11 b.length c12) b) H (lR 1 rfl (lR 2 rfl l0)) rfl rfl (e_fn kn27 rfl rfl) ?_
            rintro _ _ w ⟨rfl, rfl⟩ H
            refine s_val rfl rfl (r_mv rfl rfl) ?_
            refine s_val rfl rfl (r_mv rfl rfl) ?_
            refine sc (refGrows_ok (.slice A6 a.length c7) a (.slice A11 b.length c12) b) H (lR 1 rfl (lR 2 rfl l0)) rfl rfl (e_fn kn28 rfl rfl) ?_
            rintro _ _ w ⟨rfl, rfl⟩ H
            refine s_val rfl rfl (r_beq rfl un4 rfl rfl) ?_
            refine s_val rfl rfl (r_pickT rfl rfl rfl) ?_
            refine s_val rfl rfl (r_mv rfl rfl) ?_
            refine s_dec (d := 51) (p := (decide (∀ n ∈ a, n ∈ b)) = (decide (∀ n ∈ a, n ∈ b))) rfl (fun h22 => ?_) (fun h22 => ?_)
            · skip
              refine s_val rfl rfl (r_mv rfl rfl) ?_
              refine s_val rfl rfl (r_mv rfl rfl) ?_
              refine sc (keptInts_ok b19 marks (.slice A1 marks.length c2) marks (by omega)) H (lA 0 rfl (fun _ h => h) (lR 0 rfl l0)) rfl rfl (e_fn kn29 rfl rfl) ?_
              rintro _ _ w ⟨rfl, rfl⟩ H
              refine s_val rfl rfl (r_pickT rfl rfl rfl) ?_
              refine s_val rfl rfl (r_mv rfl rfl) ?_
              refine s_dec (d := 56) (p := marks = marks) rfl (fun h23 => ?_) (fun h23 => ?_)
              · skip
                refine sc (awake20_ok ) H l0 rfl rfl (e_fn kn21 rfl rfl) ?_
                rintro _ _ w ⟨rfl, rfl⟩ H
                refine s_val rfl rfl (r_pickT rfl rfl rfl) ?_
                refine s_val rfl rfl (r_as rfl rfl) ?_
                refine s_nil ?_
                refine q_then ?_
                refine c_env [(8, .bool true)] ⟨rfl, trivial⟩ ?_
                refine c_ret ?_
                refine q_ret1 rfl rfl ?_
                replace H := H.keep 0
                exact fin ⟨rfl, rfl⟩ H
              · exact (h23 rfl).elim
            · exact (h22 rfl).elim
          · exact (h21 rfl).elim
        · exact (h20 rfl).elim

set_option maxHeartbeats 1000000 in
theorem snapRises_ok (vmarks : Value) (marks : List Int) (wmarks : (∀ x ∈ marks, In64 x) ∧ marks.length ≤ 9223372036854775807) (n : Int) (wn : In64 n) :
    Cn Try.prog 4 [vmarks, .int .i64 n] [] [rsl (kInt .i64) vmarks marks] (fun v Bs => v = .bool true ∧ Bs = []) := by
  intro w0 F0 H
  obtain ⟨A1, c2, rfl, hc3, hm4, hp5⟩ := H.fR 0 rfl
  unfold In64 at wn
  refine enter (args := [.slice A1 marks.length c2, .int .i64 n]) Try.func4 rfl rfl (Nat.le_of_ble_eq_true rfl) ?_
  refine c_seq ?_
  refine c_reg ?_
  refine s_val rfl rfl (r_as rfl rfl) ?_
  refine s_nil ?_
  refine q_then ?_
  replace H : Hd _ _ _ [] [rsl (kInt .i64) (.slice A1 marks.length c2) marks] := H
  refine c_env [(0, .slice A1 marks.length c2), (1, .int .i64 n), (4, .bool false)] ⟨rfl, rfl, rfl, trivial⟩ ?_
  refine c_seq ?_
  refine c_seq ?_
  refine c_reg ?_
  refine s_val rfl rfl (r_mv rfl rfl) ?_
  refine s_val rfl rfl (r_lenL rfl un22 rfl) ?_
  refine s_val rfl rfl (r_gt rfl rfl rfl) ?_
  refine s_nil ?_
  refine q_then ?_
  refine c_env [(0, .slice A1 marks.length c2), (1, .int .i64 n), (4, .bool false), (10, .bool (decide ((6 : Int) < ((marks.length : Nat) : Int))))] ⟨rfl, rfl, rfl, rfl, trivial⟩ ?_
  refine c_dec (p := (6 : Int) < ((marks.length : Nat) : Int)) rfl (fun h6 => ?_) (fun h6 => ?_)
  · skip
    refine c_seq ?_
    refine c_reg ?_
    refine sc (awake20_ok ) H l0 rfl rfl (e_fn kn21 rfl rfl) ?_
    rintro _ _ w ⟨rfl, rfl⟩ H
    refine s_val rfl rfl (r_as rfl rfl) ?_
    refine s_nil ?_
    refine q_then ?_
    refine c_env [(0, .slice A1 marks.length c2), (1, .int .i64 n), (4, .bool true)] ⟨rfl, rfl, rfl, trivial⟩ ?_
    refine c_ret ?_
    refine q_thenR ?_
    refine q_ret1 rfl rfl ?_
    exact fin ⟨rfl, rfl⟩ H
  · skip
    refine c_skip ?_
    refine q_then ?_
    refine c_env [(0, .slice A1 marks.length c2), (1, .int .i64 n), (4, .bool false)] ⟨rfl, rfl, rfl, trivial⟩ ?_
    refine c_seq ?_
    refine c_seq ?_
    refine c_reg ?_
    refine s_val rfl rfl (r_as rfl rfl) ?_
    refine s_nil ?_
    refine q_then ?_
    refine c_env [(0, .slice A1 marks.length c2), (1, .int .i64 n), (4, .bool false), (5, .int .i64 0)] ⟨rfl, rfl, rfl, rfl, trivial⟩ ?_
    refine c_block ?_
    refine c_loop (σ := Nat) (fun i => [(0, .slice A1 marks.length c2), (1, .int .i64 n), (5, .int .i64 ((i : Nat) : Int))]) (fun i w => (Hd w0 F0 w [] [rsl (kInt .i64) (.slice A1 marks.length c2) marks]) ∧ (i ≤ marks.length) ∧ ((∀ x ∈ marks, In64 x) ∧ marks.length ≤ 9223372036854775807) ∧ (In64 n) ∧ (Distinct marks i)) (fun i => marks.length - i) 0 ⟨rfl, rfl, rfl, trivial⟩ ⟨H, by omega, wmarks, wn, distinct_zero marks⟩ ?_
    rintro i w ⟨H, hi, wmarks, wn, ho⟩
    refine c_seq ?_
    refine c_seq ?_
    refine c_reg ?_
    refine s_val rfl rfl (r_mv rfl rfl) ?_
    refine s_val rfl rfl (r_mv rfl rfl) ?_
    refine s_val rfl rfl (r_lenL rfl un22 rfl) ?_
    refine s_val rfl rfl (r_lt rfl rfl rfl) ?_
    refine s_nil ?_
    refine q_then ?_
    refine c_env [(0, .slice A1 marks.length c2), (1, .int .i64 n), (5, .int .i64 ((i : Nat) : Int)), (15, .bool (decide (((i : Nat) : Int) < ((marks.length : Nat) : Int))))] ⟨rfl, rfl, rfl, rfl, trivial⟩ ?_
    refine c_dec (p := ((i : Nat) : Int) < ((marks.length : Nat) : Int)) rfl (fun h7 => ?_) (fun h7 => ?_)
    · skip
      refine c_skip ?_
      refine q_then ?_
      refine c_env [(0, .slice A1 marks.length c2), (1, .int .i64 n), (5, .int .i64 ((i : Nat) : Int))] ⟨rfl, rfl, rfl, trivial⟩ ?_
      refine c_seq ?_
      refine c_block ?_
      refine c_seq ?_
      refine c_reg ?_
      refine s_val rfl rfl (r_as rfl rfl) ?_
      refine s_nil ?_
      refine q_then ?_
      refine c_env [(0, .slice A1 marks.length c2), (1, .int .i64 n), (5, .int .i64 ((i : Nat) : Int)), (6, .int .i64 0)] ⟨rfl, rfl, rfl, rfl, trivial⟩ ?_
      refine c_block ?_
      refine c_loop (σ := Nat) (fun k => [(0, .slice A1 marks.length c2), (1, .int .i64 n), (5, .int .i64 ((i : Nat) : Int)), (6, .int .i64 ((k : Nat) : Int))]) (fun k w => (Hd w0 F0 w [] [rsl (kInt .i64) (.slice A1 marks.length c2) marks]) ∧ (k ≤ i) ∧ (∀ j, j < k → marks[j]? ≠ marks[i]?)) (fun k => i - k) 0 ⟨rfl, rfl, rfl, rfl, trivial⟩ ⟨H, by omega, by intro j hj; omega⟩ ?_
      rintro k w ⟨H, hk, hi2⟩
      refine c_seq ?_
      refine c_seq ?_
      refine c_reg ?_
      refine s_val rfl rfl (r_mv rfl rfl) ?_
      refine s_val rfl rfl (r_mv rfl rfl) ?_
      refine s_val rfl rfl (r_lt rfl rfl rfl) ?_
      refine s_nil ?_
      refine q_then ?_
      refine c_env [(0, .slice A1 marks.length c2), (1, .int .i64 n), (5, .int .i64 ((i : Nat) : Int)), (6, .int .i64 ((k : Nat) : Int)), (20, .bool (decide (((k : Nat) : Int) < ((i : Nat) : Int))))] ⟨rfl, rfl, rfl, rfl, rfl, trivial⟩ ?_
      refine c_dec (p := ((k : Nat) : Int) < ((i : Nat) : Int)) rfl (fun h8 => ?_) (fun h8 => ?_)
      · skip
        refine c_skip ?_
        refine q_then ?_
        refine c_env [(0, .slice A1 marks.length c2), (1, .int .i64 n), (5, .int .i64 ((i : Nat) : Int)), (6, .int .i64 ((k : Nat) : Int))] ⟨rfl, rfl, rfl, rfl, trivial⟩ ?_
        refine c_seq ?_
        refine c_block ?_
        refine c_seq ?_
        refine c_draw mo (by kernel_rfl) H ?_
        refine u_val rfl rfl (fun w H => r_mv rfl rfl) ?_
        refine u_val rfl rfl (fun w H => r_mv rfl rfl) ?_
        obtain ⟨x9, hx10⟩ : ∃ x, marks[k]? = some x := ⟨_, List.getElem?_eq_getElem (show k < marks.length by omega)⟩
        refine u_val rfl rfl (fun w H => r_iaE (p := oOf A1 + k * 1) rfl sl22 rfl rfl (by omega) (by omega) (H.thR 0 rfl hx10) rfl) ?_
        refine u_val rfl rfl (fun w H => r_ld rfl ty3 rfl (H.elR 0 rfl hx10 (q := 0) rfl rfl)) ?_
        refine u_val rfl rfl (fun w H => r_mv rfl rfl) ?_
        refine u_val rfl rfl (fun w H => r_mv rfl rfl) ?_
        obtain ⟨x11, hx12⟩ : ∃ x, marks[i]? = some x := ⟨_, List.getElem?_eq_getElem (show i < marks.length by omega)⟩
        refine u_val rfl rfl (fun w H => r_iaE (p := oOf A1 + i * 1) rfl sl22 rfl rfl (by omega) (by omega) (H.thR 0 rfl hx12) rfl) ?_
        refine u_val rfl rfl (fun w H => r_ld rfl ty3 rfl (H.elR 0 rfl hx12 (q := 0) rfl rfl)) ?_
        refine u_val rfl rfl (fun w H => r_eq rfl rfl rfl) ?_
        refine u_end (fun w H => ?_)
        refine q_then ?_
        refine c_env [(0, .slice A1 marks.length c2), (1, .int .i64 n), (5, .int .i64 ((i : Nat) : Int)), (6, .int .i64 ((k : Nat) : Int)), (31, .bool (decide (x9 = x11)))] ⟨rfl, rfl, rfl, rfl, rfl, trivial⟩ ?_
        refine c_dec (p := x9 = x11) rfl (fun h13 => ?_) (fun h13 => ?_)
        · skip
          refine c_seq ?_
          refine c_reg ?_
          refine sc (awake20_ok ) H l0 rfl rfl (e_fn kn21 rfl rfl) ?_
          rintro _ _ w ⟨rfl, rfl⟩ H
          refine s_val rfl rfl (r_as rfl rfl) ?_
          refine s_nil ?_
          refine q_then ?_
          refine c_env [(0, .slice A1 marks.length c2), (1, .int .i64 n), (4, .bool true), (5, .int .i64 ((i : Nat) : Int)), (6, .int .i64 ((k : Nat) : Int))] ⟨rfl, rfl, rfl, rfl, rfl, trivial⟩ ?_
          refine c_ret ?_
          refine q_blockR ?_
          refine q_thenR ?_
          refine q_thenR ?_
          refine q_blockR ?_
          refine q_blockR ?_
          refine q_thenR ?_
          refine q_thenR ?_
          refine q_blockR ?_
          refine q_thenR ?_
          refine q_ret1 rfl rfl ?_
          exact fin ⟨rfl, rfl⟩ H
        · skip
          refine c_skip ?_
          refine q_blockN ?_
          refine q_then ?_
          refine c_env [(0, .slice A1 marks.length c2), (1, .int .i64 n), (5, .int .i64 ((i : Nat) : Int)), (6, .int .i64 ((k : Nat) : Int))] ⟨rfl, rfl, rfl, rfl, trivial⟩ ?_
          refine c_reg ?_
          refine s_val rfl rfl (r_mv rfl rfl) ?_
          refine s_val rfl rfl (r_add (z := ((k + 1 : Nat) : Int)) rfl rfl rfl (by rw [w64 (by omega) (by omega)]; omega)) ?_
          refine s_val rfl rfl (r_as rfl rfl) ?_
          refine s_nil ?_
          exact q_round (k + 1) ⟨rfl, rfl, rfl, rfl, trivial⟩ ⟨H, by omega, rises_inner hi2 hx10 hx12 h13⟩ (by (try dsimp only); omega)
      · skip
        refine c_exit ?_
        refine q_thenE ?_
        refine q_thenE ?_
        refine q_blockE ?_
        refine q_blockN ?_
        refine q_then ?_
        refine c_env [(0, .slice A1 marks.length c2), (1, .int .i64 n), (5, .int .i64 ((i : Nat) : Int))] ⟨rfl, rfl, rfl, trivial⟩ ?_
        refine c_reg ?_
        refine s_val rfl rfl (r_mv rfl rfl) ?_
        refine s_val rfl rfl (r_add (z := ((i + 1 : Nat) : Int)) rfl rfl rfl (by rw [w64 (by omega) (by omega)]; omega)) ?_
        refine s_val rfl rfl (r_as rfl rfl) ?_
        refine s_nil ?_
        exact q_round (i + 1) ⟨rfl, rfl, rfl, trivial⟩ ⟨H, by omega, wmarks, wn, distinct_succ ho (fun j hj => hi2 j (by omega))⟩ (by (try dsimp only); omega)
    · skip
      refine c_exit ?_
      refine q_thenE ?_
      refine q_thenE ?_
      refine q_blockE ?_
      refine q_then ?_
      refine c_env [(0, .slice A1 marks.length c2), (1, .int .i64 n)] ⟨rfl, rfl, trivial⟩ ?_
      refine c_seq ?_
      obtain rfl : i = marks.length := by omega
      have hmod0 := Int.emod_nonneg (IntKind.u64.wrap n) (show (20 : Int) ≠ 0 by omega)
      have hmod1 := Int.emod_lt_of_pos (IntKind.u64.wrap n) (show (0 : Int) < 20 by omega)
      have hlen : marks.length ≤ 6 := by omega
      refine c_reg ?_
      refine s_val rfl rfl (r_mv rfl rfl) ?_
      refine sc (low_ok n 20 (by unfold In64; omega) (by omega) (by omega)) H l0 rfl rfl (e_fn kn30 rfl rfl) ?_
      rintro _ _ w ⟨rfl, rfl⟩ H
      refine s_val rfl rfl (r_as rfl rfl) ?_
      refine s_nil ?_
      refine q_then ?_
      refine c_env [(0, .slice A1 marks.length c2), (1, .int .i64 (IntKind.u64.wrap n % 20))] ⟨rfl, rfl, trivial⟩ ?_
      refine c_seq ?_
      have hr := rises_count ho (IntKind.u64.wrap n % 20)
      have hc1 := cnt_le (fun m => decide (m ≤ IntKind.u64.wrap n % 20)) marks
      have hc2 := cnt_le (fun m => decide (m ≤ (IntKind.u64.wrap n % 20) + 1)) marks
      refine c_reg ?_
      refine s_val rfl rfl (r_mv rfl rfl) ?_
      refine s_val rfl rfl (r_mv rfl rfl) ?_
      refine s_val rfl rfl (r_add (z := (IntKind.u64.wrap n % 20) + 1) rfl rfl rfl (w64 (by omega) (by omega))) ?_
      refine sc (reached_ok (.slice A1 marks.length c2) marks ((IntKind.u64.wrap n % 20) + 1)) H (lR 0 rfl l0) rfl rfl (e_fn kn25 rfl rfl) ?_
      rintro _ _ w ⟨rfl, rfl⟩ H
      refine s_val rfl rfl (r_mv rfl rfl) ?_
      refine s_val rfl rfl (r_mv rfl rfl) ?_
      refine sc (reached_ok (.slice A1 marks.length c2) marks (IntKind.u64.wrap n % 20)) H (lR 0 rfl l0) rfl rfl (e_fn kn25 rfl rfl) ?_
      rintro _ _ w ⟨rfl, rfl⟩ H
      refine s_val rfl rfl (r_sub (z := ((cnt (fun m => decide (m ≤ ((IntKind.u64.wrap n % 20) + 1))) marks : Nat) : Int) - ((cnt (fun m => decide (m ≤ (IntKind.u64.wrap n % 20))) marks : Nat) : Int)) rfl rfl rfl (w64 (by omega) (by omega))) ?_
      refine s_val rfl rfl (r_as rfl rfl) ?_
      refine s_nil ?_
      refine q_then ?_
      refine c_env [(0, .slice A1 marks.length c2), (1, .int .i64 (IntKind.u64.wrap n % 20)), (7, .int .i64 (((cnt (fun m => decide (m ≤ ((IntKind.u64.wrap n % 20) + 1))) marks : Nat) : Int) - ((cnt (fun m => decide (m ≤ (IntKind.u64.wrap n % 20))) marks : Nat) : Int)))] ⟨rfl, rfl, rfl, trivial⟩ ?_
      refine c_seq ?_
      refine c_reg ?_
      refine s_val rfl rfl (r_mv rfl rfl) ?_
      refine s_val rfl rfl (r_ge rfl rfl rfl) ?_
      refine s_val rfl rfl (r_mv rfl rfl) ?_
      refine s_dec (d := 45) (p := (0 : Int) ≤ (((cnt (fun m => decide (m ≤ ((IntKind.u64.wrap n % 20) + 1))) marks : Nat) : Int) - ((cnt (fun m => decide (m ≤ (IntKind.u64.wrap n % 20))) marks : Nat) : Int))) rfl (fun h14 => ?_) (fun h14 => ?_)
      · skip
        refine s_val rfl rfl (r_mv rfl rfl) ?_
        refine s_val rfl rfl (r_eq rfl rfl rfl) ?_
        refine s_val rfl rfl (r_mv rfl rfl) ?_
        refine s_val rfl rfl (r_mv rfl rfl) ?_
        refine s_val rfl rfl (r_add (z := (IntKind.u64.wrap n % 20) + 1) rfl rfl rfl (w64 (by omega) (by omega))) ?_
        refine sc (due_ok (.slice A1 marks.length c2) marks ((IntKind.u64.wrap n % 20) + 1)) H (lR 0 rfl l0) rfl rfl (e_fn kn23 rfl rfl) ?_
        rintro _ _ w ⟨rfl, rfl⟩ H
        refine s_val rfl rfl (r_beq rfl un4 rfl rfl) ?_
        refine s_val rfl rfl (r_pickT rfl rfl rfl) ?_
        refine s_val rfl rfl (r_mv rfl rfl) ?_
        refine s_dec (d := 54) (p := (decide ((((cnt (fun m => decide (m ≤ ((IntKind.u64.wrap n % 20) + 1))) marks : Nat) : Int) - ((cnt (fun m => decide (m ≤ (IntKind.u64.wrap n % 20))) marks : Nat) : Int)) = 1)) = (decide (((IntKind.u64.wrap n % 20) + 1) ∈ marks))) rfl (fun h15 => ?_) (fun h15 => ?_)
        · skip
          refine s_val rfl rfl (r_mv rfl rfl) ?_
          refine s_val rfl rfl (r_le rfl rfl rfl) ?_
          refine s_val rfl rfl (r_pickT rfl rfl rfl) ?_
          refine s_val rfl rfl (r_mv rfl rfl) ?_
          refine s_dec (d := 58) (p := (((cnt (fun m => decide (m ≤ ((IntKind.u64.wrap n % 20) + 1))) marks : Nat) : Int) - ((cnt (fun m => decide (m ≤ (IntKind.u64.wrap n % 20))) marks : Nat) : Int)) ≤ 1) rfl (fun h16 => ?_) (fun h16 => ?_)
          · skip
            refine sc (awake20_ok ) H l0 rfl rfl (e_fn kn21 rfl rfl) ?_
            rintro _ _ w ⟨rfl, rfl⟩ H
            refine s_val rfl rfl (r_pickT rfl rfl rfl) ?_
            refine s_val rfl rfl (r_as rfl rfl) ?_
            refine s_nil ?_
            refine q_then ?_
            refine c_env [(4, .bool true)] ⟨rfl, trivial⟩ ?_
            refine c_ret ?_
            refine q_ret1 rfl rfl ?_
            exact fin ⟨rfl, rfl⟩ H
          · exact (h16 (by rcases hr with ⟨a, _⟩ | ⟨a, _⟩ <;> omega)).elim
        · exact (h15 (by rcases hr with ⟨a, b⟩ | ⟨a, b⟩ <;> simp only [decide_eq_decide] <;> constructor <;> intro q <;> first | exact b | omega | exact absurd q b)).elim
      · exact (h14 (by rcases hr with ⟨a, _⟩ | ⟨a, _⟩ <;> omega)).elim

set_option maxHeartbeats 1000000 in
theorem snapGrows_ok (va : Value) (a : List Int) (wa : (∀ x ∈ a, In64 x) ∧ a.length ≤ 9223372036854775807) (vb : Value) (b : List Int) (wb : (∀ x ∈ b, In64 x) ∧ b.length ≤ 9223372036854775807) (vc : Value) (c : List Int) (wc : (∀ x ∈ c, In64 x) ∧ c.length ≤ 9223372036854775807) :
    Cn Try.prog 5 [va, vb, vc] [] [rsl (kInt .i64) va a, rsl (kInt .i64) vb b, rsl (kInt .i64) vc c] (fun v Bs => v = .bool true ∧ Bs = []) := by
  intro w0 F0 H
  obtain ⟨A1, c2, rfl, hc3, hm4, hp5⟩ := H.fR 0 rfl
  obtain ⟨A6, c7, rfl, hc8, hm9, hp10⟩ := H.fR 1 rfl
  obtain ⟨A11, c12, rfl, hc13, hm14, hp15⟩ := H.fR 2 rfl
  refine enter (args := [.slice A1 a.length c2, .slice A6 b.length c7, .slice A11 c.length c12]) Try.func5 rfl rfl (Nat.le_of_ble_eq_true rfl) ?_
  refine c_seq ?_
  refine c_reg ?_
  refine s_val rfl rfl (r_as rfl rfl) ?_
  refine s_nil ?_
  refine q_then ?_
  replace H : Hd _ _ _ [] [rsl (kInt .i64) (.slice A1 a.length c2) a, rsl (kInt .i64) (.slice A6 b.length c7) b, rsl (kInt .i64) (.slice A11 c.length c12) c] := H
  refine c_env [(0, .slice A1 a.length c2), (1, .slice A6 b.length c7), (2, .slice A11 c.length c12), (6, .bool false)] ⟨rfl, rfl, rfl, rfl, trivial⟩ ?_
  refine c_seq ?_
  refine c_seq ?_
  refine c_reg ?_
  refine s_val rfl rfl (r_mv rfl rfl) ?_
  refine s_val rfl rfl (r_lenL rfl un22 rfl) ?_
  refine s_val rfl rfl (r_gt rfl rfl rfl) ?_
  refine s_val rfl rfl (r_mv rfl rfl) ?_
  refine s_dec (d := 11) (p := (20 : Int) < ((a.length : Nat) : Int)) rfl (fun h16 => ?_) (fun h16 => ?_)
  · skip
    refine s_no rfl rfl ?_
    refine s_no rfl rfl ?_
    refine s_no rfl rfl ?_
    refine s_val rfl rfl (r_pickT rfl rfl rfl) ?_
    refine s_val rfl rfl (r_mv rfl rfl) ?_
    refine s_no rfl rfl ?_
    refine s_no rfl rfl ?_
    refine s_no rfl rfl ?_
    refine s_val rfl rfl (r_pickT rfl rfl rfl) ?_
    refine s_nil ?_
    refine q_then ?_
    refine c_env [(0, .slice A1 a.length c2), (1, .slice A6 b.length c7), (2, .slice A11 c.length c12), (6, .bool false), (20, .bool true)] ⟨rfl, rfl, rfl, rfl, rfl, trivial⟩ ?_
    refine c_yes rfl ?_
    refine c_seq ?_
    refine c_reg ?_
    refine sc (awake20_ok ) H l0 rfl rfl (e_fn kn21 rfl rfl) ?_
    rintro _ _ w ⟨rfl, rfl⟩ H
    refine s_val rfl rfl (r_as rfl rfl) ?_
    refine s_nil ?_
    refine q_then ?_
    refine c_env [(0, .slice A1 a.length c2), (1, .slice A6 b.length c7), (2, .slice A11 c.length c12), (6, .bool true)] ⟨rfl, rfl, rfl, rfl, trivial⟩ ?_
    refine c_ret ?_
    refine q_thenR ?_
    refine q_ret1 rfl rfl ?_
    exact fin ⟨rfl, rfl⟩ H
  · skip
    refine s_val rfl rfl (r_mv rfl rfl) ?_
    refine s_val rfl rfl (r_lenL rfl un22 rfl) ?_
    refine s_val rfl rfl (r_gt rfl rfl rfl) ?_
    refine s_val rfl rfl (r_pickF rfl rfl rfl) ?_
    refine s_val rfl rfl (r_mv rfl rfl) ?_
    refine s_dec (d := 16) (p := (20 : Int) < ((b.length : Nat) : Int)) rfl (fun h17 => ?_) (fun h17 => ?_)
    · skip
      refine s_no rfl rfl ?_
      refine s_no rfl rfl ?_
      refine s_no rfl rfl ?_
      refine s_val rfl rfl (r_pickT rfl rfl rfl) ?_
      refine s_nil ?_
      refine q_then ?_
      refine c_env [(0, .slice A1 a.length c2), (1, .slice A6 b.length c7), (2, .slice A11 c.length c12), (6, .bool false), (20, .bool true)] ⟨rfl, rfl, rfl, rfl, rfl, trivial⟩ ?_
      refine c_yes rfl ?_
      refine c_seq ?_
      refine c_reg ?_
      refine sc (awake20_ok ) H l0 rfl rfl (e_fn kn21 rfl rfl) ?_
      rintro _ _ w ⟨rfl, rfl⟩ H
      refine s_val rfl rfl (r_as rfl rfl) ?_
      refine s_nil ?_
      refine q_then ?_
      refine c_env [(0, .slice A1 a.length c2), (1, .slice A6 b.length c7), (2, .slice A11 c.length c12), (6, .bool true)] ⟨rfl, rfl, rfl, rfl, trivial⟩ ?_
      refine c_ret ?_
      refine q_thenR ?_
      refine q_ret1 rfl rfl ?_
      exact fin ⟨rfl, rfl⟩ H
    · skip
      refine s_val rfl rfl (r_mv rfl rfl) ?_
      refine s_val rfl rfl (r_lenL rfl un22 rfl) ?_
      refine s_val rfl rfl (r_gt rfl rfl rfl) ?_
      refine s_val rfl rfl (r_pickF rfl rfl rfl) ?_
      refine s_nil ?_
      refine q_then ?_
      refine c_env [(0, .slice A1 a.length c2), (1, .slice A6 b.length c7), (2, .slice A11 c.length c12), (6, .bool false), (20, .bool (decide ((20 : Int) < ((c.length : Nat) : Int))))] ⟨rfl, rfl, rfl, rfl, rfl, trivial⟩ ?_
      refine c_dec (p := (20 : Int) < ((c.length : Nat) : Int)) rfl (fun h18 => ?_) (fun h18 => ?_)
      · skip
        refine c_seq ?_
        refine c_reg ?_
        refine sc (awake20_ok ) H l0 rfl rfl (e_fn kn21 rfl rfl) ?_
        rintro _ _ w ⟨rfl, rfl⟩ H
        refine s_val rfl rfl (r_as rfl rfl) ?_
        refine s_nil ?_
        refine q_then ?_
        refine c_env [(0, .slice A1 a.length c2), (1, .slice A6 b.length c7), (2, .slice A11 c.length c12), (6, .bool true)] ⟨rfl, rfl, rfl, rfl, trivial⟩ ?_
        refine c_ret ?_
        refine q_thenR ?_
        refine q_ret1 rfl rfl ?_
        exact fin ⟨rfl, rfl⟩ H
      · skip
        refine c_skip ?_
        refine q_then ?_
        refine c_env [(0, .slice A1 a.length c2), (1, .slice A6 b.length c7), (2, .slice A11 c.length c12), (6, .bool false)] ⟨rfl, rfl, rfl, rfl, trivial⟩ ?_
        refine c_seq ?_
        refine c_reg ?_
        refine s_val rfl rfl (r_mv rfl rfl) ?_
        replace H := H.newnil (kInt .i64)
        refine s_appF (xs := []) (ys := a) rfl rfl rfl sl22 zr3 rfl (by decide) rfl rfl H (by simp only [List.length_append, List.length_cons, List.length_nil]; omega) (fun F hA hR => hR _ (List.mem_of_getElem? (i := 0) rfl)) (fun v19 w H => ?_)
        refine s_val rfl rfl (r_mv rfl rfl) ?_
        refine s_appF (xs := [] ++ a) (ys := b) rfl rfl rfl sl22 zr3 rfl (by decide) rfl rfl H (by simp only [List.length_append, List.length_cons, List.length_nil]; omega) (fun F hA hR => hR _ (List.mem_of_getElem? (i := 1) rfl)) (fun v20 w H => ?_)
        refine s_val rfl rfl (r_as rfl rfl) ?_
        refine s_nil ?_
        refine q_then ?_
        replace H : Hd _ _ _ [osl (kInt .i64) v20 (([] ++ a) ++ b)] [rsl (kInt .i64) (.slice A1 a.length c2) a, rsl (kInt .i64) (.slice A6 b.length c7) b, rsl (kInt .i64) (.slice A11 c.length c12) c] := H
        refine c_env [(0, .slice A1 a.length c2), (1, .slice A6 b.length c7), (2, .slice A11 c.length c12), (6, .bool false), (7, v20)] ⟨rfl, rfl, rfl, rfl, rfl, trivial⟩ ?_
        refine c_seq ?_
        refine c_reg ?_
        refine s_val rfl rfl (r_mv rfl rfl) ?_
        refine s_val rfl rfl (r_mv rfl rfl) ?_
        refine sc (grows_ok (.slice A1 a.length c2) a (.slice A1 a.length c2) a) H (lR 0 rfl (lR 0 rfl l0)) rfl rfl (e_fn kn27 rfl rfl) ?_
        rintro _ _ w ⟨rfl, rfl⟩ H
        refine s_val rfl rfl (r_mv rfl rfl) ?_
        refine s_dec (d := 29) (p := ∀ n ∈ a, n ∈ a) rfl (fun h21 => ?_) (fun h21 => ?_)
        · skip
          refine s_val rfl rfl (r_mv rfl rfl) ?_
          refine sc (grows_ok (.slice none 0 0) [] (.slice A1 a.length c2) a) H (lX (fun F _ _ => rsl_nil _ _ F trivial (by decide)) (lR 0 rfl l0)) rfl rfl (e_fn kn27 rfl rfl) ?_
          rintro _ _ w ⟨rfl, rfl⟩ H
          refine s_val rfl rfl (r_pickT rfl rfl rfl) ?_
          refine s_val rfl rfl (r_mv rfl rfl) ?_
          refine s_dec (d := 33) (p := ∀ n ∈ [], n ∈ a) rfl (fun h22 => ?_) (fun h22 => ?_)
          · skip
            refine s_val rfl rfl (r_mv rfl rfl) ?_
            refine s_val rfl rfl (r_mv rfl rfl) ?_
            refine sc (grows_ok (.slice A1 a.length c2) a v20 (([] ++ a) ++ b)) H (lR 0 rfl (lA 0 rfl own_rd l0)) rfl rfl (e_fn kn27 rfl rfl) ?_
            rintro _ _ w ⟨rfl, rfl⟩ H
            refine s_val rfl rfl (r_pickT rfl rfl rfl) ?_
            refine s_val rfl rfl (r_mv rfl rfl) ?_
            refine s_dec (d := 38) (p := ∀ n ∈ a, n ∈ (([] ++ a) ++ b)) rfl (fun h23 => ?_) (fun h23 => ?_)
            · skip
              refine s_val rfl rfl (r_mv rfl rfl) ?_
              refine s_val rfl rfl (r_mv rfl rfl) ?_
              refine sc (grows_ok (.slice A6 b.length c7) b v20 (([] ++ a) ++ b)) H (lR 1 rfl (lA 0 rfl own_rd l0)) rfl rfl (e_fn kn27 rfl rfl) ?_
              rintro _ _ w ⟨rfl, rfl⟩ H
              refine s_val rfl rfl (r_pickT rfl rfl rfl) ?_
              refine s_val rfl rfl (r_mv rfl rfl) ?_
              refine s_dec (d := 43) (p := ∀ n ∈ b, n ∈ (([] ++ a) ++ b)) rfl (fun h24 => ?_) (fun h24 => ?_)
              · skip
                refine s_val rfl rfl (r_mv rfl rfl) ?_
                refine s_val rfl rfl (r_mv rfl rfl) ?_
                refine sc (grows_ok (.slice A1 a.length c2) a (.slice A6 b.length c7) b) H (lR 0 rfl (lR 1 rfl l0)) rfl rfl (e_fn kn27 rfl rfl) ?_
                rintro _ _ w ⟨rfl, rfl⟩ H
                refine s_val rfl rfl (r_notP rfl rfl) ?_
                refine s_val rfl rfl (r_mv rfl rfl) ?_
                refine s_dec (d := 48) (p := ¬ (∀ n ∈ a, n ∈ b)) rfl (fun h25 => ?_) (fun h25 => ?_)
                · skip
                  refine s_no rfl rfl ?_
                  refine s_no rfl rfl ?_
                  refine s_no rfl rfl ?_
                  refine s_no rfl rfl ?_
                  refine s_val rfl rfl (r_pickT rfl rfl rfl) ?_
                  refine s_val rfl rfl (r_mv rfl rfl) ?_
                  refine s_no rfl rfl ?_
                  refine s_no rfl rfl ?_
                  refine s_no rfl rfl ?_
                  refine s_val rfl rfl (r_pickT rfl rfl rfl) ?_
                  refine s_val rfl rfl (r_pickT rfl rfl rfl) ?_
                  refine s_val rfl rfl (r_mv rfl rfl) ?_
                  refine sc (awake20_ok ) H l0 rfl rfl (e_fn kn21 rfl rfl) ?_
                  rintro _ _ w ⟨rfl, rfl⟩ H
                  refine s_val rfl rfl (r_pickT rfl rfl rfl) ?_
                  refine s_val rfl rfl (r_as rfl rfl) ?_
                  refine s_nil ?_
                  refine q_then ?_
                  refine c_env [(6, .bool true)] ⟨rfl, trivial⟩ ?_
                  refine c_ret ?_
                  refine q_ret1 rfl rfl ?_
                  replace H := H.keep 0
                  exact fin ⟨rfl, rfl⟩ H
                · skip
                  refine s_val rfl rfl (r_mv rfl rfl) ?_
                  refine s_val rfl rfl (r_mv rfl rfl) ?_
                  refine sc (grows_ok (.slice A6 b.length c7) b (.slice A11 c.length c12) c) H (lR 1 rfl (lR 2 rfl l0)) rfl rfl (e_fn kn27 rfl rfl) ?_
                  rintro _ _ w ⟨rfl, rfl⟩ H
                  refine s_val rfl rfl (r_notP rfl rfl) ?_
                  refine s_val rfl rfl (r_pickF rfl rfl rfl) ?_
                  refine s_val rfl rfl (r_mv rfl rfl) ?_
                  refine s_dec (d := 54) (p := ¬ (∀ n ∈ b, n ∈ c)) rfl (fun h26 => ?_) (fun h26 => ?_)
                  · skip
                    refine s_no rfl rfl ?_
                    refine s_no rfl rfl ?_
                    refine s_no rfl rfl ?_
                    refine s_val rfl rfl (r_pickT rfl rfl rfl) ?_
                    refine s_val rfl rfl (r_pickT rfl rfl rfl) ?_
                    refine s_val rfl rfl (r_mv rfl rfl) ?_
                    refine sc (awake20_ok ) H l0 rfl rfl (e_fn kn21 rfl rfl) ?_
                    rintro _ _ w ⟨rfl, rfl⟩ H
                    refine s_val rfl rfl (r_pickT rfl rfl rfl) ?_
                    refine s_val rfl rfl (r_as rfl rfl) ?_
                    refine s_nil ?_
                    refine q_then ?_
                    refine c_env [(6, .bool true)] ⟨rfl, trivial⟩ ?_
                    refine c_ret ?_
                    refine q_ret1 rfl rfl ?_
                    replace H := H.keep 0
                    exact fin ⟨rfl, rfl⟩ H
                  · skip
                    refine s_val rfl rfl (r_mv rfl rfl) ?_
                    refine s_val rfl rfl (r_mv rfl rfl) ?_
                    refine sc (grows_ok (.slice A1 a.length c2) a (.slice A11 c.length c12) c) H (lR 0 rfl (lR 2 rfl l0)) rfl rfl (e_fn kn27 rfl rfl) ?_
                    rintro _ _ w ⟨rfl, rfl⟩ H
                    refine s_val rfl rfl (r_pickF rfl rfl rfl) ?_
                    refine s_val rfl rfl (r_pickT rfl rfl rfl) ?_
                    refine s_val rfl rfl (r_mv rfl rfl) ?_
                    refine s_dec (d := 60) (p := ∀ n ∈ a, n ∈ c) rfl (fun h27 => ?_) (fun h27 => ?_)
                    · skip
                      refine sc (awake20_ok ) H l0 rfl rfl (e_fn kn21 rfl rfl) ?_
                      rintro _ _ w ⟨rfl, rfl⟩ H
                      refine s_val rfl rfl (r_pickT rfl rfl rfl) ?_
                      refine s_val rfl rfl (r_as rfl rfl) ?_
                      refine s_nil ?_
                      refine q_then ?_
                      refine c_env [(6, .bool true)] ⟨rfl, trivial⟩ ?_
                      refine c_ret ?_
                      refine q_ret1 rfl rfl ?_
                      replace H := H.keep 0
                      exact fin ⟨rfl, rfl⟩ H
                    · exact (h27 (fun n hn => Classical.not_not.1 h26 n (Classical.not_not.1 h25 n hn))).elim
              · exact (h24 (by simp +contextual)).elim
            · exact (h23 (by simp +contextual)).elim
          · exact (h22 (by simp)).elim
        · exact (h21 (fun _ h => h)).elim

end Go.Proofs.Ytnaaahpmnhoabaa.X
