/- The calls of a window, and of the reference. -/
import Derived.Test.YtnaaahpmnhoabaaM2
import Derived.Test.YtnaaahpmnhoabaaXWin
set_option linter.unusedVariables false
set_option linter.unusedSimpArgs false
namespace Go.Proofs.Ytnaaahpmnhoabaa.X
open Go
set_option maxHeartbeats 1000000 in
theorem wNew_ok (c : Int) (s : Int) (h : 0 ≤ c ∧ c ≤ 40 ∧ 1 ≤ s ∧ s ≤ 4) :
    Cn Try.prog 32 [.int .i64 c, .int .i64 s] [] [] (fun v Bs => ∃ b, v = .tuple #[.pointer (some ⟨b, 0, none⟩), .int .i64 0] ∧ Bs = [blk b [.int .i64 c, .int .i64 s, .int .i64 0, .int .i64 0] 98]) := by
  intro w0 F0 H
  refine enter (args := [.int .i64 c, .int .i64 s]) Try.func32 rfl rfl (Nat.le_of_ble_eq_true rfl) ?_
  refine c_seq ?_
  refine c_reg ?_
  refine s_val rfl rfl (r_as rfl rfl) ?_
  refine s_val rfl rfl (r_as rfl rfl) ?_
  refine s_nil ?_
  refine q_then ?_
  refine c_env [(0, .int .i64 c), (1, .int .i64 s), (4, .pointer none), (5, .int .i64 0)] ⟨rfl, rfl, rfl, rfl, trivial⟩ ?_
  refine c_seq ?_
  refine c_seq ?_
  refine c_reg ?_
  refine s_val rfl rfl (r_mv rfl rfl) ?_
  refine s_val rfl rfl (r_lt rfl rfl rfl) ?_
  refine s_val rfl rfl (r_mv rfl rfl) ?_
  refine s_dec (d := 8) (p := c < 0) rfl (fun h1 => ?_) (fun h1 => ?_)
  · exact absurd h1 (by omega)
  · skip
    refine s_val rfl rfl (r_mv rfl rfl) ?_
    refine s_val rfl rfl (r_gt rfl rfl rfl) ?_
    refine s_val rfl rfl (r_pickF rfl rfl rfl) ?_
    refine s_val rfl rfl (r_mv rfl rfl) ?_
    refine s_dec (d := 12) (p := (40 : Int) < c) rfl (fun h2 => ?_) (fun h2 => ?_)
    · exact absurd h2 (by omega)
    · skip
      refine s_val rfl rfl (r_mv rfl rfl) ?_
      refine s_val rfl rfl (r_lt rfl rfl rfl) ?_
      refine s_val rfl rfl (r_pickF rfl rfl rfl) ?_
      refine s_val rfl rfl (r_mv rfl rfl) ?_
      refine s_dec (d := 16) (p := s < 1) rfl (fun h3 => ?_) (fun h3 => ?_)
      · exact absurd h3 (by omega)
      · skip
        refine s_val rfl rfl (r_mv rfl rfl) ?_
        refine s_val rfl rfl (r_gt rfl rfl rfl) ?_
        refine s_val rfl rfl (r_pickF rfl rfl rfl) ?_
        refine s_nil ?_
        refine q_then ?_
        refine c_env [(0, .int .i64 c), (1, .int .i64 s), (4, .pointer none), (5, .int .i64 0), (19, .bool (decide ((4 : Int) < s)))] ⟨rfl, rfl, rfl, rfl, rfl, trivial⟩ ?_
        refine c_dec (p := (4 : Int) < s) rfl (fun h4 => ?_) (fun h4 => ?_)
        · exact absurd h4 (by omega)
        · skip
          refine c_skip ?_
          refine q_then ?_
          refine c_env [(0, .int .i64 c), (1, .int .i64 s), (4, .pointer none), (5, .int .i64 0)] ⟨rfl, rfl, rfl, rfl, trivial⟩ ?_
          refine c_seq ?_
          refine c_reg ?_
          refine s_val rfl rfl (r_mv rfl rfl) ?_
          refine s_val rfl rfl (r_mv rfl rfl) ?_
          refine s_val rfl rfl (r_bd (parts := [(0, .tmp 20), (1, .tmp 21)]) (vs := [.int .i64 c, .int .i64 s]) (cs := [.int .i64 c, .int .i64 s, .int .i64 0, .int .i64 0]) rfl bd98 rfl rfl) ?_
          refine s_box rfl rfl rfl rfl H (fun b5 w H => ?_)
          refine s_val rfl rfl (r_as rfl rfl) ?_
          refine s_val rfl rfl (r_as rfl rfl) ?_
          refine s_nil ?_
          refine q_then ?_
          replace H : Hd _ _ _ [blk b5 [.int .i64 c, .int .i64 s, .int .i64 0, .int .i64 0] 98] [] := H
          refine c_env [(4, .pointer (some ⟨b5, 0, none⟩)), (5, .int .i64 0)] ⟨rfl, rfl, trivial⟩ ?_
          refine c_ret ?_
          refine q_ret2 rfl rfl rfl ?_
          exact fin ⟨_, rfl, rfl⟩ H

set_option maxHeartbeats 1000000 in
theorem wNew_no (c : Int) (s : Int) (h : ¬ (0 ≤ c ∧ c ≤ 40 ∧ 1 ≤ s ∧ s ≤ 4)) :
    Cn Try.prog 32 [.int .i64 c, .int .i64 s] [] [] (fun v Bs => v = .tuple #[.pointer none, .int .i64 2] ∧ Bs = []) := by
  intro w0 F0 H
  refine enter (args := [.int .i64 c, .int .i64 s]) Try.func32 rfl rfl (Nat.le_of_ble_eq_true rfl) ?_
  refine c_seq ?_
  refine c_reg ?_
  refine s_val rfl rfl (r_as rfl rfl) ?_
  refine s_val rfl rfl (r_as rfl rfl) ?_
  refine s_nil ?_
  refine q_then ?_
  refine c_env [(0, .int .i64 c), (1, .int .i64 s), (4, .pointer none), (5, .int .i64 0)] ⟨rfl, rfl, rfl, rfl, trivial⟩ ?_
  refine c_seq ?_
  refine c_seq ?_
  refine c_reg ?_
  refine s_val rfl rfl (r_mv rfl rfl) ?_
  refine s_val rfl rfl (r_lt rfl rfl rfl) ?_
  refine s_val rfl rfl (r_mv rfl rfl) ?_
  refine s_dec (d := 8) (p := c < 0) rfl (fun h1 => ?_) (fun h1 => ?_)
  · skip
    refine s_no rfl rfl ?_
    refine s_no rfl rfl ?_
    refine s_val rfl rfl (r_pickT rfl rfl rfl) ?_
    refine s_val rfl rfl (r_mv rfl rfl) ?_
    refine s_no rfl rfl ?_
    refine s_no rfl rfl ?_
    refine s_val rfl rfl (r_pickT rfl rfl rfl) ?_
    refine s_val rfl rfl (r_mv rfl rfl) ?_
    refine s_no rfl rfl ?_
    refine s_no rfl rfl ?_
    refine s_val rfl rfl (r_pickT rfl rfl rfl) ?_
    refine s_nil ?_
    refine q_then ?_
    refine c_env [(0, .int .i64 c), (1, .int .i64 s), (4, .pointer none), (5, .int .i64 0), (19, .bool true)] ⟨rfl, rfl, rfl, rfl, rfl, trivial⟩ ?_
    refine c_yes rfl ?_
    refine c_seq ?_
    refine c_reg ?_
    refine s_val rfl rfl (r_as rfl rfl) ?_
    refine s_val rfl rfl (r_as rfl rfl) ?_
    refine s_nil ?_
    refine q_then ?_
    refine c_env [(0, .int .i64 c), (1, .int .i64 s), (4, .pointer none), (5, .int .i64 2)] ⟨rfl, rfl, rfl, rfl, trivial⟩ ?_
    refine c_ret ?_
    refine q_thenR ?_
    refine q_ret2 rfl rfl rfl ?_
    exact fin ⟨rfl, rfl⟩ H
  · skip
    refine s_val rfl rfl (r_mv rfl rfl) ?_
    refine s_val rfl rfl (r_gt rfl rfl rfl) ?_
    refine s_val rfl rfl (r_pickF rfl rfl rfl) ?_
    refine s_val rfl rfl (r_mv rfl rfl) ?_
    refine s_dec (d := 12) (p := (40 : Int) < c) rfl (fun h2 => ?_) (fun h2 => ?_)
    · skip
      refine s_no rfl rfl ?_
      refine s_no rfl rfl ?_
      refine s_val rfl rfl (r_pickT rfl rfl rfl) ?_
      refine s_val rfl rfl (r_mv rfl rfl) ?_
      refine s_no rfl rfl ?_
      refine s_no rfl rfl ?_
      refine s_val rfl rfl (r_pickT rfl rfl rfl) ?_
      refine s_nil ?_
      refine q_then ?_
      refine c_env [(0, .int .i64 c), (1, .int .i64 s), (4, .pointer none), (5, .int .i64 0), (19, .bool true)] ⟨rfl, rfl, rfl, rfl, rfl, trivial⟩ ?_
      refine c_yes rfl ?_
      refine c_seq ?_
      refine c_reg ?_
      refine s_val rfl rfl (r_as rfl rfl) ?_
      refine s_val rfl rfl (r_as rfl rfl) ?_
      refine s_nil ?_
      refine q_then ?_
      refine c_env [(0, .int .i64 c), (1, .int .i64 s), (4, .pointer none), (5, .int .i64 2)] ⟨rfl, rfl, rfl, rfl, trivial⟩ ?_
      refine c_ret ?_
      refine q_thenR ?_
      refine q_ret2 rfl rfl rfl ?_
      exact fin ⟨rfl, rfl⟩ H
    · skip
      refine s_val rfl rfl (r_mv rfl rfl) ?_
      refine s_val rfl rfl (r_lt rfl rfl rfl) ?_
      refine s_val rfl rfl (r_pickF rfl rfl rfl) ?_
      refine s_val rfl rfl (r_mv rfl rfl) ?_
      refine s_dec (d := 16) (p := s < 1) rfl (fun h3 => ?_) (fun h3 => ?_)
      · skip
        refine s_no rfl rfl ?_
        refine s_no rfl rfl ?_
        refine s_val rfl rfl (r_pickT rfl rfl rfl) ?_
        refine s_nil ?_
        refine q_then ?_
        refine c_env [(0, .int .i64 c), (1, .int .i64 s), (4, .pointer none), (5, .int .i64 0), (19, .bool true)] ⟨rfl, rfl, rfl, rfl, rfl, trivial⟩ ?_
        refine c_yes rfl ?_
        refine c_seq ?_
        refine c_reg ?_
        refine s_val rfl rfl (r_as rfl rfl) ?_
        refine s_val rfl rfl (r_as rfl rfl) ?_
        refine s_nil ?_
        refine q_then ?_
        refine c_env [(0, .int .i64 c), (1, .int .i64 s), (4, .pointer none), (5, .int .i64 2)] ⟨rfl, rfl, rfl, rfl, trivial⟩ ?_
        refine c_ret ?_
        refine q_thenR ?_
        refine q_ret2 rfl rfl rfl ?_
        exact fin ⟨rfl, rfl⟩ H
      · skip
        refine s_val rfl rfl (r_mv rfl rfl) ?_
        refine s_val rfl rfl (r_gt rfl rfl rfl) ?_
        refine s_val rfl rfl (r_pickF rfl rfl rfl) ?_
        refine s_nil ?_
        refine q_then ?_
        refine c_env [(0, .int .i64 c), (1, .int .i64 s), (4, .pointer none), (5, .int .i64 0), (19, .bool (decide ((4 : Int) < s)))] ⟨rfl, rfl, rfl, rfl, rfl, trivial⟩ ?_
        refine c_dec (p := (4 : Int) < s) rfl (fun h4 => ?_) (fun h4 => ?_)
        · skip
          refine c_seq ?_
          refine c_reg ?_
          refine s_val rfl rfl (r_as rfl rfl) ?_
          refine s_val rfl rfl (r_as rfl rfl) ?_
          refine s_nil ?_
          refine q_then ?_
          refine c_env [(0, .int .i64 c), (1, .int .i64 s), (4, .pointer none), (5, .int .i64 2)] ⟨rfl, rfl, rfl, rfl, trivial⟩ ?_
          refine c_ret ?_
          refine q_thenR ?_
          refine q_ret2 rfl rfl rfl ?_
          exact fin ⟨rfl, rfl⟩ H
        · skip
          refine c_skip ?_
          refine q_then ?_
          refine c_env [(0, .int .i64 c), (1, .int .i64 s), (4, .pointer none), (5, .int .i64 0)] ⟨rfl, rfl, rfl, rfl, trivial⟩ ?_
          refine c_seq ?_
          refine c_reg ?_
          refine s_val rfl rfl (r_mv rfl rfl) ?_
          refine s_val rfl rfl (r_mv rfl rfl) ?_
          refine s_val rfl rfl (r_bd (parts := [(0, .tmp 20), (1, .tmp 21)]) (vs := [.int .i64 c, .int .i64 s]) (cs := [.int .i64 c, .int .i64 s, .int .i64 0, .int .i64 0]) rfl bd98 rfl rfl) ?_
          refine s_box rfl rfl rfl rfl H (fun b5 w H => ?_)
          refine s_val rfl rfl (r_as rfl rfl) ?_
          refine s_val rfl rfl (r_as rfl rfl) ?_
          refine s_nil ?_
          refine q_then ?_
          replace H : Hd _ _ _ [blk b5 [.int .i64 c, .int .i64 s, .int .i64 0, .int .i64 0] 98] [] := H
          refine c_env [(4, .pointer (some ⟨b5, 0, none⟩)), (5, .int .i64 0)] ⟨rfl, rfl, trivial⟩ ?_
          refine c_ret ?_
          refine q_ret2 rfl rfl rfl ?_
          exact absurd (by omega) h

set_option maxHeartbeats 1000000 in
theorem wAck_ok (b : Nat) (c : Int) (s : Int) (e : Int) (x : Int) (ep : Int) (n : Int) :
    Cn Try.prog 35 [.pointer (some ⟨b, 0, none⟩), .int .i64 ep, .int .i64 n] [blk b [.int .i64 c, .int .i64 s, .int .i64 e, .int .i64 x] 98] [] (fun v Bs => v = .bool (ackB c e x ep n) ∧ Bs = [blk b [.int .i64 c, .int .i64 s, .int .i64 (ackE c e x ep n), .int .i64 (ackX c e x ep n)] 98]) := by
  intro w0 F0 H
  refine enter (args := [.pointer (some ⟨b, 0, none⟩), .int .i64 ep, .int .i64 n]) Try.func35 rfl rfl (Nat.le_of_ble_eq_true rfl) ?_
  refine c_seq ?_
  refine c_reg ?_
  refine s_val rfl rfl (r_as rfl rfl) ?_
  refine s_nil ?_
  refine q_then ?_
  refine c_env [(0, .pointer (some ⟨b, 0, none⟩)), (1, .int .i64 ep), (2, .int .i64 n), (6, .bool false)] ⟨rfl, rfl, rfl, rfl, trivial⟩ ?_
  refine c_seq ?_
  refine c_seq ?_
  refine c_reg ?_
  refine s_val rfl rfl (r_mv rfl rfl) ?_
  refine s_val rfl rfl (r_peq rfl un32 rfl rfl) ?_
  refine s_val rfl rfl (r_mv rfl rfl) ?_
  refine s_val rfl rfl (r_mv rfl rfl) ?_
  refine s_val rfl rfl (r_mv rfl rfl) ?_
  refine s_val rfl rfl (r_nilP rfl rfl) ?_
  refine s_val rfl rfl (r_fa rfl fo98_2 rfl) ?_
  refine s_val rfl rfl (r_ld rfl ty3 rfl (H.cellI 0 rfl rfl)) ?_
  refine s_val rfl rfl (r_max (z := max e 1) rfl rfl rfl rfl) ?_
  refine s_val rfl rfl (r_lt rfl rfl rfl) ?_
  refine s_val rfl rfl (r_pickF rfl rfl rfl) ?_
  refine s_nil ?_
  refine q_then ?_
  refine c_env [(0, .pointer (some ⟨b, 0, none⟩)), (1, .int .i64 ep), (2, .int .i64 n), (6, .bool false), (17, .bool (decide (ep < (max e 1))))] ⟨rfl, rfl, rfl, rfl, rfl, trivial⟩ ?_
  refine c_dec (p := ep < (max e 1)) rfl (fun h1 => ?_) (fun h1 => ?_)
  · skip
    refine c_seq ?_
    refine c_reg ?_
    refine s_val rfl rfl (r_as rfl rfl) ?_
    refine s_nil ?_
    refine q_then ?_
    refine c_env [(0, .pointer (some ⟨b, 0, none⟩)), (1, .int .i64 ep), (2, .int .i64 n), (6, .bool false)] ⟨rfl, rfl, rfl, rfl, trivial⟩ ?_
    refine c_ret ?_
    refine q_thenR ?_
    refine q_ret1 rfl rfl ?_
    obtain ⟨a1, a2, a3⟩ := ack_no (c := c) (e := e) (x := x) (ep := ep) (n := n) (by unfold ackN; omega)
    exact fin ⟨by rw [a1], by rw [a2, a3]; first | done | rfl⟩ H
  · skip
    refine c_skip ?_
    refine q_then ?_
    refine c_env [(0, .pointer (some ⟨b, 0, none⟩)), (1, .int .i64 ep), (2, .int .i64 n), (6, .bool false)] ⟨rfl, rfl, rfl, rfl, trivial⟩ ?_
    refine c_seq ?_
    refine c_reg ?_
    refine s_val rfl rfl (r_mv rfl rfl) ?_
    refine s_val rfl rfl (r_max (z := max n 0) rfl rfl rfl rfl) ?_
    refine s_val rfl rfl (r_mv rfl rfl) ?_
    refine s_val rfl rfl (r_nilP rfl rfl) ?_
    refine s_val rfl rfl (r_fa rfl fo98_0 rfl) ?_
    refine s_val rfl rfl (r_ld rfl ty3 rfl (H.cellI 0 rfl rfl)) ?_
    refine s_val rfl rfl (r_min (z := min (max n 0) c) rfl rfl rfl rfl) ?_
    refine s_val rfl rfl (r_as rfl rfl) ?_
    refine s_nil ?_
    refine q_then ?_
    refine c_env [(0, .pointer (some ⟨b, 0, none⟩)), (1, .int .i64 ep), (2, .int .i64 (min (max n 0) c)), (6, .bool false)] ⟨rfl, rfl, rfl, rfl, trivial⟩ ?_
    refine c_seq ?_
    refine c_seq ?_
    refine c_reg ?_
    refine s_val rfl rfl (r_mv rfl rfl) ?_
    refine s_val rfl rfl (r_mv rfl rfl) ?_
    refine s_val rfl rfl (r_nilP rfl rfl) ?_
    refine s_val rfl rfl (r_fa rfl fo98_2 rfl) ?_
    refine s_val rfl rfl (r_ld rfl ty3 rfl (H.cellI 0 rfl rfl)) ?_
    refine s_val rfl rfl (r_eq rfl rfl rfl) ?_
    refine s_val rfl rfl (r_mv rfl rfl) ?_
    refine s_dec (d := 31) (p := ep = e) rfl (fun h2 => ?_) (fun h2 => ?_)
    · skip
      refine s_val rfl rfl (r_mv rfl rfl) ?_
      refine s_val rfl rfl (r_mv rfl rfl) ?_
      refine s_val rfl rfl (r_nilP rfl rfl) ?_
      refine s_val rfl rfl (r_fa rfl fo98_3 rfl) ?_
      refine s_val rfl rfl (r_ld rfl ty3 rfl (H.cellI 0 rfl rfl)) ?_
      refine s_val rfl rfl (r_le rfl rfl rfl) ?_
      refine s_val rfl rfl (r_pickT rfl rfl rfl) ?_
      refine s_nil ?_
      refine q_then ?_
      refine c_env [(0, .pointer (some ⟨b, 0, none⟩)), (1, .int .i64 ep), (2, .int .i64 (min (max n 0) c)), (6, .bool false), (38, .bool (decide ((min (max n 0) c) ≤ x)))] ⟨rfl, rfl, rfl, rfl, rfl, trivial⟩ ?_
      refine c_dec (p := (min (max n 0) c) ≤ x) rfl (fun h3 => ?_) (fun h3 => ?_)
      · skip
        refine c_seq ?_
        refine c_reg ?_
        refine s_val rfl rfl (r_as rfl rfl) ?_
        refine s_nil ?_
        refine q_then ?_
        refine c_env [(0, .pointer (some ⟨b, 0, none⟩)), (1, .int .i64 ep), (2, .int .i64 (min (max n 0) c)), (6, .bool false)] ⟨rfl, rfl, rfl, rfl, trivial⟩ ?_
        refine c_ret ?_
        refine q_thenR ?_
        refine q_ret1 rfl rfl ?_
        obtain ⟨a1, a2, a3⟩ := ack_no (c := c) (e := e) (x := x) (ep := ep) (n := n) (by unfold ackN; omega)
        exact fin ⟨by rw [a1], by rw [a2, a3]; first | done | rfl⟩ H
      · skip
        refine c_skip ?_
        refine q_then ?_
        refine c_env [(0, .pointer (some ⟨b, 0, none⟩)), (1, .int .i64 ep), (2, .int .i64 (min (max n 0) c)), (6, .bool false)] ⟨rfl, rfl, rfl, rfl, trivial⟩ ?_
        refine c_seq ?_
        refine c_reg ?_
        refine s_val rfl rfl (r_mv rfl rfl) ?_
        refine s_val rfl rfl (r_mv rfl rfl) ?_
        refine s_val rfl rfl (r_mv rfl rfl) ?_
        refine s_val rfl rfl (r_mv rfl rfl) ?_
        refine s_val rfl rfl (r_nilP rfl rfl) ?_
        refine s_val rfl rfl (r_fa rfl fo98_2 rfl) ?_
        refine s_st rfl rfl rfl ty3 rfl rfl H rfl (Nat.le_of_ble_eq_true rfl) (fun u hu => by simp [Value.cells] at hu; subst hu; rfl) (fun w H => ?_)
        replace H : Hd _ _ _ [blk b [.int .i64 c, .int .i64 s, .int .i64 ep, .int .i64 x] 98] [] := H
        refine s_val rfl rfl (r_nilP rfl rfl) ?_
        refine s_val rfl rfl (r_fa rfl fo98_3 rfl) ?_
        refine s_st rfl rfl rfl ty3 rfl rfl H rfl (Nat.le_of_ble_eq_true rfl) (fun u hu => by simp [Value.cells] at hu; subst hu; rfl) (fun w H => ?_)
        replace H : Hd _ _ _ [blk b [.int .i64 c, .int .i64 s, .int .i64 ep, .int .i64 (min (max n 0) c)] 98] [] := H
        refine s_nil ?_
        refine q_then ?_
        refine c_env [(6, .bool false)] ⟨rfl, trivial⟩ ?_
        refine c_seq ?_
        refine c_reg ?_
        refine s_val rfl rfl (r_as rfl rfl) ?_
        refine s_nil ?_
        refine q_then ?_
        refine c_env [(6, .bool true)] ⟨rfl, trivial⟩ ?_
        refine c_ret ?_
        refine q_ret1 rfl rfl ?_
        obtain ⟨a1, a2, a3⟩ := ack_yes (c := c) (e := e) (x := x) (ep := ep) (n := n) (by unfold ackN; omega)
        exact fin ⟨by rw [a1], by rw [a2, a3]; first | done | rfl⟩ H
    · skip
      refine s_no rfl rfl ?_
      refine s_no rfl rfl ?_
      refine s_no rfl rfl ?_
      refine s_no rfl rfl ?_
      refine s_no rfl rfl ?_
      refine s_no rfl rfl ?_
      refine s_val rfl rfl (r_pickF rfl rfl rfl) ?_
      refine s_nil ?_
      refine q_then ?_
      refine c_env [(0, .pointer (some ⟨b, 0, none⟩)), (1, .int .i64 ep), (2, .int .i64 (min (max n 0) c)), (6, .bool false), (38, .bool false)] ⟨rfl, rfl, rfl, rfl, rfl, trivial⟩ ?_
      refine c_no rfl ?_
      refine c_skip ?_
      refine q_then ?_
      refine c_env [(0, .pointer (some ⟨b, 0, none⟩)), (1, .int .i64 ep), (2, .int .i64 (min (max n 0) c)), (6, .bool false)] ⟨rfl, rfl, rfl, rfl, trivial⟩ ?_
      refine c_seq ?_
      refine c_reg ?_
      refine s_val rfl rfl (r_mv rfl rfl) ?_
      refine s_val rfl rfl (r_mv rfl rfl) ?_
      refine s_val rfl rfl (r_mv rfl rfl) ?_
      refine s_val rfl rfl (r_mv rfl rfl) ?_
      refine s_val rfl rfl (r_nilP rfl rfl) ?_
      refine s_val rfl rfl (r_fa rfl fo98_2 rfl) ?_
      refine s_st rfl rfl rfl ty3 rfl rfl H rfl (Nat.le_of_ble_eq_true rfl) (fun u hu => by simp [Value.cells] at hu; subst hu; rfl) (fun w H => ?_)
      replace H : Hd _ _ _ [blk b [.int .i64 c, .int .i64 s, .int .i64 ep, .int .i64 x] 98] [] := H
      refine s_val rfl rfl (r_nilP rfl rfl) ?_
      refine s_val rfl rfl (r_fa rfl fo98_3 rfl) ?_
      refine s_st rfl rfl rfl ty3 rfl rfl H rfl (Nat.le_of_ble_eq_true rfl) (fun u hu => by simp [Value.cells] at hu; subst hu; rfl) (fun w H => ?_)
      replace H : Hd _ _ _ [blk b [.int .i64 c, .int .i64 s, .int .i64 ep, .int .i64 (min (max n 0) c)] 98] [] := H
      refine s_nil ?_
      refine q_then ?_
      refine c_env [(6, .bool false)] ⟨rfl, trivial⟩ ?_
      refine c_seq ?_
      refine c_reg ?_
      refine s_val rfl rfl (r_as rfl rfl) ?_
      refine s_nil ?_
      refine q_then ?_
      refine c_env [(6, .bool true)] ⟨rfl, trivial⟩ ?_
      refine c_ret ?_
      refine q_ret1 rfl rfl ?_
      obtain ⟨a1, a2, a3⟩ := ack_yes (c := c) (e := e) (x := x) (ep := ep) (n := n) (by unfold ackN; omega)
      exact fin ⟨by rw [a1], by rw [a2, a3]; first | done | rfl⟩ H

set_option maxHeartbeats 1000000 in
theorem wOpen_ok (b : Nat) (c : Int) (s : Int) (e : Int) (x : Int) (h : 0 ≤ c ∧ c ≤ 40 ∧ 1 ≤ s ∧ s ≤ 4) (hx : 0 ≤ x ∧ x ≤ c) :
    Cn Try.prog 37 [.pointer (some ⟨b, 0, none⟩)] [] [blk b [.int .i64 c, .int .i64 s, .int .i64 e, .int .i64 x] 98] (fun v Bs => Bs = [osl (kInt .i64) v (openL c s x)]) := by
  intro w0 F0 H
  refine enter (args := [.pointer (some ⟨b, 0, none⟩)]) Try.func37 rfl rfl (Nat.le_of_ble_eq_true rfl) ?_
  refine c_seq ?_
  refine c_reg ?_
  refine s_val rfl rfl (r_as rfl rfl) ?_
  refine s_nil ?_
  refine q_then ?_
  refine c_env [(0, .pointer (some ⟨b, 0, none⟩)), (2, .slice none 0 0)] ⟨rfl, rfl, trivial⟩ ?_
  refine c_seq ?_
  refine c_seq ?_
  refine c_reg ?_
  refine s_val rfl rfl (r_mv rfl rfl) ?_
  refine s_val rfl rfl (r_peq rfl un32 rfl rfl) ?_
  refine s_nil ?_
  refine q_then ?_
  refine c_env [(0, .pointer (some ⟨b, 0, none⟩)), (2, .slice none 0 0), (6, .bool false)] ⟨rfl, rfl, rfl, trivial⟩ ?_
  refine c_no rfl ?_
  refine c_skip ?_
  refine q_then ?_
  refine c_env [(0, .pointer (some ⟨b, 0, none⟩)), (2, .slice none 0 0)] ⟨rfl, rfl, trivial⟩ ?_
  refine c_seq ?_
  refine c_reg ?_
  refine s_val rfl rfl (r_as rfl rfl) ?_
  refine s_nil ?_
  refine q_then ?_
  refine c_env [(0, .pointer (some ⟨b, 0, none⟩)), (2, .slice none 0 0), (3, .slice none 0 0)] ⟨rfl, rfl, rfl, trivial⟩ ?_
  refine c_seq ?_
  refine c_seq ?_
  refine c_draw mo (by kernel_rfl) H ?_
  refine u_val rfl rfl (fun w H => r_mv rfl rfl) ?_
  refine u_val rfl rfl (fun w H => r_nilP rfl rfl) ?_
  refine u_val rfl rfl (fun w H => r_fa rfl fo98_1 rfl) ?_
  refine u_val rfl rfl (fun w H => r_ld rfl ty3 rfl (H.cellRI 0 rfl rfl)) ?_
  refine u_val rfl rfl (fun w H => r_mv rfl rfl) ?_
  refine u_val rfl rfl (fun w H => r_nilP rfl rfl) ?_
  refine u_val rfl rfl (fun w H => r_fa rfl fo98_0 rfl) ?_
  refine u_val rfl rfl (fun w H => r_ld rfl ty3 rfl (H.cellRI 0 rfl rfl)) ?_
  refine u_val rfl rfl (fun w H => r_mv rfl rfl) ?_
  refine u_val rfl rfl (fun w H => r_nilP rfl rfl) ?_
  refine u_val rfl rfl (fun w H => r_fa rfl fo98_3 rfl) ?_
  refine u_val rfl rfl (fun w H => r_ld rfl ty3 rfl (H.cellRI 0 rfl rfl)) ?_
  refine u_val rfl rfl (fun w H => r_sub (z := c - x) rfl rfl rfl (w64 (by omega) (by omega))) ?_
  refine u_val rfl rfl (fun w H => r_min (z := min s (c - x)) rfl rfl rfl rfl) ?_
  refine u_val rfl rfl (fun w H => r_mv rfl rfl) ?_
  refine u_end (fun w H => ?_)
  refine q_then ?_
  refine c_env [(0, .pointer (some ⟨b, 0, none⟩)), (2, .slice none 0 0), (3, .slice none 0 0), (20, .int .i64 (min s (c - x))), (21, .int .i64 0)] ⟨rfl, rfl, rfl, rfl, rfl, trivial⟩ ?_
  refine c_block ?_
  replace H := H.newnil (kInt .i64)
  refine c_loop (σ := Nat × Value) (fun (k, l) => [(0, .pointer (some ⟨b, 0, none⟩)), (2, .slice none 0 0), (3, l), (20, .int .i64 (min s (c - x))), (21, .int .i64 ((k : Nat) : Int))]) (fun (k, l) w => (Hd w0 F0 w [osl (kInt .i64) l (upL x k)] [blk b [.int .i64 c, .int .i64 s, .int .i64 e, .int .i64 x] 98]) ∧ (k ≤ (min s (c - x)).toNat)) (fun (k, l) => (min s (c - x)).toNat - k) (0, .slice none 0 0) ⟨rfl, rfl, rfl, rfl, rfl, trivial⟩ ⟨H, by omega⟩ ?_
  rintro ⟨k, l⟩ w ⟨H, hk⟩
  refine c_seq ?_
  refine c_reg ?_
  refine s_val rfl rfl (r_lt rfl rfl rfl) ?_
  refine s_nil ?_
  refine q_then ?_
  refine c_env [(0, .pointer (some ⟨b, 0, none⟩)), (2, .slice none 0 0), (3, l), (20, .int .i64 (min s (c - x))), (21, .int .i64 ((k : Nat) : Int)), (22, .bool (decide (((k : Nat) : Int) < (min s (c - x)))))] ⟨rfl, rfl, rfl, rfl, rfl, rfl, trivial⟩ ?_
  refine c_seq ?_
  refine c_dec (p := ((k : Nat) : Int) < (min s (c - x))) rfl (fun h1 => ?_) (fun h1 => ?_)
  · skip
    refine c_skip ?_
    refine q_then ?_
    refine c_env [(0, .pointer (some ⟨b, 0, none⟩)), (2, .slice none 0 0), (3, l), (20, .int .i64 (min s (c - x))), (21, .int .i64 ((k : Nat) : Int))] ⟨rfl, rfl, rfl, rfl, rfl, trivial⟩ ?_
    refine c_seq ?_
    refine c_block ?_
    refine c_seq ?_
    refine c_reg ?_
    refine s_val rfl rfl (r_mv rfl rfl) ?_
    refine s_val rfl rfl (r_as rfl rfl) ?_
    refine s_nil ?_
    refine q_then ?_
    refine c_env [(0, .pointer (some ⟨b, 0, none⟩)), (2, .slice none 0 0), (3, l), (4, .int .i64 ((k : Nat) : Int)), (20, .int .i64 (min s (c - x))), (21, .int .i64 ((k : Nat) : Int))] ⟨rfl, rfl, rfl, rfl, rfl, rfl, trivial⟩ ?_
    refine c_reg ?_
    refine s_val rfl rfl (r_mv rfl rfl) ?_
    refine s_val rfl rfl (r_mv rfl rfl) ?_
    refine s_val rfl rfl (r_nilP rfl rfl) ?_
    refine s_val rfl rfl (r_fa rfl fo98_3 rfl) ?_
    refine s_val rfl rfl (r_ld rfl ty3 rfl (H.cellRI 0 rfl rfl)) ?_
    refine s_val rfl rfl (r_mv rfl rfl) ?_
    refine s_val rfl rfl (r_add (z := x + ((k : Nat) : Int)) rfl rfl rfl (w64 (by omega) (by omega))) ?_
    refine s_bsl (parts := [(0, .tmp 30)]) (vs := [.int .i64 (x + ((k : Nat) : Int))]) (cs := [.int .i64 (x + ((k : Nat) : Int))]) rfl rfl rfl sl22 zr3 rfl (by decide) (by decide) rfl rfl H (fun b2 w H => ?_)
    replace H := H.pick 1 rfl
    refine s_appF (xs := upL x k) (ys := [x + ((k : Nat) : Int)]) rfl rfl rfl sl22 zr3 rfl (by decide) rfl rfl H (by simp only [upL_len, List.length_cons, List.length_nil]; omega) (fun F hA hR => blk_rsl (hA _ (List.mem_of_getElem? (i := 0) rfl)) rfl (by decide) (RepsR.flat_eq.2 rfl)) (fun v3 w H => ?_)
    refine s_val rfl rfl (r_as rfl rfl) ?_
    refine s_nil ?_
    refine q_blockN ?_
    refine q_then ?_
    replace H : Hd _ _ _ [osl (kInt .i64) v3 ((upL x k) ++ [x + ((k : Nat) : Int)]), blk b2 [.int .i64 (x + ((k : Nat) : Int))] 3] [blk b [.int .i64 c, .int .i64 s, .int .i64 e, .int .i64 x] 98] := H
    refine c_env [(0, .pointer (some ⟨b, 0, none⟩)), (2, .slice none 0 0), (3, v3), (20, .int .i64 (min s (c - x))), (21, .int .i64 ((k : Nat) : Int))] ⟨rfl, rfl, rfl, rfl, rfl, trivial⟩ ?_
    refine c_reg ?_
    refine s_val rfl rfl (r_add (z := ((k + 1 : Nat) : Int)) rfl rfl rfl (by rw [w64 (by omega) (by omega)]; omega)) ?_
    refine s_val rfl rfl (r_mv rfl rfl) ?_
    refine s_nil ?_
    rw [← upL_succ] at H
    replace H := H.keep 1
    exact q_round (s := (k, undef)) (k + 1, v3) ⟨rfl, rfl, rfl, rfl, rfl, trivial⟩ ⟨H, by omega⟩ (by (try dsimp only); omega)
  · skip
    refine c_exit ?_
    refine q_thenE ?_
    refine q_thenE ?_
    refine q_blockE ?_
    refine q_then ?_
    refine c_env [(2, .slice none 0 0), (3, l)] ⟨rfl, rfl, trivial⟩ ?_
    refine c_seq ?_
    refine c_reg ?_
    refine s_val rfl rfl (r_mv rfl rfl) ?_
    refine s_val rfl rfl (r_as rfl rfl) ?_
    refine s_nil ?_
    refine q_then ?_
    refine c_env [(2, l)] ⟨rfl, trivial⟩ ?_
    refine c_ret ?_
    refine q_ret1 rfl rfl ?_
    obtain rfl : k = (min s (c - x)).toNat := by omega
    exact fin rfl H

set_option maxHeartbeats 1000000 in
theorem wDone_ok (b : Nat) (c : Int) (s : Int) (e : Int) (x : Int) :
    Cn Try.prog 42 [.pointer (some ⟨b, 0, none⟩)] [] [blk b [.int .i64 c, .int .i64 s, .int .i64 e, .int .i64 x] 98] (fun v Bs => v = .bool (decide (x = c)) ∧ Bs = []) := by
  intro w0 F0 H
  refine enter (args := [.pointer (some ⟨b, 0, none⟩)]) Try.func42 rfl rfl (Nat.le_of_ble_eq_true rfl) ?_
  refine c_seq ?_
  refine c_reg ?_
  refine s_val rfl rfl (r_as rfl rfl) ?_
  refine s_nil ?_
  refine q_then ?_
  refine c_env [(0, .pointer (some ⟨b, 0, none⟩)), (2, .bool false)] ⟨rfl, rfl, trivial⟩ ?_
  refine c_seq ?_
  refine c_draw mo (by kernel_rfl) H ?_
  refine u_val rfl rfl (fun w H => r_mv rfl rfl) ?_
  refine u_val rfl rfl (fun w H => r_pne rfl un32 rfl rfl) ?_
  refine u_val rfl rfl (fun w H => r_mv rfl rfl) ?_
  refine u_val rfl rfl (fun w H => r_mv rfl rfl) ?_
  refine u_val rfl rfl (fun w H => r_nilP rfl rfl) ?_
  refine u_val rfl rfl (fun w H => r_fa rfl fo98_3 rfl) ?_
  refine u_val rfl rfl (fun w H => r_ld rfl ty3 rfl (H.cellRI 0 rfl rfl)) ?_
  refine u_val rfl rfl (fun w H => r_mv rfl rfl) ?_
  refine u_val rfl rfl (fun w H => r_nilP rfl rfl) ?_
  refine u_val rfl rfl (fun w H => r_fa rfl fo98_0 rfl) ?_
  refine u_val rfl rfl (fun w H => r_ld rfl ty3 rfl (H.cellRI 0 rfl rfl)) ?_
  refine u_val rfl rfl (fun w H => r_eq rfl rfl rfl) ?_
  refine u_val rfl rfl (fun w H => r_pickT rfl rfl rfl) ?_
  refine u_val rfl rfl (fun w H => r_as rfl rfl) ?_
  refine u_end (fun w H => ?_)
  refine q_then ?_
  refine c_env [(2, .bool (decide (x = c)))] ⟨rfl, trivial⟩ ?_
  refine c_ret ?_
  refine q_ret1 rfl rfl ?_
  exact fin ⟨rfl, rfl⟩ H

set_option maxHeartbeats 1000000 in
theorem wNext_ok (b : Nat) (c : Int) (s : Int) (e : Int) (x : Int) :
    Cn Try.prog 40 [.pointer (some ⟨b, 0, none⟩)] [] [blk b [.int .i64 c, .int .i64 s, .int .i64 e, .int .i64 x] 98] (fun v Bs => v = .int .i64 x ∧ Bs = []) := by
  intro w0 F0 H
  refine enter (args := [.pointer (some ⟨b, 0, none⟩)]) Try.func40 rfl rfl (Nat.le_of_ble_eq_true rfl) ?_
  refine c_seq ?_
  refine c_reg ?_
  refine s_val rfl rfl (r_as rfl rfl) ?_
  refine s_nil ?_
  refine q_then ?_
  refine c_env [(0, .pointer (some ⟨b, 0, none⟩)), (2, .int .i64 0)] ⟨rfl, rfl, trivial⟩ ?_
  refine c_seq ?_
  refine c_seq ?_
  refine c_reg ?_
  refine s_val rfl rfl (r_mv rfl rfl) ?_
  refine s_val rfl rfl (r_peq rfl un32 rfl rfl) ?_
  refine s_nil ?_
  refine q_then ?_
  refine c_env [(0, .pointer (some ⟨b, 0, none⟩)), (2, .int .i64 0), (4, .bool false)] ⟨rfl, rfl, rfl, trivial⟩ ?_
  refine c_no rfl ?_
  refine c_skip ?_
  refine q_then ?_
  refine c_env [(0, .pointer (some ⟨b, 0, none⟩)), (2, .int .i64 0)] ⟨rfl, rfl, trivial⟩ ?_
  refine c_seq ?_
  refine c_reg ?_
  refine s_val rfl rfl (r_mv rfl rfl) ?_
  refine s_val rfl rfl (r_nilP rfl rfl) ?_
  refine s_val rfl rfl (r_fa rfl fo98_3 rfl) ?_
  refine s_val rfl rfl (r_ld rfl ty3 rfl (H.cellRI 0 rfl rfl)) ?_
  refine s_val rfl rfl (r_as rfl rfl) ?_
  refine s_nil ?_
  refine q_then ?_
  refine c_env [(2, .int .i64 x)] ⟨rfl, trivial⟩ ?_
  refine c_ret ?_
  refine q_ret1 rfl rfl ?_
  exact fin ⟨rfl, rfl⟩ H

set_option maxHeartbeats 1000000 in
theorem wEpoch_ok (b : Nat) (c : Int) (s : Int) (e : Int) (x : Int) :
    Cn Try.prog 41 [.pointer (some ⟨b, 0, none⟩)] [] [blk b [.int .i64 c, .int .i64 s, .int .i64 e, .int .i64 x] 98] (fun v Bs => v = .int .i64 e ∧ Bs = []) := by
  intro w0 F0 H
  refine enter (args := [.pointer (some ⟨b, 0, none⟩)]) Try.func41 rfl rfl (Nat.le_of_ble_eq_true rfl) ?_
  refine c_seq ?_
  refine c_reg ?_
  refine s_val rfl rfl (r_as rfl rfl) ?_
  refine s_nil ?_
  refine q_then ?_
  refine c_env [(0, .pointer (some ⟨b, 0, none⟩)), (2, .int .i64 0)] ⟨rfl, rfl, trivial⟩ ?_
  refine c_seq ?_
  refine c_seq ?_
  refine c_reg ?_
  refine s_val rfl rfl (r_mv rfl rfl) ?_
  refine s_val rfl rfl (r_peq rfl un32 rfl rfl) ?_
  refine s_nil ?_
  refine q_then ?_
  refine c_env [(0, .pointer (some ⟨b, 0, none⟩)), (2, .int .i64 0), (4, .bool false)] ⟨rfl, rfl, rfl, trivial⟩ ?_
  refine c_no rfl ?_
  refine c_skip ?_
  refine q_then ?_
  refine c_env [(0, .pointer (some ⟨b, 0, none⟩)), (2, .int .i64 0)] ⟨rfl, rfl, trivial⟩ ?_
  refine c_seq ?_
  refine c_reg ?_
  refine s_val rfl rfl (r_mv rfl rfl) ?_
  refine s_val rfl rfl (r_nilP rfl rfl) ?_
  refine s_val rfl rfl (r_fa rfl fo98_2 rfl) ?_
  refine s_val rfl rfl (r_ld rfl ty3 rfl (H.cellRI 0 rfl rfl)) ?_
  refine s_val rfl rfl (r_as rfl rfl) ?_
  refine s_nil ?_
  refine q_then ?_
  refine c_env [(2, .int .i64 e)] ⟨rfl, trivial⟩ ?_
  refine c_ret ?_
  refine q_ret1 rfl rfl ?_
  exact fin ⟨rfl, rfl⟩ H

set_option maxHeartbeats 1000000 in
theorem wNext_nil  :
    Cn Try.prog 40 [.pointer none] [] [] (fun v Bs => v = .int .i64 0 ∧ Bs = []) := by
  intro w0 F0 H
  refine enter (args := [.pointer none]) Try.func40 rfl rfl (Nat.le_of_ble_eq_true rfl) ?_
  refine c_seq ?_
  refine c_reg ?_
  refine s_val rfl rfl (r_as rfl rfl) ?_
  refine s_nil ?_
  refine q_then ?_
  refine c_env [(0, .pointer none), (2, .int .i64 0)] ⟨rfl, rfl, trivial⟩ ?_
  refine c_seq ?_
  refine c_seq ?_
  refine c_reg ?_
  refine s_val rfl rfl (r_mv rfl rfl) ?_
  refine s_val rfl rfl (r_peq rfl un32 rfl rfl) ?_
  refine s_nil ?_
  refine q_then ?_
  refine c_env [(0, .pointer none), (2, .int .i64 0), (4, .bool true)] ⟨rfl, rfl, rfl, trivial⟩ ?_
  refine c_yes rfl ?_
  refine c_seq ?_
  refine c_reg ?_
  refine s_val rfl rfl (r_as rfl rfl) ?_
  refine s_nil ?_
  refine q_then ?_
  refine c_env [(0, .pointer none), (2, .int .i64 0)] ⟨rfl, rfl, trivial⟩ ?_
  refine c_ret ?_
  refine q_thenR ?_
  refine q_ret1 rfl rfl ?_
  exact fin ⟨rfl, rfl⟩ H

set_option maxHeartbeats 1000000 in
theorem wEpoch_nil  :
    Cn Try.prog 41 [.pointer none] [] [] (fun v Bs => v = .int .i64 0 ∧ Bs = []) := by
  intro w0 F0 H
  refine enter (args := [.pointer none]) Try.func41 rfl rfl (Nat.le_of_ble_eq_true rfl) ?_
  refine c_seq ?_
  refine c_reg ?_
  refine s_val rfl rfl (r_as rfl rfl) ?_
  refine s_nil ?_
  refine q_then ?_
  refine c_env [(0, .pointer none), (2, .int .i64 0)] ⟨rfl, rfl, trivial⟩ ?_
  refine c_seq ?_
  refine c_seq ?_
  refine c_reg ?_
  refine s_val rfl rfl (r_mv rfl rfl) ?_
  refine s_val rfl rfl (r_peq rfl un32 rfl rfl) ?_
  refine s_nil ?_
  refine q_then ?_
  refine c_env [(0, .pointer none), (2, .int .i64 0), (4, .bool true)] ⟨rfl, rfl, rfl, trivial⟩ ?_
  refine c_yes rfl ?_
  refine c_seq ?_
  refine c_reg ?_
  refine s_val rfl rfl (r_as rfl rfl) ?_
  refine s_nil ?_
  refine q_then ?_
  refine c_env [(0, .pointer none), (2, .int .i64 0)] ⟨rfl, rfl, trivial⟩ ?_
  refine c_ret ?_
  refine q_thenR ?_
  refine q_ret1 rfl rfl ?_
  exact fin ⟨rfl, rfl⟩ H

set_option maxHeartbeats 1000000 in
theorem wDone_nil  :
    Cn Try.prog 42 [.pointer none] [] [] (fun v Bs => v = .bool false ∧ Bs = []) := by
  intro w0 F0 H
  refine enter (args := [.pointer none]) Try.func42 rfl rfl (Nat.le_of_ble_eq_true rfl) ?_
  refine c_seq ?_
  refine c_reg ?_
  refine s_val rfl rfl (r_as rfl rfl) ?_
  refine s_nil ?_
  refine q_then ?_
  refine c_env [(0, .pointer none), (2, .bool false)] ⟨rfl, rfl, trivial⟩ ?_
  refine c_seq ?_
  refine c_draw mo (by kernel_rfl) H ?_
  refine u_val rfl rfl (fun w H => r_mv rfl rfl) ?_
  refine u_val rfl rfl (fun w H => r_pne rfl un32 rfl rfl) ?_
  refine u_val rfl rfl (fun w H => r_mv rfl rfl) ?_
  refine u_no rfl rfl ?_
  refine u_no rfl rfl ?_
  refine u_no rfl rfl ?_
  refine u_no rfl rfl ?_
  refine u_no rfl rfl ?_
  refine u_no rfl rfl ?_
  refine u_no rfl rfl ?_
  refine u_no rfl rfl ?_
  refine u_no rfl rfl ?_
  refine u_val rfl rfl (fun w H => r_pickF rfl rfl rfl) ?_
  refine u_val rfl rfl (fun w H => r_as rfl rfl) ?_
  refine u_end (fun w H => ?_)
  refine q_then ?_
  refine c_env [(2, .bool false)] ⟨rfl, trivial⟩ ?_
  refine c_ret ?_
  refine q_ret1 rfl rfl ?_
  exact fin ⟨rfl, rfl⟩ H

set_option maxHeartbeats 1000000 in
theorem wOpen_nil  :
    Cn Try.prog 37 [.pointer none] [] [] (fun v Bs => v = .slice none 0 0 ∧ Bs = []) := by
  intro w0 F0 H
  refine enter (args := [.pointer none]) Try.func37 rfl rfl (Nat.le_of_ble_eq_true rfl) ?_
  refine c_seq ?_
  refine c_reg ?_
  refine s_val rfl rfl (r_as rfl rfl) ?_
  refine s_nil ?_
  refine q_then ?_
  refine c_env [(0, .pointer none), (2, .slice none 0 0)] ⟨rfl, rfl, trivial⟩ ?_
  refine c_seq ?_
  refine c_seq ?_
  refine c_reg ?_
  refine s_val rfl rfl (r_mv rfl rfl) ?_
  refine s_val rfl rfl (r_peq rfl un32 rfl rfl) ?_
  refine s_nil ?_
  refine q_then ?_
  refine c_env [(0, .pointer none), (2, .slice none 0 0), (6, .bool true)] ⟨rfl, rfl, rfl, trivial⟩ ?_
  refine c_yes rfl ?_
  refine c_seq ?_
  refine c_reg ?_
  refine s_val rfl rfl (r_as rfl rfl) ?_
  refine s_nil ?_
  refine q_then ?_
  refine c_env [(0, .pointer none), (2, .slice none 0 0)] ⟨rfl, rfl, trivial⟩ ?_
  refine c_ret ?_
  refine q_thenR ?_
  refine q_ret1 rfl rfl ?_
  exact fin ⟨rfl, rfl⟩ H

set_option maxHeartbeats 1000000 in
theorem wAck_nil (ep : Int) (n : Int) :
    Cn Try.prog 35 [.pointer none, .int .i64 ep, .int .i64 n] [] [] (fun v Bs => v = .bool false ∧ Bs = []) := by
  intro w0 F0 H
  refine enter (args := [.pointer none, .int .i64 ep, .int .i64 n]) Try.func35 rfl rfl (Nat.le_of_ble_eq_true rfl) ?_
  refine c_seq ?_
  refine c_reg ?_
  refine s_val rfl rfl (r_as rfl rfl) ?_
  refine s_nil ?_
  refine q_then ?_
  refine c_env [(0, .pointer none), (1, .int .i64 ep), (2, .int .i64 n), (6, .bool false)] ⟨rfl, rfl, rfl, rfl, trivial⟩ ?_
  refine c_seq ?_
  refine c_seq ?_
  refine c_reg ?_
  refine s_val rfl rfl (r_mv rfl rfl) ?_
  refine s_val rfl rfl (r_peq rfl un32 rfl rfl) ?_
  refine s_val rfl rfl (r_mv rfl rfl) ?_
  refine s_no rfl rfl ?_
  refine s_no rfl rfl ?_
  refine s_no rfl rfl ?_
  refine s_no rfl rfl ?_
  refine s_no rfl rfl ?_
  refine s_no rfl rfl ?_
  refine s_no rfl rfl ?_
  refine s_val rfl rfl (r_pickT rfl rfl rfl) ?_
  refine s_nil ?_
  refine q_then ?_
  refine c_env [(0, .pointer none), (1, .int .i64 ep), (2, .int .i64 n), (6, .bool false), (17, .bool true)] ⟨rfl, rfl, rfl, rfl, rfl, trivial⟩ ?_
  refine c_yes rfl ?_
  refine c_seq ?_
  refine c_reg ?_
  refine s_val rfl rfl (r_as rfl rfl) ?_
  refine s_nil ?_
  refine q_then ?_
  refine c_env [(0, .pointer none), (1, .int .i64 ep), (2, .int .i64 n), (6, .bool false)] ⟨rfl, rfl, rfl, rfl, trivial⟩ ?_
  refine c_ret ?_
  refine q_thenR ?_
  refine q_ret1 rfl rfl ?_
  exact fin ⟨rfl, rfl⟩ H

set_option maxHeartbeats 1000000 in
theorem vNew_ok (c : Int) (s : Int) (h : 0 ≤ c ∧ c ≤ 40 ∧ 1 ≤ s ∧ s ≤ 4) :
    Cn Try.prog 33 [.int .i64 c, .int .i64 s] [] [] (fun v Bs => ∃ b, v = .tuple #[.pointer (some ⟨b, 0, none⟩), .int .i64 0] ∧ Bs = [blk b [.int .i64 c, .int .i64 s, .int .i64 0, .int .i64 0] 46]) := by
  intro w0 F0 H
  refine enter (args := [.int .i64 c, .int .i64 s]) Try.func33 rfl rfl (Nat.le_of_ble_eq_true rfl) ?_
  refine c_seq ?_
  refine c_reg ?_
  refine s_val rfl rfl (r_as rfl rfl) ?_
  refine s_val rfl rfl (r_as rfl rfl) ?_
  refine s_nil ?_
  refine q_then ?_
  refine c_env [(0, .int .i64 c), (1, .int .i64 s), (4, .pointer none), (5, .int .i64 0)] ⟨rfl, rfl, rfl, rfl, trivial⟩ ?_
  refine c_seq ?_
  refine c_seq ?_
  refine c_reg ?_
  refine s_val rfl rfl (r_mv rfl rfl) ?_
  refine s_val rfl rfl (r_lt rfl rfl rfl) ?_
  refine s_val rfl rfl (r_mv rfl rfl) ?_
  refine s_dec (d := 8) (p := c < 0) rfl (fun h1 => ?_) (fun h1 => ?_)
  · exact absurd h1 (by omega)
  · skip
    refine s_val rfl rfl (r_mv rfl rfl) ?_
    refine s_val rfl rfl (r_gt rfl rfl rfl) ?_
    refine s_val rfl rfl (r_pickF rfl rfl rfl) ?_
    refine s_val rfl rfl (r_mv rfl rfl) ?_
    refine s_dec (d := 12) (p := (40 : Int) < c) rfl (fun h2 => ?_) (fun h2 => ?_)
    · exact absurd h2 (by omega)
    · skip
      refine s_val rfl rfl (r_mv rfl rfl) ?_
      refine s_val rfl rfl (r_lt rfl rfl rfl) ?_
      refine s_val rfl rfl (r_pickF rfl rfl rfl) ?_
      refine s_val rfl rfl (r_mv rfl rfl) ?_
      refine s_dec (d := 16) (p := s < 1) rfl (fun h3 => ?_) (fun h3 => ?_)
      · exact absurd h3 (by omega)
      · skip
        refine s_val rfl rfl (r_mv rfl rfl) ?_
        refine s_val rfl rfl (r_gt rfl rfl rfl) ?_
        refine s_val rfl rfl (r_pickF rfl rfl rfl) ?_
        refine s_nil ?_
        refine q_then ?_
        refine c_env [(0, .int .i64 c), (1, .int .i64 s), (4, .pointer none), (5, .int .i64 0), (19, .bool (decide ((4 : Int) < s)))] ⟨rfl, rfl, rfl, rfl, rfl, trivial⟩ ?_
        refine c_dec (p := (4 : Int) < s) rfl (fun h4 => ?_) (fun h4 => ?_)
        · exact absurd h4 (by omega)
        · skip
          refine c_skip ?_
          refine q_then ?_
          refine c_env [(0, .int .i64 c), (1, .int .i64 s), (4, .pointer none), (5, .int .i64 0)] ⟨rfl, rfl, rfl, rfl, trivial⟩ ?_
          refine c_seq ?_
          refine c_reg ?_
          refine s_val rfl rfl (r_mv rfl rfl) ?_
          refine s_val rfl rfl (r_mv rfl rfl) ?_
          refine s_val rfl rfl (r_bd (parts := [(0, .tmp 20), (1, .tmp 21)]) (vs := [.int .i64 c, .int .i64 s]) (cs := [.int .i64 c, .int .i64 s, .int .i64 0, .int .i64 0]) rfl bd46 rfl rfl) ?_
          refine s_box rfl rfl rfl rfl H (fun b5 w H => ?_)
          refine s_val rfl rfl (r_as rfl rfl) ?_
          refine s_val rfl rfl (r_as rfl rfl) ?_
          refine s_nil ?_
          refine q_then ?_
          replace H : Hd _ _ _ [blk b5 [.int .i64 c, .int .i64 s, .int .i64 0, .int .i64 0] 46] [] := H
          refine c_env [(4, .pointer (some ⟨b5, 0, none⟩)), (5, .int .i64 0)] ⟨rfl, rfl, trivial⟩ ?_
          refine c_ret ?_
          refine q_ret2 rfl rfl rfl ?_
          exact fin ⟨_, rfl, rfl⟩ H

set_option maxHeartbeats 1000000 in
theorem vNew_no (c : Int) (s : Int) (h : ¬ (0 ≤ c ∧ c ≤ 40 ∧ 1 ≤ s ∧ s ≤ 4)) :
    Cn Try.prog 33 [.int .i64 c, .int .i64 s] [] [] (fun v Bs => v = .tuple #[.pointer none, .int .i64 2] ∧ Bs = []) := by
  intro w0 F0 H
  refine enter (args := [.int .i64 c, .int .i64 s]) Try.func33 rfl rfl (Nat.le_of_ble_eq_true rfl) ?_
  refine c_seq ?_
  refine c_reg ?_
  refine s_val rfl rfl (r_as rfl rfl) ?_
  refine s_val rfl rfl (r_as rfl rfl) ?_
  refine s_nil ?_
  refine q_then ?_
  refine c_env [(0, .int .i64 c), (1, .int .i64 s), (4, .pointer none), (5, .int .i64 0)] ⟨rfl, rfl, rfl, rfl, trivial⟩ ?_
  refine c_seq ?_
  refine c_seq ?_
  refine c_reg ?_
  refine s_val rfl rfl (r_mv rfl rfl) ?_
  refine s_val rfl rfl (r_lt rfl rfl rfl) ?_
  refine s_val rfl rfl (r_mv rfl rfl) ?_
  refine s_dec (d := 8) (p := c < 0) rfl (fun h1 => ?_) (fun h1 => ?_)
  · skip
    refine s_no rfl rfl ?_
    refine s_no rfl rfl ?_
    refine s_val rfl rfl (r_pickT rfl rfl rfl) ?_
    refine s_val rfl rfl (r_mv rfl rfl) ?_
    refine s_no rfl rfl ?_
    refine s_no rfl rfl ?_
    refine s_val rfl rfl (r_pickT rfl rfl rfl) ?_
    refine s_val rfl rfl (r_mv rfl rfl) ?_
    refine s_no rfl rfl ?_
    refine s_no rfl rfl ?_
    refine s_val rfl rfl (r_pickT rfl rfl rfl) ?_
    refine s_nil ?_
    refine q_then ?_
    refine c_env [(0, .int .i64 c), (1, .int .i64 s), (4, .pointer none), (5, .int .i64 0), (19, .bool true)] ⟨rfl, rfl, rfl, rfl, rfl, trivial⟩ ?_
    refine c_yes rfl ?_
    refine c_seq ?_
    refine c_reg ?_
    refine s_val rfl rfl (r_as rfl rfl) ?_
    refine s_val rfl rfl (r_as rfl rfl) ?_
    refine s_nil ?_
    refine q_then ?_
    refine c_env [(0, .int .i64 c), (1, .int .i64 s), (4, .pointer none), (5, .int .i64 2)] ⟨rfl, rfl, rfl, rfl, trivial⟩ ?_
    refine c_ret ?_
    refine q_thenR ?_
    refine q_ret2 rfl rfl rfl ?_
    exact fin ⟨rfl, rfl⟩ H
  · skip
    refine s_val rfl rfl (r_mv rfl rfl) ?_
    refine s_val rfl rfl (r_gt rfl rfl rfl) ?_
    refine s_val rfl rfl (r_pickF rfl rfl rfl) ?_
    refine s_val rfl rfl (r_mv rfl rfl) ?_
    refine s_dec (d := 12) (p := (40 : Int) < c) rfl (fun h2 => ?_) (fun h2 => ?_)
    · skip
      refine s_no rfl rfl ?_
      refine s_no rfl rfl ?_
      refine s_val rfl rfl (r_pickT rfl rfl rfl) ?_
      refine s_val rfl rfl (r_mv rfl rfl) ?_
      refine s_no rfl rfl ?_
      refine s_no rfl rfl ?_
      refine s_val rfl rfl (r_pickT rfl rfl rfl) ?_
      refine s_nil ?_
      refine q_then ?_
      refine c_env [(0, .int .i64 c), (1, .int .i64 s), (4, .pointer none), (5, .int .i64 0), (19, .bool true)] ⟨rfl, rfl, rfl, rfl, rfl, trivial⟩ ?_
      refine c_yes rfl ?_
      refine c_seq ?_
      refine c_reg ?_
      refine s_val rfl rfl (r_as rfl rfl) ?_
      refine s_val rfl rfl (r_as rfl rfl) ?_
      refine s_nil ?_
      refine q_then ?_
      refine c_env [(0, .int .i64 c), (1, .int .i64 s), (4, .pointer none), (5, .int .i64 2)] ⟨rfl, rfl, rfl, rfl, trivial⟩ ?_
      refine c_ret ?_
      refine q_thenR ?_
      refine q_ret2 rfl rfl rfl ?_
      exact fin ⟨rfl, rfl⟩ H
    · skip
      refine s_val rfl rfl (r_mv rfl rfl) ?_
      refine s_val rfl rfl (r_lt rfl rfl rfl) ?_
      refine s_val rfl rfl (r_pickF rfl rfl rfl) ?_
      refine s_val rfl rfl (r_mv rfl rfl) ?_
      refine s_dec (d := 16) (p := s < 1) rfl (fun h3 => ?_) (fun h3 => ?_)
      · skip
        refine s_no rfl rfl ?_
        refine s_no rfl rfl ?_
        refine s_val rfl rfl (r_pickT rfl rfl rfl) ?_
        refine s_nil ?_
        refine q_then ?_
        refine c_env [(0, .int .i64 c), (1, .int .i64 s), (4, .pointer none), (5, .int .i64 0), (19, .bool true)] ⟨rfl, rfl, rfl, rfl, rfl, trivial⟩ ?_
        refine c_yes rfl ?_
        refine c_seq ?_
        refine c_reg ?_
        refine s_val rfl rfl (r_as rfl rfl) ?_
        refine s_val rfl rfl (r_as rfl rfl) ?_
        refine s_nil ?_
        refine q_then ?_
        refine c_env [(0, .int .i64 c), (1, .int .i64 s), (4, .pointer none), (5, .int .i64 2)] ⟨rfl, rfl, rfl, rfl, trivial⟩ ?_
        refine c_ret ?_
        refine q_thenR ?_
        refine q_ret2 rfl rfl rfl ?_
        exact fin ⟨rfl, rfl⟩ H
      · skip
        refine s_val rfl rfl (r_mv rfl rfl) ?_
        refine s_val rfl rfl (r_gt rfl rfl rfl) ?_
        refine s_val rfl rfl (r_pickF rfl rfl rfl) ?_
        refine s_nil ?_
        refine q_then ?_
        refine c_env [(0, .int .i64 c), (1, .int .i64 s), (4, .pointer none), (5, .int .i64 0), (19, .bool (decide ((4 : Int) < s)))] ⟨rfl, rfl, rfl, rfl, rfl, trivial⟩ ?_
        refine c_dec (p := (4 : Int) < s) rfl (fun h4 => ?_) (fun h4 => ?_)
        · skip
          refine c_seq ?_
          refine c_reg ?_
          refine s_val rfl rfl (r_as rfl rfl) ?_
          refine s_val rfl rfl (r_as rfl rfl) ?_
          refine s_nil ?_
          refine q_then ?_
          refine c_env [(0, .int .i64 c), (1, .int .i64 s), (4, .pointer none), (5, .int .i64 2)] ⟨rfl, rfl, rfl, rfl, trivial⟩ ?_
          refine c_ret ?_
          refine q_thenR ?_
          refine q_ret2 rfl rfl rfl ?_
          exact fin ⟨rfl, rfl⟩ H
        · skip
          refine c_skip ?_
          refine q_then ?_
          refine c_env [(0, .int .i64 c), (1, .int .i64 s), (4, .pointer none), (5, .int .i64 0)] ⟨rfl, rfl, rfl, rfl, trivial⟩ ?_
          refine c_seq ?_
          refine c_reg ?_
          refine s_val rfl rfl (r_mv rfl rfl) ?_
          refine s_val rfl rfl (r_mv rfl rfl) ?_
          refine s_val rfl rfl (r_bd (parts := [(0, .tmp 20), (1, .tmp 21)]) (vs := [.int .i64 c, .int .i64 s]) (cs := [.int .i64 c, .int .i64 s, .int .i64 0, .int .i64 0]) rfl bd46 rfl rfl) ?_
          refine s_box rfl rfl rfl rfl H (fun b5 w H => ?_)
          refine s_val rfl rfl (r_as rfl rfl) ?_
          refine s_val rfl rfl (r_as rfl rfl) ?_
          refine s_nil ?_
          refine q_then ?_
          replace H : Hd _ _ _ [blk b5 [.int .i64 c, .int .i64 s, .int .i64 0, .int .i64 0] 46] [] := H
          refine c_env [(4, .pointer (some ⟨b5, 0, none⟩)), (5, .int .i64 0)] ⟨rfl, rfl, trivial⟩ ?_
          refine c_ret ?_
          refine q_ret2 rfl rfl rfl ?_
          exact absurd (by omega) h

set_option maxHeartbeats 1000000 in
theorem vAck_ok (b : Nat) (c : Int) (s : Int) (e : Int) (x : Int) (ep : Int) (n : Int) :
    Cn Try.prog 36 [.pointer (some ⟨b, 0, none⟩), .int .i64 ep, .int .i64 n] [blk b [.int .i64 c, .int .i64 s, .int .i64 e, .int .i64 x] 46] [] (fun v Bs => v = .bool (ackB c e x ep n) ∧ Bs = [blk b [.int .i64 c, .int .i64 s, .int .i64 (ackE c e x ep n), .int .i64 (ackX c e x ep n)] 46]) := by
  intro w0 F0 H
  refine enter (args := [.pointer (some ⟨b, 0, none⟩), .int .i64 ep, .int .i64 n]) Try.func36 rfl rfl (Nat.le_of_ble_eq_true rfl) ?_
  refine c_seq ?_
  refine c_reg ?_
  refine s_val rfl rfl (r_as rfl rfl) ?_
  refine s_nil ?_
  refine q_then ?_
  refine c_env [(0, .pointer (some ⟨b, 0, none⟩)), (1, .int .i64 ep), (2, .int .i64 n), (6, .bool false)] ⟨rfl, rfl, rfl, rfl, trivial⟩ ?_
  refine c_seq ?_
  refine c_reg ?_
  refine s_val rfl rfl (r_mv rfl rfl) ?_
  refine s_val rfl rfl (r_max (z := max n 0) rfl rfl rfl rfl) ?_
  refine s_val rfl rfl (r_mv rfl rfl) ?_
  refine s_val rfl rfl (r_nilP rfl rfl) ?_
  refine s_val rfl rfl (r_fa rfl fo46_0 rfl) ?_
  refine s_val rfl rfl (r_ld rfl ty3 rfl (H.cellI 0 rfl rfl)) ?_
  refine s_val rfl rfl (r_min (z := min (max n 0) c) rfl rfl rfl rfl) ?_
  refine s_val rfl rfl (r_as rfl rfl) ?_
  refine s_nil ?_
  refine q_then ?_
  refine c_env [(0, .pointer (some ⟨b, 0, none⟩)), (1, .int .i64 ep), (2, .int .i64 (min (max n 0) c)), (6, .bool false)] ⟨rfl, rfl, rfl, rfl, trivial⟩ ?_
  refine c_seq ?_
  refine c_seq ?_
  refine c_reg ?_
  refine s_val rfl rfl (r_mv rfl rfl) ?_
  refine s_val rfl rfl (r_lt rfl rfl rfl) ?_
  refine s_val rfl rfl (r_mv rfl rfl) ?_
  refine s_dec (d := 16) (p := ep < 1) rfl (fun h1 => ?_) (fun h1 => ?_)
  · skip
    refine s_no rfl rfl ?_
    refine s_no rfl rfl ?_
    refine s_no rfl rfl ?_
    refine s_no rfl rfl ?_
    refine s_no rfl rfl ?_
    refine s_no rfl rfl ?_
    refine s_val rfl rfl (r_pickT rfl rfl rfl) ?_
    refine s_nil ?_
    refine q_then ?_
    refine c_env [(0, .pointer (some ⟨b, 0, none⟩)), (1, .int .i64 ep), (2, .int .i64 (min (max n 0) c)), (6, .bool false), (23, .bool true)] ⟨rfl, rfl, rfl, rfl, rfl, trivial⟩ ?_
    refine c_yes rfl ?_
    refine c_seq ?_
    refine c_reg ?_
    refine s_val rfl rfl (r_as rfl rfl) ?_
    refine s_nil ?_
    refine q_then ?_
    refine c_env [(0, .pointer (some ⟨b, 0, none⟩)), (1, .int .i64 ep), (2, .int .i64 (min (max n 0) c)), (6, .bool false)] ⟨rfl, rfl, rfl, rfl, trivial⟩ ?_
    refine c_ret ?_
    refine q_thenR ?_
    refine q_ret1 rfl rfl ?_
    obtain ⟨a1, a2, a3⟩ := ack_no (c := c) (e := e) (x := x) (ep := ep) (n := n) (by unfold ackN; omega)
    exact fin ⟨by rw [a1], by rw [a2, a3]; first | done | rfl⟩ H
  · skip
    refine s_val rfl rfl (r_mv rfl rfl) ?_
    refine s_val rfl rfl (r_mv rfl rfl) ?_
    refine s_val rfl rfl (r_nilP rfl rfl) ?_
    refine s_val rfl rfl (r_fa rfl fo46_2 rfl) ?_
    refine s_val rfl rfl (r_ld rfl ty3 rfl (H.cellI 0 rfl rfl)) ?_
    refine s_val rfl rfl (r_lt rfl rfl rfl) ?_
    refine s_val rfl rfl (r_pickF rfl rfl rfl) ?_
    refine s_nil ?_
    refine q_then ?_
    refine c_env [(0, .pointer (some ⟨b, 0, none⟩)), (1, .int .i64 ep), (2, .int .i64 (min (max n 0) c)), (6, .bool false), (23, .bool (decide (ep < e)))] ⟨rfl, rfl, rfl, rfl, rfl, trivial⟩ ?_
    refine c_dec (p := ep < e) rfl (fun h2 => ?_) (fun h2 => ?_)
    · skip
      refine c_seq ?_
      refine c_reg ?_
      refine s_val rfl rfl (r_as rfl rfl) ?_
      refine s_nil ?_
      refine q_then ?_
      refine c_env [(0, .pointer (some ⟨b, 0, none⟩)), (1, .int .i64 ep), (2, .int .i64 (min (max n 0) c)), (6, .bool false)] ⟨rfl, rfl, rfl, rfl, trivial⟩ ?_
      refine c_ret ?_
      refine q_thenR ?_
      refine q_ret1 rfl rfl ?_
      obtain ⟨a1, a2, a3⟩ := ack_no (c := c) (e := e) (x := x) (ep := ep) (n := n) (by unfold ackN; omega)
      exact fin ⟨by rw [a1], by rw [a2, a3]; first | done | rfl⟩ H
    · skip
      refine c_skip ?_
      refine q_then ?_
      refine c_env [(0, .pointer (some ⟨b, 0, none⟩)), (1, .int .i64 ep), (2, .int .i64 (min (max n 0) c)), (6, .bool false)] ⟨rfl, rfl, rfl, rfl, trivial⟩ ?_
      refine c_seq ?_
      refine c_seq ?_
      refine c_reg ?_
      refine s_val rfl rfl (r_mv rfl rfl) ?_
      refine s_val rfl rfl (r_mv rfl rfl) ?_
      refine s_val rfl rfl (r_nilP rfl rfl) ?_
      refine s_val rfl rfl (r_fa rfl fo46_2 rfl) ?_
      refine s_val rfl rfl (r_ld rfl ty3 rfl (H.cellI 0 rfl rfl)) ?_
      refine s_val rfl rfl (r_gt rfl rfl rfl) ?_
      refine s_nil ?_
      refine q_then ?_
      refine c_env [(0, .pointer (some ⟨b, 0, none⟩)), (1, .int .i64 ep), (2, .int .i64 (min (max n 0) c)), (6, .bool false), (29, .bool (decide (e < ep)))] ⟨rfl, rfl, rfl, rfl, rfl, trivial⟩ ?_
      refine c_dec (p := e < ep) rfl (fun h3 => ?_) (fun h3 => ?_)
      · skip
        refine c_seq ?_
        refine c_reg ?_
        refine s_val rfl rfl (r_mv rfl rfl) ?_
        refine s_val rfl rfl (r_mv rfl rfl) ?_
        refine s_val rfl rfl (r_mv rfl rfl) ?_
        refine s_val rfl rfl (r_mv rfl rfl) ?_
        refine s_val rfl rfl (r_nilP rfl rfl) ?_
        refine s_val rfl rfl (r_fa rfl fo46_2 rfl) ?_
        refine s_st rfl rfl rfl ty3 rfl rfl H rfl (Nat.le_of_ble_eq_true rfl) (fun u hu => by simp [Value.cells] at hu; subst hu; rfl) (fun w H => ?_)
        replace H : Hd _ _ _ [blk b [.int .i64 c, .int .i64 s, .int .i64 ep, .int .i64 x] 46] [] := H
        refine s_val rfl rfl (r_nilP rfl rfl) ?_
        refine s_val rfl rfl (r_fa rfl fo46_3 rfl) ?_
        refine s_st rfl rfl rfl ty3 rfl rfl H rfl (Nat.le_of_ble_eq_true rfl) (fun u hu => by simp [Value.cells] at hu; subst hu; rfl) (fun w H => ?_)
        replace H : Hd _ _ _ [blk b [.int .i64 c, .int .i64 s, .int .i64 ep, .int .i64 (min (max n 0) c)] 46] [] := H
        refine s_nil ?_
        refine q_then ?_
        refine c_env [(0, .pointer (some ⟨b, 0, none⟩)), (2, .int .i64 (min (max n 0) c)), (6, .bool false)] ⟨rfl, rfl, rfl, trivial⟩ ?_
        refine c_seq ?_
        refine c_reg ?_
        refine s_val rfl rfl (r_as rfl rfl) ?_
        refine s_nil ?_
        refine q_then ?_
        refine c_env [(0, .pointer (some ⟨b, 0, none⟩)), (2, .int .i64 (min (max n 0) c)), (6, .bool true)] ⟨rfl, rfl, rfl, trivial⟩ ?_
        refine c_ret ?_
        refine q_thenR ?_
        refine q_ret1 rfl rfl ?_
        obtain ⟨a1, a2, a3⟩ := ack_yes (c := c) (e := e) (x := x) (ep := ep) (n := n) (by unfold ackN; omega)
        exact fin ⟨by rw [a1], by rw [a2, a3]; first | done | rfl⟩ H
      · skip
        refine c_skip ?_
        refine q_then ?_
        refine c_env [(0, .pointer (some ⟨b, 0, none⟩)), (2, .int .i64 (min (max n 0) c)), (6, .bool false)] ⟨rfl, rfl, rfl, trivial⟩ ?_
        refine c_seq ?_
        refine c_seq ?_
        refine c_reg ?_
        refine s_val rfl rfl (r_mv rfl rfl) ?_
        refine s_val rfl rfl (r_mv rfl rfl) ?_
        refine s_val rfl rfl (r_nilP rfl rfl) ?_
        refine s_val rfl rfl (r_fa rfl fo46_3 rfl) ?_
        refine s_val rfl rfl (r_ld rfl ty3 rfl (H.cellI 0 rfl rfl)) ?_
        refine s_val rfl rfl (r_le rfl rfl rfl) ?_
        refine s_nil ?_
        refine q_then ?_
        refine c_env [(0, .pointer (some ⟨b, 0, none⟩)), (2, .int .i64 (min (max n 0) c)), (6, .bool false), (43, .bool (decide ((min (max n 0) c) ≤ x)))] ⟨rfl, rfl, rfl, rfl, trivial⟩ ?_
        refine c_dec (p := (min (max n 0) c) ≤ x) rfl (fun h4 => ?_) (fun h4 => ?_)
        · skip
          refine c_seq ?_
          refine c_reg ?_
          refine s_val rfl rfl (r_as rfl rfl) ?_
          refine s_nil ?_
          refine q_then ?_
          refine c_env [(0, .pointer (some ⟨b, 0, none⟩)), (2, .int .i64 (min (max n 0) c)), (6, .bool false)] ⟨rfl, rfl, rfl, trivial⟩ ?_
          refine c_ret ?_
          refine q_thenR ?_
          refine q_ret1 rfl rfl ?_
          obtain ⟨a1, a2, a3⟩ := ack_no (c := c) (e := e) (x := x) (ep := ep) (n := n) (by unfold ackN; omega)
          exact fin ⟨by rw [a1], by rw [a2, a3]; first | done | rfl⟩ H
        · skip
          refine c_skip ?_
          refine q_then ?_
          refine c_env [(0, .pointer (some ⟨b, 0, none⟩)), (2, .int .i64 (min (max n 0) c)), (6, .bool false)] ⟨rfl, rfl, rfl, trivial⟩ ?_
          refine c_seq ?_
          refine c_reg ?_
          refine s_val rfl rfl (r_mv rfl rfl) ?_
          refine s_val rfl rfl (r_mv rfl rfl) ?_
          refine s_val rfl rfl (r_nilP rfl rfl) ?_
          refine s_val rfl rfl (r_fa rfl fo46_3 rfl) ?_
          refine s_st rfl rfl rfl ty3 rfl rfl H rfl (Nat.le_of_ble_eq_true rfl) (fun u hu => by simp [Value.cells] at hu; subst hu; rfl) (fun w H => ?_)
          replace H : Hd _ _ _ [blk b [.int .i64 c, .int .i64 s, .int .i64 e, .int .i64 (min (max n 0) c)] 46] [] := H
          refine s_nil ?_
          refine q_then ?_
          refine c_env [(6, .bool false)] ⟨rfl, trivial⟩ ?_
          refine c_seq ?_
          refine c_reg ?_
          refine s_val rfl rfl (r_as rfl rfl) ?_
          refine s_nil ?_
          refine q_then ?_
          refine c_env [(6, .bool true)] ⟨rfl, trivial⟩ ?_
          refine c_ret ?_
          refine q_ret1 rfl rfl ?_
          obtain ⟨a1, a2, a3⟩ := ack_yes (c := c) (e := e) (x := x) (ep := ep) (n := n) (by unfold ackN; omega)
          obtain rfl : ep = e := by omega
          exact fin ⟨by rw [a1], by rw [a2, a3]; first | done | rfl⟩ H

set_option maxHeartbeats 1000000 in
theorem vOpen_ok (b : Nat) (c : Int) (s : Int) (e : Int) (x : Int) (h : 0 ≤ c ∧ c ≤ 40 ∧ 1 ≤ s ∧ s ≤ 4) (hx : 0 ≤ x ∧ x ≤ c) :
    Cn Try.prog 39 [.pointer (some ⟨b, 0, none⟩)] [] [blk b [.int .i64 c, .int .i64 s, .int .i64 e, .int .i64 x] 46] (fun v Bs => Bs = [osl (kInt .i64) v (openL c s x)]) := by
  intro w0 F0 H
  refine enter (args := [.pointer (some ⟨b, 0, none⟩)]) Try.func39 rfl rfl (Nat.le_of_ble_eq_true rfl) ?_
  refine c_seq ?_
  refine c_reg ?_
  refine s_val rfl rfl (r_as rfl rfl) ?_
  refine s_nil ?_
  refine q_then ?_
  refine c_env [(0, .pointer (some ⟨b, 0, none⟩)), (2, .slice none 0 0)] ⟨rfl, rfl, trivial⟩ ?_
  refine c_seq ?_
  refine c_reg ?_
  refine s_val rfl rfl (r_as rfl rfl) ?_
  refine s_nil ?_
  refine q_then ?_
  refine c_env [(0, .pointer (some ⟨b, 0, none⟩)), (2, .slice none 0 0), (3, .slice none 0 0)] ⟨rfl, rfl, rfl, trivial⟩ ?_
  refine c_seq ?_
  refine c_seq ?_
  refine c_reg ?_
  refine s_val rfl rfl (r_mv rfl rfl) ?_
  refine s_val rfl rfl (r_nilP rfl rfl) ?_
  refine s_val rfl rfl (r_fa rfl fo46_3 rfl) ?_
  refine s_val rfl rfl (r_ld rfl ty3 rfl (H.cellRI 0 rfl rfl)) ?_
  refine s_val rfl rfl (r_as rfl rfl) ?_
  refine s_nil ?_
  refine q_then ?_
  refine c_env [(0, .pointer (some ⟨b, 0, none⟩)), (2, .slice none 0 0), (3, .slice none 0 0), (4, .int .i64 x)] ⟨rfl, rfl, rfl, rfl, trivial⟩ ?_
  refine c_block ?_
  replace H := H.newnil (kInt .i64)
  refine c_loop (σ := Nat × Value) (fun (k, l) => [(0, .pointer (some ⟨b, 0, none⟩)), (2, .slice none 0 0), (3, l), (4, .int .i64 (x + ((k : Nat) : Int)))]) (fun (k, l) w => (Hd w0 F0 w [osl (kInt .i64) l (upL x k)] [blk b [.int .i64 c, .int .i64 s, .int .i64 e, .int .i64 x] 46]) ∧ (k ≤ (min s (c - x)).toNat)) (fun (k, l) => (min s (c - x)).toNat - k) (0, .slice none 0 0) ⟨rfl, rfl, rfl, congrArg (fun z => some (Value.int .i64 z)) (by omega : x = x + ((0 : Nat) : Int)), trivial⟩ ⟨H, by omega⟩ ?_
  rintro ⟨k, l⟩ w ⟨H, hk⟩
  have hlen := upL_len x k
  refine c_seq ?_
  refine c_seq ?_
  refine c_reg ?_
  refine s_val rfl rfl (r_mv rfl rfl) ?_
  refine s_val rfl rfl (r_mv rfl rfl) ?_
  refine s_val rfl rfl (r_nilP rfl rfl) ?_
  refine s_val rfl rfl (r_fa rfl fo46_0 rfl) ?_
  refine s_val rfl rfl (r_ld rfl ty3 rfl (H.cellRI 0 rfl rfl)) ?_
  refine s_val rfl rfl (r_lt rfl rfl rfl) ?_
  refine s_val rfl rfl (r_mv rfl rfl) ?_
  refine s_dec (d := 15) (p := (x + ((k : Nat) : Int)) < c) rfl (fun h1 => ?_) (fun h1 => ?_)
  · skip
    refine s_val rfl rfl (r_mv rfl rfl) ?_
    obtain ⟨A2, c3, rfl, hc4, hm5, hp6⟩ := H.fA 0 rfl
    refine s_val rfl rfl (r_lenL rfl un22 rfl) ?_
    refine s_val rfl rfl (r_mv rfl rfl) ?_
    refine s_val rfl rfl (r_nilP rfl rfl) ?_
    refine s_val rfl rfl (r_fa rfl fo46_1 rfl) ?_
    refine s_val rfl rfl (r_ld rfl ty3 rfl (H.cellRI 0 rfl rfl)) ?_
    refine s_val rfl rfl (r_lt rfl rfl rfl) ?_
    refine s_val rfl rfl (r_pickT rfl rfl rfl) ?_
    refine s_nil ?_
    refine q_then ?_
    replace H : Hd _ _ _ [osl (kInt .i64) (.slice A2 ((upL x k).length) c3) (upL x k)] [blk b [.int .i64 c, .int .i64 s, .int .i64 e, .int .i64 x] 46] := H
    refine c_env [(0, .pointer (some ⟨b, 0, none⟩)), (2, .slice none 0 0), (3, .slice A2 ((upL x k).length) c3), (4, .int .i64 (x + ((k : Nat) : Int))), (23, .bool (decide ((((upL x k).length : Nat) : Int) < s)))] ⟨rfl, rfl, rfl, rfl, rfl, trivial⟩ ?_
    refine c_dec (p := (((upL x k).length : Nat) : Int) < s) rfl (fun h7 => ?_) (fun h7 => ?_)
    · skip
      refine c_skip ?_
      refine q_then ?_
      refine c_env [(0, .pointer (some ⟨b, 0, none⟩)), (2, .slice none 0 0), (3, .slice A2 ((upL x k).length) c3), (4, .int .i64 (x + ((k : Nat) : Int)))] ⟨rfl, rfl, rfl, rfl, trivial⟩ ?_
      refine c_seq ?_
      refine c_block ?_
      refine c_reg ?_
      refine s_val rfl rfl (r_mv rfl rfl) ?_
      refine s_val rfl rfl (r_mv rfl rfl) ?_
      refine s_bsl (parts := [(0, .tmp 27)]) (vs := [.int .i64 (x + ((k : Nat) : Int))]) (cs := [.int .i64 (x + ((k : Nat) : Int))]) rfl rfl rfl sl22 zr3 rfl (by decide) (by decide) rfl rfl H (fun b8 w H => ?_)
      replace H := H.pick 1 rfl
      refine s_appF (xs := upL x k) (ys := [x + ((k : Nat) : Int)]) rfl rfl rfl sl22 zr3 rfl (by decide) rfl rfl H (by simp only [upL_len, List.length_cons, List.length_nil]; omega) (fun F hA hR => blk_rsl (hA _ (List.mem_of_getElem? (i := 0) rfl)) rfl (by decide) (RepsR.flat_eq.2 rfl)) (fun v9 w H => ?_)
      refine s_val rfl rfl (r_as rfl rfl) ?_
      refine s_nil ?_
      refine q_blockN ?_
      refine q_then ?_
      replace H : Hd _ _ _ [osl (kInt .i64) v9 ((upL x k) ++ [x + ((k : Nat) : Int)]), blk b8 [.int .i64 (x + ((k : Nat) : Int))] 3] [blk b [.int .i64 c, .int .i64 s, .int .i64 e, .int .i64 x] 46] := H
      refine c_env [(0, .pointer (some ⟨b, 0, none⟩)), (2, .slice none 0 0), (3, v9), (4, .int .i64 (x + ((k : Nat) : Int)))] ⟨rfl, rfl, rfl, rfl, trivial⟩ ?_
      refine c_reg ?_
      refine s_val rfl rfl (r_mv rfl rfl) ?_
      refine s_val rfl rfl (r_add (z := x + ((k + 1 : Nat) : Int)) rfl rfl rfl (by rw [w64 (by omega) (by omega)]; omega)) ?_
      refine s_val rfl rfl (r_as rfl rfl) ?_
      refine s_nil ?_
      rw [← upL_succ] at H
      replace H := H.keep 1
      exact q_round (s := (k, undef)) (k + 1, v9) ⟨rfl, rfl, rfl, rfl, trivial⟩ ⟨H, by omega⟩ (by (try dsimp only); omega)
    · skip
      refine c_exit ?_
      refine q_thenE ?_
      refine q_thenE ?_
      refine q_blockE ?_
      refine q_then ?_
      refine c_env [(2, .slice none 0 0), (3, .slice A2 ((upL x k).length) c3)] ⟨rfl, rfl, trivial⟩ ?_
      refine c_seq ?_
      refine c_reg ?_
      refine s_val rfl rfl (r_mv rfl rfl) ?_
      refine s_val rfl rfl (r_as rfl rfl) ?_
      refine s_nil ?_
      refine q_then ?_
      refine c_env [(2, .slice A2 ((upL x k).length) c3)] ⟨rfl, trivial⟩ ?_
      refine c_ret ?_
      refine q_ret1 rfl rfl ?_
      obtain rfl : k = (min s (c - x)).toNat := by omega
      exact fin rfl H
  · skip
    refine s_no rfl rfl ?_
    refine s_no rfl rfl ?_
    refine s_no rfl rfl ?_
    refine s_no rfl rfl ?_
    refine s_no rfl rfl ?_
    refine s_no rfl rfl ?_
    refine s_no rfl rfl ?_
    refine s_val rfl rfl (r_pickF rfl rfl rfl) ?_
    refine s_nil ?_
    refine q_then ?_
    refine c_env [(0, .pointer (some ⟨b, 0, none⟩)), (2, .slice none 0 0), (3, l), (4, .int .i64 (x + ((k : Nat) : Int))), (23, .bool false)] ⟨rfl, rfl, rfl, rfl, rfl, trivial⟩ ?_
    refine c_no rfl ?_
    refine c_exit ?_
    refine q_thenE ?_
    refine q_thenE ?_
    refine q_blockE ?_
    refine q_then ?_
    refine c_env [(2, .slice none 0 0), (3, l)] ⟨rfl, rfl, trivial⟩ ?_
    refine c_seq ?_
    refine c_reg ?_
    refine s_val rfl rfl (r_mv rfl rfl) ?_
    refine s_val rfl rfl (r_as rfl rfl) ?_
    refine s_nil ?_
    refine q_then ?_
    refine c_env [(2, l)] ⟨rfl, trivial⟩ ?_
    refine c_ret ?_
    refine q_ret1 rfl rfl ?_
    obtain rfl : k = (min s (c - x)).toNat := by omega
    exact fin rfl H

set_option maxHeartbeats 1000000 in
theorem vDone_ok (b : Nat) (c : Int) (s : Int) (e : Int) (x : Int) :
    Cn Try.prog 43 [.pointer (some ⟨b, 0, none⟩)] [] [blk b [.int .i64 c, .int .i64 s, .int .i64 e, .int .i64 x] 46] (fun v Bs => v = .bool (decide (c ≤ x)) ∧ Bs = []) := by
  intro w0 F0 H
  refine enter (args := [.pointer (some ⟨b, 0, none⟩)]) Try.func43 rfl rfl (Nat.le_of_ble_eq_true rfl) ?_
  refine c_seq ?_
  refine c_reg ?_
  refine s_val rfl rfl (r_as rfl rfl) ?_
  refine s_nil ?_
  refine q_then ?_
  refine c_env [(0, .pointer (some ⟨b, 0, none⟩)), (2, .bool false)] ⟨rfl, rfl, trivial⟩ ?_
  refine c_seq ?_
  refine c_draw mo (by kernel_rfl) H ?_
  refine u_val rfl rfl (fun w H => r_mv rfl rfl) ?_
  refine u_val rfl rfl (fun w H => r_nilP rfl rfl) ?_
  refine u_val rfl rfl (fun w H => r_fa rfl fo46_3 rfl) ?_
  refine u_val rfl rfl (fun w H => r_ld rfl ty3 rfl (H.cellRI 0 rfl rfl)) ?_
  refine u_val rfl rfl (fun w H => r_mv rfl rfl) ?_
  refine u_val rfl rfl (fun w H => r_nilP rfl rfl) ?_
  refine u_val rfl rfl (fun w H => r_fa rfl fo46_0 rfl) ?_
  refine u_val rfl rfl (fun w H => r_ld rfl ty3 rfl (H.cellRI 0 rfl rfl)) ?_
  refine u_val rfl rfl (fun w H => r_ge rfl rfl rfl) ?_
  refine u_val rfl rfl (fun w H => r_as rfl rfl) ?_
  refine u_end (fun w H => ?_)
  refine q_then ?_
  refine c_env [(2, .bool (decide (c ≤ x)))] ⟨rfl, trivial⟩ ?_
  refine c_ret ?_
  refine q_ret1 rfl rfl ?_
  exact fin ⟨rfl, rfl⟩ H

set_option maxHeartbeats 1000000 in
theorem num_ok (n : Int) :
    Cn Try.prog 34 [.int .i64 n] [] [] (fun v Bs => v = .int .i64 n ∧ Bs = []) := by
  intro w0 F0 H
  refine enter (args := [.int .i64 n]) Try.func34 rfl rfl (Nat.le_of_ble_eq_true rfl) ?_
  refine c_seq ?_
  refine c_reg ?_
  refine s_val rfl rfl (r_as rfl rfl) ?_
  refine s_nil ?_
  refine q_then ?_
  refine c_env [(0, .int .i64 n), (2, .int .i64 0)] ⟨rfl, rfl, trivial⟩ ?_
  refine c_seq ?_
  refine c_reg ?_
  refine s_val rfl rfl (r_mv rfl rfl) ?_
  refine s_val rfl rfl (r_as rfl rfl) ?_
  refine s_nil ?_
  refine q_then ?_
  refine c_env [(2, .int .i64 n)] ⟨rfl, trivial⟩ ?_
  refine c_ret ?_
  refine q_ret1 rfl rfl ?_
  exact fin ⟨rfl, rfl⟩ H

end Go.Proofs.Ytnaaahpmnhoabaa.X
