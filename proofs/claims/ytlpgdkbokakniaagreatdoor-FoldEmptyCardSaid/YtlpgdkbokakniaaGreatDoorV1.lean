/- The machine: small functions. -/
import Derived.Test.YtlpgdkbokakniaaGreatDoorXF
import Derived.Test.YtlpgdkbokakniaaGreatDoorXV3
set_option linter.unusedVariables false
set_option linter.unusedSimpArgs false
namespace Go.Proofs.YtlpgdkbokakniaaGreatDoor.X
open Go
set_option maxHeartbeats 1000000 in
theorem kinds_ok (op : Int) :
    Cn Tryz.prog 126 [.int .i64 op] [] [] (fun v Bs => v = .string (kindsS op) ∧ Bs = []) := by
  intro w0 F0 H
  refine enter (args := [.int .i64 op]) Tryz.func126 rfl rfl (Nat.le_of_ble_eq_true rfl) ?_
  refine c_seq ?_
  refine c_reg ?_
  refine s_val rfl rfl (r_as rfl rfl) ?_
  refine s_nil ?_
  refine q_then ?_
  refine c_env [(0, .int .i64 op), (2, .string ⟨#[]⟩)] ⟨rfl, rfl, trivial⟩ ?_
  refine c_seq ?_
  refine c_seq ?_
  refine c_reg ?_
  refine s_val rfl rfl (r_mv rfl rfl) ?_
  refine s_nil ?_
  refine q_then ?_
  refine c_env [(2, .string ⟨#[]⟩), (3, .int .i64 op)] ⟨rfl, rfl, trivial⟩ ?_
  refine c_block ?_
  refine c_seq ?_
  refine c_seq ?_
  refine c_reg ?_
  refine s_val rfl rfl (r_eq rfl rfl rfl) ?_
  refine s_val rfl rfl (r_as rfl rfl) ?_
  refine s_nil ?_
  refine q_then ?_
  refine c_env [(2, .string ⟨#[]⟩), (3, .int .i64 op), (4, .bool (decide (op = 3)))] ⟨rfl, rfl, rfl, trivial⟩ ?_
  refine c_dec (p := op = 3) rfl (fun h1 => ?_) (fun h1 => ?_)
  · skip
    refine c_skip ?_
    refine q_then ?_
    refine c_env [(2, .string ⟨#[]⟩), (3, .int .i64 op), (4, .bool (decide (op = 3)))] ⟨rfl, rfl, rfl, trivial⟩ ?_
    refine c_dec (p := op = 3) rfl (fun h2 => ?_) (fun h2 => ?_)
    · skip
      refine c_seq ?_
      refine c_reg ?_
      refine s_val rfl rfl (r_as rfl rfl) ?_
      refine s_nil ?_
      refine q_then ?_
      refine c_env [(2, .string ⟨#[101]⟩)] ⟨rfl, trivial⟩ ?_
      refine c_ret ?_
      refine q_blockR ?_
      refine q_thenR ?_
      refine q_ret1 rfl rfl ?_
      exact fin ⟨congrArg Value.string (by unfold kindsS; repeat (first | rw [if_pos (by omega)] | rw [if_neg (by omega)])), rfl⟩ H
    · exact absurd h1 h2
  · skip
    refine c_seq ?_
    refine c_reg ?_
    refine s_val rfl rfl (r_eq rfl rfl rfl) ?_
    refine s_val rfl rfl (r_as rfl rfl) ?_
    refine s_nil ?_
    refine q_then ?_
    refine c_env [(2, .string ⟨#[]⟩), (3, .int .i64 op), (4, .bool (decide (op = 4)))] ⟨rfl, rfl, rfl, trivial⟩ ?_
    refine c_dec (p := op = 4) rfl (fun h3 => ?_) (fun h3 => ?_)
    · skip
      refine c_skip ?_
      refine q_then ?_
      refine c_env [(2, .string ⟨#[]⟩), (3, .int .i64 op), (4, .bool (decide (op = 4)))] ⟨rfl, rfl, rfl, trivial⟩ ?_
      refine c_dec (p := op = 4) rfl (fun h4 => ?_) (fun h4 => ?_)
      · skip
        refine c_seq ?_
        refine c_reg ?_
        refine s_val rfl rfl (r_as rfl rfl) ?_
        refine s_nil ?_
        refine q_then ?_
        refine c_env [(2, .string ⟨#[101]⟩)] ⟨rfl, trivial⟩ ?_
        refine c_ret ?_
        refine q_blockR ?_
        refine q_thenR ?_
        refine q_ret1 rfl rfl ?_
        exact fin ⟨congrArg Value.string (by unfold kindsS; repeat (first | rw [if_pos (by omega)] | rw [if_neg (by omega)])), rfl⟩ H
      · exact absurd h3 h4
    · skip
      refine c_reg ?_
      refine s_val rfl rfl (r_eq rfl rfl rfl) ?_
      refine s_val rfl rfl (r_as rfl rfl) ?_
      refine s_nil ?_
      refine q_then ?_
      refine c_env [(2, .string ⟨#[]⟩), (3, .int .i64 op), (4, .bool (decide (op = 22)))] ⟨rfl, rfl, rfl, trivial⟩ ?_
      refine c_dec (p := op = 22) rfl (fun h5 => ?_) (fun h5 => ?_)
      · skip
        refine c_seq ?_
        refine c_reg ?_
        refine s_val rfl rfl (r_as rfl rfl) ?_
        refine s_nil ?_
        refine q_then ?_
        refine c_env [(2, .string ⟨#[101]⟩)] ⟨rfl, trivial⟩ ?_
        refine c_ret ?_
        refine q_blockR ?_
        refine q_thenR ?_
        refine q_ret1 rfl rfl ?_
        exact fin ⟨congrArg Value.string (by unfold kindsS; repeat (first | rw [if_pos (by omega)] | rw [if_neg (by omega)])), rfl⟩ H
      · skip
        refine c_seq ?_
        refine c_seq ?_
        refine c_reg ?_
        refine s_val rfl rfl (r_eq rfl rfl rfl) ?_
        refine s_val rfl rfl (r_as rfl rfl) ?_
        refine s_nil ?_
        refine q_then ?_
        refine c_env [(2, .string ⟨#[]⟩), (3, .int .i64 op), (8, .bool (decide (op = 5)))] ⟨rfl, rfl, rfl, trivial⟩ ?_
        refine c_dec (p := op = 5) rfl (fun h6 => ?_) (fun h6 => ?_)
        · skip
          refine c_skip ?_
          refine q_then ?_
          refine c_env [(2, .string ⟨#[]⟩), (3, .int .i64 op), (8, .bool (decide (op = 5)))] ⟨rfl, rfl, rfl, trivial⟩ ?_
          refine c_dec (p := op = 5) rfl (fun h7 => ?_) (fun h7 => ?_)
          · skip
            refine c_seq ?_
            refine c_reg ?_
            refine s_val rfl rfl (r_as rfl rfl) ?_
            refine s_nil ?_
            refine q_then ?_
            refine c_env [(2, .string ⟨#[101, 101]⟩)] ⟨rfl, trivial⟩ ?_
            refine c_ret ?_
            refine q_blockR ?_
            refine q_thenR ?_
            refine q_ret1 rfl rfl ?_
            exact fin ⟨congrArg Value.string (by unfold kindsS; repeat (first | rw [if_pos (by omega)] | rw [if_neg (by omega)])), rfl⟩ H
          · exact absurd h6 h7
        · skip
          refine c_reg ?_
          refine s_val rfl rfl (r_eq rfl rfl rfl) ?_
          refine s_val rfl rfl (r_as rfl rfl) ?_
          refine s_nil ?_
          refine q_then ?_
          refine c_env [(2, .string ⟨#[]⟩), (3, .int .i64 op), (8, .bool (decide (op = 12)))] ⟨rfl, rfl, rfl, trivial⟩ ?_
          refine c_dec (p := op = 12) rfl (fun h8 => ?_) (fun h8 => ?_)
          · skip
            refine c_seq ?_
            refine c_reg ?_
            refine s_val rfl rfl (r_as rfl rfl) ?_
            refine s_nil ?_
            refine q_then ?_
            refine c_env [(2, .string ⟨#[101, 101]⟩)] ⟨rfl, trivial⟩ ?_
            refine c_ret ?_
            refine q_blockR ?_
            refine q_thenR ?_
            refine q_ret1 rfl rfl ?_
            exact fin ⟨congrArg Value.string (by unfold kindsS; repeat (first | rw [if_pos (by omega)] | rw [if_neg (by omega)])), rfl⟩ H
          · skip
            refine c_seq ?_
            refine c_seq ?_
            refine c_reg ?_
            refine s_val rfl rfl (r_eq rfl rfl rfl) ?_
            refine s_val rfl rfl (r_as rfl rfl) ?_
            refine s_nil ?_
            refine q_then ?_
            refine c_env [(2, .string ⟨#[]⟩), (3, .int .i64 op), (11, .bool (decide (op = 8)))] ⟨rfl, rfl, rfl, trivial⟩ ?_
            refine c_dec (p := op = 8) rfl (fun h9 => ?_) (fun h9 => ?_)
            · skip
              refine c_skip ?_
              refine q_then ?_
              refine c_env [(2, .string ⟨#[]⟩), (3, .int .i64 op), (11, .bool (decide (op = 8)))] ⟨rfl, rfl, rfl, trivial⟩ ?_
              refine c_dec (p := op = 8) rfl (fun h10 => ?_) (fun h10 => ?_)
              · skip
                refine c_seq ?_
                refine c_reg ?_
                refine s_val rfl rfl (r_as rfl rfl) ?_
                refine s_nil ?_
                refine q_then ?_
                refine c_env [(2, .string ⟨#[110, 110]⟩)] ⟨rfl, trivial⟩ ?_
                refine c_ret ?_
                refine q_blockR ?_
                refine q_thenR ?_
                refine q_ret1 rfl rfl ?_
                exact fin ⟨congrArg Value.string (by unfold kindsS; repeat (first | rw [if_pos (by omega)] | rw [if_neg (by omega)])), rfl⟩ H
              · exact absurd h9 h10
            · skip
              refine c_seq ?_
              refine c_reg ?_
              refine s_val rfl rfl (r_eq rfl rfl rfl) ?_
              refine s_val rfl rfl (r_as rfl rfl) ?_
              refine s_nil ?_
              refine q_then ?_
              refine c_env [(2, .string ⟨#[]⟩), (3, .int .i64 op), (11, .bool (decide (op = 9)))] ⟨rfl, rfl, rfl, trivial⟩ ?_
              refine c_dec (p := op = 9) rfl (fun h11 => ?_) (fun h11 => ?_)
              · skip
                refine c_skip ?_
                refine q_then ?_
                refine c_env [(2, .string ⟨#[]⟩), (3, .int .i64 op), (11, .bool (decide (op = 9)))] ⟨rfl, rfl, rfl, trivial⟩ ?_
                refine c_dec (p := op = 9) rfl (fun h12 => ?_) (fun h12 => ?_)
                · skip
                  refine c_seq ?_
                  refine c_reg ?_
                  refine s_val rfl rfl (r_as rfl rfl) ?_
                  refine s_nil ?_
                  refine q_then ?_
                  refine c_env [(2, .string ⟨#[110, 110]⟩)] ⟨rfl, trivial⟩ ?_
                  refine c_ret ?_
                  refine q_blockR ?_
                  refine q_thenR ?_
                  refine q_ret1 rfl rfl ?_
                  exact fin ⟨congrArg Value.string (by unfold kindsS; repeat (first | rw [if_pos (by omega)] | rw [if_neg (by omega)])), rfl⟩ H
                · exact absurd h11 h12
              · skip
                refine c_seq ?_
                refine c_reg ?_
                refine s_val rfl rfl (r_eq rfl rfl rfl) ?_
                refine s_val rfl rfl (r_as rfl rfl) ?_
                refine s_nil ?_
                refine q_then ?_
                refine c_env [(2, .string ⟨#[]⟩), (3, .int .i64 op), (11, .bool (decide (op = 10)))] ⟨rfl, rfl, rfl, trivial⟩ ?_
                refine c_dec (p := op = 10) rfl (fun h13 => ?_) (fun h13 => ?_)
                · skip
                  refine c_skip ?_
                  refine q_then ?_
                  refine c_env [(2, .string ⟨#[]⟩), (3, .int .i64 op), (11, .bool (decide (op = 10)))] ⟨rfl, rfl, rfl, trivial⟩ ?_
                  refine c_dec (p := op = 10) rfl (fun h14 => ?_) (fun h14 => ?_)
                  · skip
                    refine c_seq ?_
                    refine c_reg ?_
                    refine s_val rfl rfl (r_as rfl rfl) ?_
                    refine s_nil ?_
                    refine q_then ?_
                    refine c_env [(2, .string ⟨#[110, 110]⟩)] ⟨rfl, trivial⟩ ?_
                    refine c_ret ?_
                    refine q_blockR ?_
                    refine q_thenR ?_
                    refine q_ret1 rfl rfl ?_
                    exact fin ⟨congrArg Value.string (by unfold kindsS; repeat (first | rw [if_pos (by omega)] | rw [if_neg (by omega)])), rfl⟩ H
                  · exact absurd h13 h14
                · skip
                  refine c_reg ?_
                  refine s_val rfl rfl (r_eq rfl rfl rfl) ?_
                  refine s_val rfl rfl (r_as rfl rfl) ?_
                  refine s_nil ?_
                  refine q_then ?_
                  refine c_env [(2, .string ⟨#[]⟩), (3, .int .i64 op), (11, .bool (decide (op = 11)))] ⟨rfl, rfl, rfl, trivial⟩ ?_
                  refine c_dec (p := op = 11) rfl (fun h15 => ?_) (fun h15 => ?_)
                  · skip
                    refine c_seq ?_
                    refine c_reg ?_
                    refine s_val rfl rfl (r_as rfl rfl) ?_
                    refine s_nil ?_
                    refine q_then ?_
                    refine c_env [(2, .string ⟨#[110, 110]⟩)] ⟨rfl, trivial⟩ ?_
                    refine c_ret ?_
                    refine q_blockR ?_
                    refine q_thenR ?_
                    refine q_ret1 rfl rfl ?_
                    exact fin ⟨congrArg Value.string (by unfold kindsS; repeat (first | rw [if_pos (by omega)] | rw [if_neg (by omega)])), rfl⟩ H
                  · skip
                    refine c_seq ?_
                    refine c_seq ?_
                    refine c_reg ?_
                    refine s_val rfl rfl (r_eq rfl rfl rfl) ?_
                    refine s_val rfl rfl (r_as rfl rfl) ?_
                    refine s_nil ?_
                    refine q_then ?_
                    refine c_env [(2, .string ⟨#[]⟩), (3, .int .i64 op), (16, .bool (decide (op = 13)))] ⟨rfl, rfl, rfl, trivial⟩ ?_
                    refine c_dec (p := op = 13) rfl (fun h16 => ?_) (fun h16 => ?_)
                    · skip
                      refine c_skip ?_
                      refine q_then ?_
                      refine c_env [(2, .string ⟨#[]⟩), (3, .int .i64 op), (16, .bool (decide (op = 13)))] ⟨rfl, rfl, rfl, trivial⟩ ?_
                      refine c_dec (p := op = 13) rfl (fun h17 => ?_) (fun h17 => ?_)
                      · skip
                        refine c_seq ?_
                        refine c_reg ?_
                        refine s_val rfl rfl (r_as rfl rfl) ?_
                        refine s_nil ?_
                        refine q_then ?_
                        refine c_env [(2, .string ⟨#[98, 98]⟩)] ⟨rfl, trivial⟩ ?_
                        refine c_ret ?_
                        refine q_blockR ?_
                        refine q_thenR ?_
                        refine q_ret1 rfl rfl ?_
                        exact fin ⟨congrArg Value.string (by unfold kindsS; repeat (first | rw [if_pos (by omega)] | rw [if_neg (by omega)])), rfl⟩ H
                      · exact absurd h16 h17
                    · skip
                      refine c_reg ?_
                      refine s_val rfl rfl (r_eq rfl rfl rfl) ?_
                      refine s_val rfl rfl (r_as rfl rfl) ?_
                      refine s_nil ?_
                      refine q_then ?_
                      refine c_env [(2, .string ⟨#[]⟩), (3, .int .i64 op), (16, .bool (decide (op = 23)))] ⟨rfl, rfl, rfl, trivial⟩ ?_
                      refine c_dec (p := op = 23) rfl (fun h18 => ?_) (fun h18 => ?_)
                      · skip
                        refine c_seq ?_
                        refine c_reg ?_
                        refine s_val rfl rfl (r_as rfl rfl) ?_
                        refine s_nil ?_
                        refine q_then ?_
                        refine c_env [(2, .string ⟨#[98, 98]⟩)] ⟨rfl, trivial⟩ ?_
                        refine c_ret ?_
                        refine q_blockR ?_
                        refine q_thenR ?_
                        refine q_ret1 rfl rfl ?_
                        exact fin ⟨congrArg Value.string (by unfold kindsS; repeat (first | rw [if_pos (by omega)] | rw [if_neg (by omega)])), rfl⟩ H
                      · skip
                        refine c_seq ?_
                        refine c_seq ?_
                        refine c_reg ?_
                        refine s_val rfl rfl (r_eq rfl rfl rfl) ?_
                        refine s_val rfl rfl (r_as rfl rfl) ?_
                        refine s_nil ?_
                        refine q_then ?_
                        refine c_env [(2, .string ⟨#[]⟩), (3, .int .i64 op), (19, .bool (decide (op = 14)))] ⟨rfl, rfl, rfl, trivial⟩ ?_
                        refine c_dec (p := op = 14) rfl (fun h19 => ?_) (fun h19 => ?_)
                        · skip
                          refine c_skip ?_
                          refine q_then ?_
                          refine c_env [(2, .string ⟨#[]⟩), (3, .int .i64 op), (19, .bool (decide (op = 14)))] ⟨rfl, rfl, rfl, trivial⟩ ?_
                          refine c_dec (p := op = 14) rfl (fun h20 => ?_) (fun h20 => ?_)
                          · skip
                            refine c_seq ?_
                            refine c_reg ?_
                            refine s_val rfl rfl (r_as rfl rfl) ?_
                            refine s_nil ?_
                            refine q_then ?_
                            refine c_env [(2, .string ⟨#[98]⟩)] ⟨rfl, trivial⟩ ?_
                            refine c_ret ?_
                            refine q_blockR ?_
                            refine q_thenR ?_
                            refine q_ret1 rfl rfl ?_
                            exact fin ⟨congrArg Value.string (by unfold kindsS; repeat (first | rw [if_pos (by omega)] | rw [if_neg (by omega)])), rfl⟩ H
                          · exact absurd h19 h20
                        · skip
                          refine c_reg ?_
                          refine s_val rfl rfl (r_eq rfl rfl rfl) ?_
                          refine s_val rfl rfl (r_as rfl rfl) ?_
                          refine s_nil ?_
                          refine q_then ?_
                          refine c_env [(2, .string ⟨#[]⟩), (3, .int .i64 op), (19, .bool (decide (op = 18)))] ⟨rfl, rfl, rfl, trivial⟩ ?_
                          refine c_dec (p := op = 18) rfl (fun h21 => ?_) (fun h21 => ?_)
                          · skip
                            refine c_seq ?_
                            refine c_reg ?_
                            refine s_val rfl rfl (r_as rfl rfl) ?_
                            refine s_nil ?_
                            refine q_then ?_
                            refine c_env [(2, .string ⟨#[98]⟩)] ⟨rfl, trivial⟩ ?_
                            refine c_ret ?_
                            refine q_blockR ?_
                            refine q_thenR ?_
                            refine q_ret1 rfl rfl ?_
                            exact fin ⟨congrArg Value.string (by unfold kindsS; repeat (first | rw [if_pos (by omega)] | rw [if_neg (by omega)])), rfl⟩ H
                          · skip
                            refine c_seq ?_
                            refine c_reg ?_
                            refine s_val rfl rfl (r_eq rfl rfl rfl) ?_
                            refine s_val rfl rfl (r_as rfl rfl) ?_
                            refine s_nil ?_
                            refine q_then ?_
                            refine c_env [(2, .string ⟨#[]⟩), (3, .int .i64 op), (22, .bool (decide (op = 15)))] ⟨rfl, rfl, rfl, trivial⟩ ?_
                            refine c_dec (p := op = 15) rfl (fun h22 => ?_) (fun h22 => ?_)
                            · skip
                              refine c_seq ?_
                              refine c_reg ?_
                              refine s_val rfl rfl (r_as rfl rfl) ?_
                              refine s_nil ?_
                              refine q_then ?_
                              refine c_env [(2, .string ⟨#[98, 110]⟩)] ⟨rfl, trivial⟩ ?_
                              refine c_ret ?_
                              refine q_blockR ?_
                              refine q_thenR ?_
                              refine q_ret1 rfl rfl ?_
                              exact fin ⟨congrArg Value.string (by unfold kindsS; repeat (first | rw [if_pos (by omega)] | rw [if_neg (by omega)])), rfl⟩ H
                            · skip
                              refine c_seq ?_
                              refine c_reg ?_
                              refine s_val rfl rfl (r_eq rfl rfl rfl) ?_
                              refine s_val rfl rfl (r_as rfl rfl) ?_
                              refine s_nil ?_
                              refine q_then ?_
                              refine c_env [(2, .string ⟨#[]⟩), (3, .int .i64 op), (24, .bool (decide (op = 16)))] ⟨rfl, rfl, rfl, trivial⟩ ?_
                              refine c_dec (p := op = 16) rfl (fun h23 => ?_) (fun h23 => ?_)
                              · skip
                                refine c_seq ?_
                                refine c_reg ?_
                                refine s_val rfl rfl (r_as rfl rfl) ?_
                                refine s_nil ?_
                                refine q_then ?_
                                refine c_env [(2, .string ⟨#[98, 110, 110]⟩)] ⟨rfl, trivial⟩ ?_
                                refine c_ret ?_
                                refine q_blockR ?_
                                refine q_thenR ?_
                                refine q_ret1 rfl rfl ?_
                                exact fin ⟨congrArg Value.string (by unfold kindsS; repeat (first | rw [if_pos (by omega)] | rw [if_neg (by omega)])), rfl⟩ H
                              · skip
                                refine c_seq ?_
                                refine c_seq ?_
                                refine c_reg ?_
                                refine s_val rfl rfl (r_eq rfl rfl rfl) ?_
                                refine s_val rfl rfl (r_as rfl rfl) ?_
                                refine s_nil ?_
                                refine q_then ?_
                                refine c_env [(2, .string ⟨#[]⟩), (3, .int .i64 op), (26, .bool (decide (op = 17)))] ⟨rfl, rfl, rfl, trivial⟩ ?_
                                refine c_dec (p := op = 17) rfl (fun h24 => ?_) (fun h24 => ?_)
                                · skip
                                  refine c_skip ?_
                                  refine q_then ?_
                                  refine c_env [(2, .string ⟨#[]⟩), (26, .bool (decide (op = 17)))] ⟨rfl, rfl, trivial⟩ ?_
                                  refine c_dec (p := op = 17) rfl (fun h25 => ?_) (fun h25 => ?_)
                                  · skip
                                    refine c_seq ?_
                                    refine c_reg ?_
                                    refine s_val rfl rfl (r_as rfl rfl) ?_
                                    refine s_nil ?_
                                    refine q_then ?_
                                    refine c_env [(2, .string ⟨#[110]⟩)] ⟨rfl, trivial⟩ ?_
                                    refine c_ret ?_
                                    refine q_blockR ?_
                                    refine q_thenR ?_
                                    refine q_ret1 rfl rfl ?_
                                    exact fin ⟨congrArg Value.string (by unfold kindsS; repeat (first | rw [if_pos (by omega)] | rw [if_neg (by omega)])), rfl⟩ H
                                  · exact absurd h24 h25
                                · skip
                                  refine c_reg ?_
                                  refine s_val rfl rfl (r_eq rfl rfl rfl) ?_
                                  refine s_val rfl rfl (r_as rfl rfl) ?_
                                  refine s_nil ?_
                                  refine q_then ?_
                                  refine c_env [(2, .string ⟨#[]⟩), (26, .bool (decide (op = 20)))] ⟨rfl, rfl, trivial⟩ ?_
                                  refine c_dec (p := op = 20) rfl (fun h26 => ?_) (fun h26 => ?_)
                                  · skip
                                    refine c_seq ?_
                                    refine c_reg ?_
                                    refine s_val rfl rfl (r_as rfl rfl) ?_
                                    refine s_nil ?_
                                    refine q_then ?_
                                    refine c_env [(2, .string ⟨#[110]⟩)] ⟨rfl, trivial⟩ ?_
                                    refine c_ret ?_
                                    refine q_blockR ?_
                                    refine q_thenR ?_
                                    refine q_ret1 rfl rfl ?_
                                    exact fin ⟨congrArg Value.string (by unfold kindsS; repeat (first | rw [if_pos (by omega)] | rw [if_neg (by omega)])), rfl⟩ H
                                  · skip
                                    refine c_skip ?_
                                    refine q_blockN ?_
                                    refine q_then ?_
                                    refine c_env [(2, .string ⟨#[]⟩)] ⟨rfl, trivial⟩ ?_
                                    refine c_seq ?_
                                    refine c_reg ?_
                                    refine s_val rfl rfl (r_as rfl rfl) ?_
                                    refine s_nil ?_
                                    refine q_then ?_
                                    refine c_env [(2, .string ⟨#[]⟩)] ⟨rfl, trivial⟩ ?_
                                    refine c_ret ?_
                                    refine q_ret1 rfl rfl ?_
                                    exact fin ⟨congrArg Value.string (by unfold kindsS; repeat (first | rw [if_pos (by omega)] | rw [if_neg (by omega)])), rfl⟩ H

set_option maxHeartbeats 1000000 in
theorem vInt_ok (n : Int) :
    Cn Tryz.prog 105 [.int .i64 n] [] [] (fun v Bs => v = .agg #[.bool false, .int .i64 n, .string ⟨#[]⟩] ∧ Bs = []) := by
  intro w0 F0 H
  refine enter (args := [.int .i64 n]) Tryz.func105 rfl rfl (Nat.le_of_ble_eq_true rfl) ?_
  refine c_seq ?_
  refine c_reg ?_
  refine s_alloc rfl rfl rfl zr104 H (fun b1 w H => ?_)
  refine s_nil ?_
  refine q_then ?_
  replace H : Hd _ _ _ [blk b1 [.bool false, .int .i64 0, .string ⟨#[]⟩] 104] [] := H
  refine c_env [(0, .int .i64 n), (2, .pointer (some ⟨b1, 0, none⟩))] ⟨rfl, rfl, trivial⟩ ?_
  refine c_seq ?_
  refine c_reg ?_
  refine s_val rfl rfl (r_mv rfl rfl) ?_
  refine s_val rfl rfl (r_bd (parts := [(1, .tmp 3)]) (vs := [.int .i64 n]) (cs := [.bool false, .int .i64 n, .string ⟨#[]⟩]) rfl bd104 rfl rfl) ?_
  refine s_st rfl rfl rfl ty104 rfl rfl H rfl (Nat.le_of_ble_eq_true rfl) (fun u hu => by simp [Value.cells] at hu; rcases hu with rfl | rfl | rfl <;> rfl) (fun w H => ?_)
  replace H : Hd _ _ _ [blk b1 [.bool false, .int .i64 n, .string ⟨#[]⟩] 104] [] := H
  refine s_nil ?_
  refine q_then ?_
  refine c_env [(2, .pointer (some ⟨b1, 0, none⟩))] ⟨rfl, trivial⟩ ?_
  refine c_ret ?_
  refine q_retC (cs := [.bool false, .int .i64 n, .string ⟨#[]⟩]) rfl rfl ty104 rfl (H.cellsI 0 rfl rfl) ?_
  replace H := H.keep 0
  exact fin ⟨rfl, rfl⟩ H

set_option maxHeartbeats 1000000 in
theorem vBytes_ok (s : ByteArray) :
    Cn Tryz.prog 106 [.string s] [] [] (fun v Bs => v = .agg #[.bool true, .int .i64 0, .string s] ∧ Bs = []) := by
  intro w0 F0 H
  refine enter (args := [.string s]) Tryz.func106 rfl rfl (Nat.le_of_ble_eq_true rfl) ?_
  refine c_seq ?_
  refine c_reg ?_
  refine s_alloc rfl rfl rfl zr104 H (fun b1 w H => ?_)
  refine s_nil ?_
  refine q_then ?_
  replace H : Hd _ _ _ [blk b1 [.bool false, .int .i64 0, .string ⟨#[]⟩] 104] [] := H
  refine c_env [(0, .string s), (2, .pointer (some ⟨b1, 0, none⟩))] ⟨rfl, rfl, trivial⟩ ?_
  refine c_seq ?_
  refine c_reg ?_
  refine s_val rfl rfl (r_mv rfl rfl) ?_
  refine s_val rfl rfl (r_bd (parts := [(0, .const (.bool true)), (2, .tmp 3)]) (vs := [.bool true, .string s]) (cs := [.bool true, .int .i64 0, .string s]) rfl bd104 rfl rfl) ?_
  refine s_st rfl rfl rfl ty104 rfl rfl H rfl (Nat.le_of_ble_eq_true rfl) (fun u hu => by simp [Value.cells] at hu; rcases hu with rfl | rfl | rfl <;> rfl) (fun w H => ?_)
  replace H : Hd _ _ _ [blk b1 [.bool true, .int .i64 0, .string s] 104] [] := H
  refine s_nil ?_
  refine q_then ?_
  refine c_env [(2, .pointer (some ⟨b1, 0, none⟩))] ⟨rfl, trivial⟩ ?_
  refine c_ret ?_
  refine q_retC (cs := [.bool true, .int .i64 0, .string s]) rfl rfl ty104 rfl (H.cellsI 0 rfl rfl) ?_
  replace H := H.keep 0
  exact fin ⟨rfl, rfl⟩ H

set_option maxHeartbeats 1000000 in
theorem one_ok (b : Bool) :
    Cn Tryz.prog 109 [.bool b] [] [] (fun v Bs => v = .agg #[.bool false, .int .i64 (if b = true then 1 else 0), .string ⟨#[]⟩] ∧ Bs = []) := by
  intro w0 F0 H
  refine enter (args := [.bool b]) Tryz.func109 rfl rfl (Nat.le_of_ble_eq_true rfl) ?_
  refine c_seq ?_
  refine c_reg ?_
  refine s_alloc rfl rfl rfl zr104 H (fun b1 w H => ?_)
  refine s_nil ?_
  refine q_then ?_
  replace H : Hd _ _ _ [blk b1 [.bool false, .int .i64 0, .string ⟨#[]⟩] 104] [] := H
  refine c_env [(0, .bool b), (2, .pointer (some ⟨b1, 0, none⟩))] ⟨rfl, rfl, trivial⟩ ?_
  refine c_seq ?_
  refine c_seq ?_
  refine c_reg ?_
  refine s_val rfl rfl (r_mv rfl rfl) ?_
  refine s_nil ?_
  refine q_then ?_
  refine c_env [(2, .pointer (some ⟨b1, 0, none⟩)), (3, .bool b)] ⟨rfl, rfl, trivial⟩ ?_
  refine c_cond (b := b) rfl (fun h2 => ?_) (fun h2 => ?_)
  · skip
    refine c_seq ?_
    refine c_reg ?_
    refine sc (vInt_ok 1) H l0 rfl rfl (e_fn kn105 rfl rfl) ?_
    rintro _ _ w ⟨rfl, rfl⟩ H
    refine s_st rfl rfl rfl ty104 rfl rfl H rfl (Nat.le_of_ble_eq_true rfl) (fun u hu => by simp [Value.cells] at hu; rcases hu with rfl | rfl | rfl <;> rfl) (fun w H => ?_)
    replace H : Hd _ _ _ [blk b1 [.bool false, .int .i64 1, .string ⟨#[]⟩] 104] [] := H
    refine s_nil ?_
    refine q_then ?_
    refine c_env [(2, .pointer (some ⟨b1, 0, none⟩))] ⟨rfl, trivial⟩ ?_
    refine c_ret ?_
    refine q_thenR ?_
    refine q_retC (cs := [.bool false, .int .i64 1, .string ⟨#[]⟩]) rfl rfl ty104 rfl (H.cellsI 0 rfl rfl) ?_
    replace H := H.keep 0
    exact fin ⟨by simp only [h2]; rfl, rfl⟩ H
  · skip
    refine c_skip ?_
    refine q_then ?_
    refine c_env [(2, .pointer (some ⟨b1, 0, none⟩))] ⟨rfl, trivial⟩ ?_
    refine c_seq ?_
    refine c_reg ?_
    refine sc (vInt_ok 0) H l0 rfl rfl (e_fn kn105 rfl rfl) ?_
    rintro _ _ w ⟨rfl, rfl⟩ H
    refine s_st rfl rfl rfl ty104 rfl rfl H rfl (Nat.le_of_ble_eq_true rfl) (fun u hu => by simp [Value.cells] at hu; rcases hu with rfl | rfl | rfl <;> rfl) (fun w H => ?_)
    replace H : Hd _ _ _ [blk b1 [.bool false, .int .i64 0, .string ⟨#[]⟩] 104] [] := H
    refine s_nil ?_
    refine q_then ?_
    refine c_env [(2, .pointer (some ⟨b1, 0, none⟩))] ⟨rfl, trivial⟩ ?_
    refine c_ret ?_
    refine q_retC (cs := [.bool false, .int .i64 0, .string ⟨#[]⟩]) rfl rfl ty104 rfl (H.cellsI 0 rfl rfl) ?_
    replace H := H.keep 0
    exact fin ⟨by simp only [h2]; rfl, rfl⟩ H

set_option maxHeartbeats 1000000 in
theorem numbers_ok (op : Int) (a : Int) (b : Int) :
    Cn Tryz.prog 108 [.int .i64 op, .int .i64 a, .int .i64 b] [] [] (fun v Bs => v = .agg #[.bool ((numM op a b).t), .int .i64 ((numM op a b).n), .string ((numM op a b).b)] ∧ Bs = []) := by
  intro w0 F0 H
  refine enter (args := [.int .i64 op, .int .i64 a, .int .i64 b]) Tryz.func108 rfl rfl (Nat.le_of_ble_eq_true rfl) ?_
  refine c_seq ?_
  refine c_reg ?_
  refine s_alloc rfl rfl rfl zr104 H (fun b1 w H => ?_)
  refine s_nil ?_
  refine q_then ?_
  replace H : Hd _ _ _ [blk b1 [.bool false, .int .i64 0, .string ⟨#[]⟩] 104] [] := H
  refine c_env [(0, .int .i64 op), (1, .int .i64 a), (2, .int .i64 b), (6, .pointer (some ⟨b1, 0, none⟩))] ⟨rfl, rfl, rfl, rfl, trivial⟩ ?_
  refine c_seq ?_
  refine c_seq ?_
  refine c_reg ?_
  refine s_val rfl rfl (r_mv rfl rfl) ?_
  refine s_nil ?_
  refine q_then ?_
  refine c_env [(1, .int .i64 a), (2, .int .i64 b), (6, .pointer (some ⟨b1, 0, none⟩)), (7, .int .i64 op)] ⟨rfl, rfl, rfl, rfl, trivial⟩ ?_
  refine c_block ?_
  refine c_seq ?_
  refine c_reg ?_
  refine s_val rfl rfl (r_eq rfl rfl rfl) ?_
  refine s_val rfl rfl (r_as rfl rfl) ?_
  refine s_nil ?_
  refine q_then ?_
  refine c_env [(1, .int .i64 a), (2, .int .i64 b), (6, .pointer (some ⟨b1, 0, none⟩)), (7, .int .i64 op), (8, .bool (decide (op = 8)))] ⟨rfl, rfl, rfl, rfl, rfl, trivial⟩ ?_
  refine c_dec (p := op = 8) rfl (fun h2 => ?_) (fun h2 => ?_)
  · skip
    refine c_seq ?_
    refine c_reg ?_
    refine s_val rfl rfl (r_mv rfl rfl) ?_
    refine s_val rfl rfl (r_mv rfl rfl) ?_
    refine s_val rfl rfl (r_add (z := IntKind.i64.wrap (a + b)) rfl rfl rfl rfl) ?_
    refine sc (vInt_ok (IntKind.i64.wrap (a + b))) H l0 rfl rfl (e_fn kn105 rfl rfl) ?_
    rintro _ _ w ⟨rfl, rfl⟩ H
    refine s_st rfl rfl rfl ty104 rfl rfl H rfl (Nat.le_of_ble_eq_true rfl) (fun u hu => by simp [Value.cells] at hu; rcases hu with rfl | rfl | rfl <;> rfl) (fun w H => ?_)
    replace H : Hd _ _ _ [blk b1 [.bool false, .int .i64 (IntKind.i64.wrap (a + b)), .string ⟨#[]⟩] 104] [] := H
    refine s_nil ?_
    refine q_then ?_
    refine c_env [(1, .int .i64 a), (2, .int .i64 b), (6, .pointer (some ⟨b1, 0, none⟩))] ⟨rfl, rfl, rfl, trivial⟩ ?_
    refine c_ret ?_
    refine q_blockR ?_
    refine q_thenR ?_
    refine q_retC (cs := [.bool false, .int .i64 (IntKind.i64.wrap (a + b)), .string ⟨#[]⟩]) rfl rfl ty104 rfl (H.cellsI 0 rfl rfl) ?_
    have e : numM op a b = vint (IntKind.i64.wrap (a + b)) := by unfold numM; rw [if_pos h2]
    replace H := H.keep 0
    exact fin ⟨by rw [e]; rfl, rfl⟩ H
  · skip
    refine c_seq ?_
    refine c_reg ?_
    refine s_val rfl rfl (r_eq rfl rfl rfl) ?_
    refine s_val rfl rfl (r_as rfl rfl) ?_
    refine s_nil ?_
    refine q_then ?_
    refine c_env [(1, .int .i64 a), (2, .int .i64 b), (6, .pointer (some ⟨b1, 0, none⟩)), (7, .int .i64 op), (14, .bool (decide (op = 9)))] ⟨rfl, rfl, rfl, rfl, rfl, trivial⟩ ?_
    refine c_dec (p := op = 9) rfl (fun h3 => ?_) (fun h3 => ?_)
    · skip
      refine c_seq ?_
      refine c_reg ?_
      refine s_val rfl rfl (r_mv rfl rfl) ?_
      refine s_val rfl rfl (r_mv rfl rfl) ?_
      refine s_val rfl rfl (r_sub (z := IntKind.i64.wrap (a - b)) rfl rfl rfl rfl) ?_
      refine sc (vInt_ok (IntKind.i64.wrap (a - b))) H l0 rfl rfl (e_fn kn105 rfl rfl) ?_
      rintro _ _ w ⟨rfl, rfl⟩ H
      refine s_st rfl rfl rfl ty104 rfl rfl H rfl (Nat.le_of_ble_eq_true rfl) (fun u hu => by simp [Value.cells] at hu; rcases hu with rfl | rfl | rfl <;> rfl) (fun w H => ?_)
      replace H : Hd _ _ _ [blk b1 [.bool false, .int .i64 (IntKind.i64.wrap (a - b)), .string ⟨#[]⟩] 104] [] := H
      refine s_nil ?_
      refine q_then ?_
      refine c_env [(1, .int .i64 a), (2, .int .i64 b), (6, .pointer (some ⟨b1, 0, none⟩))] ⟨rfl, rfl, rfl, trivial⟩ ?_
      refine c_ret ?_
      refine q_blockR ?_
      refine q_thenR ?_
      refine q_retC (cs := [.bool false, .int .i64 (IntKind.i64.wrap (a - b)), .string ⟨#[]⟩]) rfl rfl ty104 rfl (H.cellsI 0 rfl rfl) ?_
      have e : numM op a b = vint (IntKind.i64.wrap (a - b)) := by unfold numM; rw [if_neg h2, if_pos h3]
      replace H := H.keep 0
      exact fin ⟨by rw [e]; rfl, rfl⟩ H
    · skip
      refine c_seq ?_
      refine c_reg ?_
      refine s_val rfl rfl (r_eq rfl rfl rfl) ?_
      refine s_val rfl rfl (r_as rfl rfl) ?_
      refine s_nil ?_
      refine q_then ?_
      refine c_env [(1, .int .i64 a), (2, .int .i64 b), (6, .pointer (some ⟨b1, 0, none⟩)), (20, .bool (decide (op = 10)))] ⟨rfl, rfl, rfl, rfl, trivial⟩ ?_
      refine c_dec (p := op = 10) rfl (fun h4 => ?_) (fun h4 => ?_)
      · skip
        refine c_seq ?_
        refine c_reg ?_
        refine s_val rfl rfl (r_mv rfl rfl) ?_
        refine s_val rfl rfl (r_mv rfl rfl) ?_
        refine s_val rfl rfl (r_mul (z := IntKind.i64.wrap (a * b)) rfl rfl rfl rfl) ?_
        refine sc (vInt_ok (IntKind.i64.wrap (a * b))) H l0 rfl rfl (e_fn kn105 rfl rfl) ?_
        rintro _ _ w ⟨rfl, rfl⟩ H
        refine s_st rfl rfl rfl ty104 rfl rfl H rfl (Nat.le_of_ble_eq_true rfl) (fun u hu => by simp [Value.cells] at hu; rcases hu with rfl | rfl | rfl <;> rfl) (fun w H => ?_)
        replace H : Hd _ _ _ [blk b1 [.bool false, .int .i64 (IntKind.i64.wrap (a * b)), .string ⟨#[]⟩] 104] [] := H
        refine s_nil ?_
        refine q_then ?_
        refine c_env [(1, .int .i64 a), (2, .int .i64 b), (6, .pointer (some ⟨b1, 0, none⟩))] ⟨rfl, rfl, rfl, trivial⟩ ?_
        refine c_ret ?_
        refine q_blockR ?_
        refine q_thenR ?_
        refine q_retC (cs := [.bool false, .int .i64 (IntKind.i64.wrap (a * b)), .string ⟨#[]⟩]) rfl rfl ty104 rfl (H.cellsI 0 rfl rfl) ?_
        have e : numM op a b = vint (IntKind.i64.wrap (a * b)) := by unfold numM; rw [if_neg h2, if_neg h3, if_pos h4]
        replace H := H.keep 0
        exact fin ⟨by rw [e]; rfl, rfl⟩ H
      · skip
        refine c_skip ?_
        refine q_blockN ?_
        refine q_then ?_
        refine c_env [(1, .int .i64 a), (2, .int .i64 b), (6, .pointer (some ⟨b1, 0, none⟩))] ⟨rfl, rfl, rfl, trivial⟩ ?_
        refine c_seq ?_
        refine c_reg ?_
        refine s_val rfl rfl (r_mv rfl rfl) ?_
        refine s_val rfl rfl (r_mv rfl rfl) ?_
        refine s_val rfl rfl (r_lt rfl rfl rfl) ?_
        refine sc (one_ok (decide (a < b))) H l0 rfl rfl (e_fn kn109 rfl rfl) ?_
        rintro _ _ w ⟨rfl, rfl⟩ H
        refine s_st rfl rfl rfl ty104 rfl rfl H rfl (Nat.le_of_ble_eq_true rfl) (fun u hu => by simp [Value.cells] at hu; rcases hu with rfl | rfl | rfl <;> rfl) (fun w H => ?_)
        replace H : Hd _ _ _ [blk b1 [.bool false, .int .i64 (if (decide (a < b)) = true then 1 else 0), .string ⟨#[]⟩] 104] [] := H
        refine s_nil ?_
        refine q_then ?_
        refine c_env [(6, .pointer (some ⟨b1, 0, none⟩))] ⟨rfl, trivial⟩ ?_
        refine c_ret ?_
        refine q_retC (cs := [.bool false, .int .i64 (if (decide (a < b)) = true then 1 else 0), .string ⟨#[]⟩]) rfl rfl ty104 rfl (H.cellsI 0 rfl rfl) ?_
        have e : numM op a b = vint (if a < b then 1 else 0) := by unfold numM; rw [if_neg h2, if_neg h3, if_neg h4]
        replace H := H.keep 0
        exact fin ⟨by rw [e]; simp [vint], rfl⟩ H

set_option maxHeartbeats 1000000 in
theorem vSame_ok (a : Val) (b : Val) :
    Cn Tryz.prog 110 [.agg #[.bool a.t, .int .i64 a.n, .string a.b], .agg #[.bool b.t, .int .i64 b.n, .string b.b]] [] [] (fun v Bs => v = .bool (sameV a b) ∧ Bs = []) := by
  intro w0 F0 H
  refine enter (args := [.agg #[.bool a.t, .int .i64 a.n, .string a.b], .agg #[.bool b.t, .int .i64 b.n, .string b.b]]) Tryz.func110 rfl rfl (Nat.le_of_ble_eq_true rfl) ?_
  refine c_seq ?_
  refine c_reg ?_
  refine s_box rfl rfl rfl rfl H (fun b1 w H => ?_)
  refine s_box rfl rfl rfl rfl H (fun b2 w H => ?_)
  refine s_val rfl rfl (r_as rfl rfl) ?_
  refine s_nil ?_
  refine q_then ?_
  replace H : Hd _ _ _ [blk b2 [.bool b.t, .int .i64 b.n, .string b.b] 104, blk b1 [.bool a.t, .int .i64 a.n, .string a.b] 104] [] := H
  refine c_env [(2, .pointer (some ⟨b1, 0, none⟩)), (3, .pointer (some ⟨b2, 0, none⟩)), (4, .bool false)] ⟨rfl, rfl, rfl, trivial⟩ ?_
  refine c_seq ?_
  refine c_seq ?_
  refine c_reg ?_
  refine s_val rfl rfl (r_fa rfl fo104_0 rfl) ?_
  refine s_val rfl rfl (r_ld rfl ty4 rfl (H.cellI 1 rfl rfl)) ?_
  refine s_nil ?_
  refine q_then ?_
  refine c_env [(2, .pointer (some ⟨b1, 0, none⟩)), (3, .pointer (some ⟨b2, 0, none⟩)), (4, .bool false), (6, .bool a.t)] ⟨rfl, rfl, rfl, rfl, trivial⟩ ?_
  refine c_cond (b := a.t) rfl (fun h3 => ?_) (fun h3 => ?_)
  · skip
    refine c_seq ?_
    refine c_reg ?_
    refine s_val rfl rfl (r_fa rfl fo104_0 rfl) ?_
    refine s_val rfl rfl (r_ld rfl ty4 rfl (H.cellI 0 rfl rfl)) ?_
    refine s_val rfl rfl (r_mv rfl rfl) ?_
    refine s_boo (d := 9) (b := b.t) rfl (fun h4 => ?_) (fun h4 => ?_)
    · skip
      refine s_val rfl rfl (r_fa rfl fo104_2 rfl) ?_
      refine s_val rfl rfl (r_ld rfl ty9 rfl (H.cellI 1 rfl rfl)) ?_
      refine s_val rfl rfl (r_fa rfl fo104_2 rfl) ?_
      refine s_val rfl rfl (r_ld rfl ty9 rfl (H.cellI 0 rfl rfl)) ?_
      refine s_val rfl rfl (r_eqS rfl rfl rfl) ?_
      refine s_val rfl rfl (r_pickT rfl rfl rfl) ?_
      refine s_val rfl rfl (r_as rfl rfl) ?_
      refine s_nil ?_
      refine q_then ?_
      refine c_env [(2, .pointer (some ⟨b1, 0, none⟩)), (3, .pointer (some ⟨b2, 0, none⟩)), (4, .bool (decide (a.b = b.b)))] ⟨rfl, rfl, rfl, trivial⟩ ?_
      refine c_ret ?_
      refine q_thenR ?_
      refine q_ret1 rfl rfl ?_
      replace H := H.keep 0
      exact fin ⟨congrArg Value.bool (by unfold sameV; simp [h3, h4]), rfl⟩ H
    · skip
      refine s_no rfl rfl ?_
      refine s_no rfl rfl ?_
      refine s_no rfl rfl ?_
      refine s_no rfl rfl ?_
      refine s_no rfl rfl ?_
      refine s_val rfl rfl (r_pickF rfl rfl rfl) ?_
      refine s_val rfl rfl (r_as rfl rfl) ?_
      refine s_nil ?_
      refine q_then ?_
      refine c_env [(2, .pointer (some ⟨b1, 0, none⟩)), (3, .pointer (some ⟨b2, 0, none⟩)), (4, .bool false)] ⟨rfl, rfl, rfl, trivial⟩ ?_
      refine c_ret ?_
      refine q_thenR ?_
      refine q_ret1 rfl rfl ?_
      replace H := H.keep 0
      exact fin ⟨congrArg Value.bool (by unfold sameV; simp [h3, h4]), rfl⟩ H
  · skip
    refine c_skip ?_
    refine q_then ?_
    refine c_env [(2, .pointer (some ⟨b1, 0, none⟩)), (3, .pointer (some ⟨b2, 0, none⟩)), (4, .bool false)] ⟨rfl, rfl, rfl, trivial⟩ ?_
    refine c_seq ?_
    refine c_reg ?_
    refine s_val rfl rfl (r_fa rfl fo104_0 rfl) ?_
    refine s_val rfl rfl (r_ld rfl ty4 rfl (H.cellI 0 rfl rfl)) ?_
    refine s_val rfl rfl (r_not rfl rfl rfl) ?_
    refine s_val rfl rfl (r_mv rfl rfl) ?_
    refine s_boo (d := 19) (b := !b.t) rfl (fun h5 => ?_) (fun h5 => ?_)
    · skip
      refine s_val rfl rfl (r_fa rfl fo104_1 rfl) ?_
      refine s_val rfl rfl (r_ld rfl ty2 rfl (H.cellI 1 rfl rfl)) ?_
      refine s_val rfl rfl (r_fa rfl fo104_1 rfl) ?_
      refine s_val rfl rfl (r_ld rfl ty2 rfl (H.cellI 0 rfl rfl)) ?_
      refine s_val rfl rfl (r_eq rfl rfl rfl) ?_
      refine s_val rfl rfl (r_pickT rfl rfl rfl) ?_
      refine s_val rfl rfl (r_as rfl rfl) ?_
      refine s_nil ?_
      refine q_then ?_
      refine c_env [(4, .bool (decide (a.n = b.n)))] ⟨rfl, trivial⟩ ?_
      refine c_ret ?_
      refine q_ret1 rfl rfl ?_
      replace H := H.keep 0
      exact fin ⟨congrArg Value.bool (by unfold sameV; simp [h3, h5]), rfl⟩ H
    · skip
      refine s_no rfl rfl ?_
      refine s_no rfl rfl ?_
      refine s_no rfl rfl ?_
      refine s_no rfl rfl ?_
      refine s_no rfl rfl ?_
      refine s_val rfl rfl (r_pickF rfl rfl rfl) ?_
      refine s_val rfl rfl (r_as rfl rfl) ?_
      refine s_nil ?_
      refine q_then ?_
      refine c_env [(4, .bool false)] ⟨rfl, trivial⟩ ?_
      refine c_ret ?_
      refine q_ret1 rfl rfl ?_
      replace H := H.keep 0
      exact fin ⟨congrArg Value.bool (by unfold sameV; simp [h3, h5]), rfl⟩ H

set_option maxHeartbeats 1000000 in
theorem vAt_ok (s : ByteArray) (i : Int) :
    Cn Tryz.prog 111 [.string s, .int .i64 i] [] [] (fun v Bs => v = .int .i64 (atS s i) ∧ Bs = []) := by
  intro w0 F0 H
  refine enter (args := [.string s, .int .i64 i]) Tryz.func111 rfl rfl (Nat.le_of_ble_eq_true rfl) ?_
  refine c_seq ?_
  refine c_reg ?_
  refine s_val rfl rfl (r_as rfl rfl) ?_
  refine s_nil ?_
  refine q_then ?_
  refine c_env [(0, .string s), (1, .int .i64 i), (4, .int .i64 0)] ⟨rfl, rfl, rfl, trivial⟩ ?_
  refine c_seq ?_
  refine c_seq ?_
  refine c_reg ?_
  refine s_val rfl rfl (r_mv rfl rfl) ?_
  refine s_val rfl rfl (r_lt rfl rfl rfl) ?_
  refine s_val rfl rfl (r_mv rfl rfl) ?_
  refine s_dec (d := 7) (p := i < 0) rfl (fun h1 => ?_) (fun h1 => ?_)
  · skip
    refine s_no rfl rfl ?_
    refine s_no rfl rfl ?_
    refine s_no rfl rfl ?_
    refine s_no rfl rfl ?_
    refine s_val rfl rfl (r_pickT rfl rfl rfl) ?_
    refine s_nil ?_
    refine q_then ?_
    refine c_env [(0, .string s), (1, .int .i64 i), (4, .int .i64 0), (12, .bool true)] ⟨rfl, rfl, rfl, rfl, trivial⟩ ?_
    refine c_yes rfl ?_
    refine c_seq ?_
    refine c_reg ?_
    refine s_val rfl rfl (r_as rfl rfl) ?_
    refine s_nil ?_
    refine q_then ?_
    refine c_env [(0, .string s), (1, .int .i64 i), (4, .int .i64 (-1))] ⟨rfl, rfl, rfl, trivial⟩ ?_
    refine c_ret ?_
    refine q_thenR ?_
    refine q_ret1 rfl rfl ?_
    exact fin ⟨congrArg (Value.int .i64) (if_pos (by omega)).symm, rfl⟩ H
  · skip
    refine s_val rfl rfl (r_mv rfl rfl) ?_
    refine s_val rfl rfl (r_mv rfl rfl) ?_
    refine s_val rfl rfl (r_lenS rfl un9 rfl) ?_
    refine s_val rfl rfl (r_ge rfl rfl rfl) ?_
    refine s_val rfl rfl (r_pickF rfl rfl rfl) ?_
    refine s_nil ?_
    refine q_then ?_
    refine c_env [(0, .string s), (1, .int .i64 i), (4, .int .i64 0), (12, .bool (decide (((s.size : Nat) : Int) ≤ i)))] ⟨rfl, rfl, rfl, rfl, trivial⟩ ?_
    refine c_dec (p := ((s.size : Nat) : Int) ≤ i) rfl (fun h2 => ?_) (fun h2 => ?_)
    · skip
      refine c_seq ?_
      refine c_reg ?_
      refine s_val rfl rfl (r_as rfl rfl) ?_
      refine s_nil ?_
      refine q_then ?_
      refine c_env [(0, .string s), (1, .int .i64 i), (4, .int .i64 (-1))] ⟨rfl, rfl, rfl, trivial⟩ ?_
      refine c_ret ?_
      refine q_thenR ?_
      refine q_ret1 rfl rfl ?_
      exact fin ⟨congrArg (Value.int .i64) (if_pos (by omega)).symm, rfl⟩ H
    · skip
      refine c_skip ?_
      refine q_then ?_
      refine c_env [(0, .string s), (1, .int .i64 i), (4, .int .i64 0)] ⟨rfl, rfl, rfl, trivial⟩ ?_
      refine c_seq ?_
      refine c_reg ?_
      refine s_val rfl rfl (r_mv rfl rfl) ?_
      refine s_val rfl rfl (r_mv rfl rfl) ?_
      obtain ⟨c0, hc0⟩ : ∃ c0, s[i.toNat]? = some c0 := ⟨_, getElem?_pos s i.toNat (by omega)⟩
      refine s_val rfl rfl (r_idxS rfl un9 rfl rfl (by omega) hc0) ?_
      refine s_val rfl rfl (r_i2i (z := ((c0).toNat : Int)) rfl rfl un5 un2 (w64 (by omega) (by have := UInt8.toNat_lt c0; omega))) ?_
      refine s_val rfl rfl (r_as rfl rfl) ?_
      refine s_nil ?_
      refine q_then ?_
      refine c_env [(4, .int .i64 ((c0).toNat : Int))] ⟨rfl, trivial⟩ ?_
      refine c_ret ?_
      refine q_ret1 rfl rfl ?_
      exact fin ⟨congrArg (Value.int .i64) (by unfold atS; rw [if_neg (by omega), hc0]; rfl), rfl⟩ H

set_option maxHeartbeats 1000000 in
theorem vCut_ok (s : ByteArray) (f : Int) (t : Int) :
    Cn Tryz.prog 112 [.string s, .int .i64 f, .int .i64 t] [] [] (fun v Bs => v = .string (cutS s f t) ∧ Bs = []) := by
  intro w0 F0 H
  refine enter (args := [.string s, .int .i64 f, .int .i64 t]) Tryz.func112 rfl rfl (Nat.le_of_ble_eq_true rfl) ?_
  refine c_seq ?_
  refine c_reg ?_
  refine s_val rfl rfl (r_as rfl rfl) ?_
  refine s_nil ?_
  refine q_then ?_
  refine c_env [(0, .string s), (1, .int .i64 f), (2, .int .i64 t), (6, .string ⟨#[]⟩)] ⟨rfl, rfl, rfl, rfl, trivial⟩ ?_
  refine c_seq ?_
  refine c_reg ?_
  refine s_val rfl rfl (r_mv rfl rfl) ?_
  refine s_val rfl rfl (r_lenS rfl un9 rfl) ?_
  refine s_val rfl rfl (r_as rfl rfl) ?_
  refine s_nil ?_
  refine q_then ?_
  refine c_env [(0, .string s), (1, .int .i64 f), (2, .int .i64 t), (6, .string ⟨#[]⟩), (7, .int .i64 ((s.size : Nat) : Int))] ⟨rfl, rfl, rfl, rfl, rfl, trivial⟩ ?_
  refine c_seq ?_
  refine c_reg ?_
  refine s_val rfl rfl (r_mv rfl rfl) ?_
  refine s_val rfl rfl (r_max (z := max f 0) rfl rfl rfl rfl) ?_
  refine s_val rfl rfl (r_mv rfl rfl) ?_
  refine s_val rfl rfl (r_min (z := min (max f 0) ((s.size : Nat) : Int)) rfl rfl rfl rfl) ?_
  refine s_val rfl rfl (r_mv rfl rfl) ?_
  refine s_val rfl rfl (r_max (z := max t 0) rfl rfl rfl rfl) ?_
  refine s_val rfl rfl (r_mv rfl rfl) ?_
  refine s_val rfl rfl (r_min (z := min (max t 0) ((s.size : Nat) : Int)) rfl rfl rfl rfl) ?_
  refine s_val rfl rfl (r_as rfl rfl) ?_
  refine s_val rfl rfl (r_as rfl rfl) ?_
  refine s_nil ?_
  refine q_then ?_
  refine c_env [(0, .string s), (1, .int .i64 (min (max f 0) ((s.size : Nat) : Int))), (2, .int .i64 (min (max t 0) ((s.size : Nat) : Int))), (6, .string ⟨#[]⟩)] ⟨rfl, rfl, rfl, rfl, trivial⟩ ?_
  refine c_seq ?_
  refine c_seq ?_
  refine c_reg ?_
  refine s_val rfl rfl (r_mv rfl rfl) ?_
  refine s_val rfl rfl (r_mv rfl rfl) ?_
  refine s_val rfl rfl (r_le rfl rfl rfl) ?_
  refine s_nil ?_
  refine q_then ?_
  refine c_env [(0, .string s), (1, .int .i64 (min (max f 0) ((s.size : Nat) : Int))), (2, .int .i64 (min (max t 0) ((s.size : Nat) : Int))), (6, .string ⟨#[]⟩), (20, .bool (decide ((min (max t 0) ((s.size : Nat) : Int)) ≤ (min (max f 0) ((s.size : Nat) : Int)))))] ⟨rfl, rfl, rfl, rfl, rfl, trivial⟩ ?_
  refine c_dec (p := (min (max t 0) ((s.size : Nat) : Int)) ≤ (min (max f 0) ((s.size : Nat) : Int))) rfl (fun h1 => ?_) (fun h1 => ?_)
  · skip
    refine c_seq ?_
    refine c_reg ?_
    refine s_val rfl rfl (r_as rfl rfl) ?_
    refine s_nil ?_
    refine q_then ?_
    refine c_env [(0, .string s), (1, .int .i64 (min (max f 0) ((s.size : Nat) : Int))), (2, .int .i64 (min (max t 0) ((s.size : Nat) : Int))), (6, .string ⟨#[]⟩)] ⟨rfl, rfl, rfl, rfl, trivial⟩ ?_
    refine c_ret ?_
    refine q_thenR ?_
    refine q_ret1 rfl rfl ?_
    exact fin ⟨congrArg Value.string (if_pos h1).symm, rfl⟩ H
  · skip
    refine c_skip ?_
    refine q_then ?_
    refine c_env [(0, .string s), (1, .int .i64 (min (max f 0) ((s.size : Nat) : Int))), (2, .int .i64 (min (max t 0) ((s.size : Nat) : Int))), (6, .string ⟨#[]⟩)] ⟨rfl, rfl, rfl, rfl, trivial⟩ ?_
    refine c_seq ?_
    refine c_reg ?_
    refine s_val rfl rfl (r_mv rfl rfl) ?_
    refine s_val rfl rfl (r_mv rfl rfl) ?_
    refine s_val rfl rfl (r_mv rfl rfl) ?_
    refine s_val rfl rfl (r_cutStr (r := s.extract (min (max f 0) ((s.size : Nat) : Int)).toNat (min (max t 0) ((s.size : Nat) : Int)).toNat) rfl un9 rfl rfl rfl (by omega) (by omega) (by omega) rfl) ?_
    refine s_val rfl rfl (r_as rfl rfl) ?_
    refine s_nil ?_
    refine q_then ?_
    refine c_env [(6, .string (s.extract (min (max f 0) ((s.size : Nat) : Int)).toNat (min (max t 0) ((s.size : Nat) : Int)).toNat))] ⟨rfl, trivial⟩ ?_
    refine c_ret ?_
    refine q_ret1 rfl rfl ?_
    exact fin ⟨congrArg Value.string (if_neg h1).symm, rfl⟩ H

end Go.Proofs.YtlpgdkbokakniaaGreatDoor.X
