/- ModelPlain: texts P1, V6, V7, joined by a program of ours; what nothing names is left out. -/
import Derived.Test.YtlpgdkbokakniaaGreatDoorModelPlainQ4
set_option linter.unusedVariables false
set_option linter.unusedSimpArgs false
namespace Go.Proofs.YtlpgdkbokakniaaGreatDoor.X
open Go

set_option maxHeartbeats 1000000 in
theorem pmay_ok (p : Ins) (n : Int) :
    Cn Tryz.prog 84 [.agg #[.int .i64 p.op, .int .i64 p.a, .string p.s], .int .i64 n] [] [] (fun v Bs => v = .bool (decide (goodI p n)) ∧ Bs = []) := by
  intro w0 F0 H
  refine enter (args := [.agg #[.int .i64 p.op, .int .i64 p.a, .string p.s], .int .i64 n]) Tryz.func84 rfl rfl (Nat.le_of_ble_eq_true rfl) ?_
  refine c_seq ?_
  refine c_reg ?_
  refine s_box rfl rfl rfl rfl H (fun b1 w H => ?_)
  refine s_val rfl rfl (r_as rfl rfl) ?_
  refine s_nil ?_
  refine q_then ?_
  replace H : Hd _ _ _ [blk b1 [.int .i64 p.op, .int .i64 p.a, .string p.s] 29] [] := H
  refine c_env [(1, .int .i64 n), (2, .pointer (some ⟨b1, 0, none⟩)), (4, .bool false)] ⟨rfl, rfl, rfl, trivial⟩ ?_
  refine c_seq ?_
  refine c_reg ?_
  refine s_val rfl rfl (r_as rfl rfl) ?_
  refine s_val rfl rfl (r_as rfl rfl) ?_
  refine s_val rfl rfl (r_as rfl rfl) ?_
  refine s_nil ?_
  refine q_then ?_
  refine c_env [(1, .int .i64 n), (2, .pointer (some ⟨b1, 0, none⟩)), (4, .bool false), (5, .int .i64 0), (6, .int .i64 0), (7, .int .i64 0)] ⟨rfl, rfl, rfl, rfl, rfl, rfl, trivial⟩ ?_
  refine c_seq ?_
  refine c_seq ?_
  refine c_reg ?_
  refine s_val rfl rfl (r_fa rfl fo29_0 rfl) ?_
  refine s_val rfl rfl (r_ld rfl ty3 rfl (H.cellI 0 rfl rfl)) ?_
  refine s_nil ?_
  refine q_then ?_
  refine c_env [(1, .int .i64 n), (2, .pointer (some ⟨b1, 0, none⟩)), (4, .bool false), (5, .int .i64 0), (6, .int .i64 0), (7, .int .i64 0), (9, .int .i64 p.op)] ⟨rfl, rfl, rfl, rfl, rfl, rfl, rfl, trivial⟩ ?_
  refine c_block ?_
  refine c_seq ?_
  refine c_reg ?_
  refine s_val rfl rfl (r_eq rfl rfl rfl) ?_
  refine s_val rfl rfl (r_as rfl rfl) ?_
  refine s_nil ?_
  refine q_then ?_
  refine c_env [(1, .int .i64 n), (2, .pointer (some ⟨b1, 0, none⟩)), (4, .bool false), (5, .int .i64 0), (6, .int .i64 0), (7, .int .i64 0), (9, .int .i64 p.op), (10, .bool (decide (p.op = 1)))] ⟨rfl, rfl, rfl, rfl, rfl, rfl, rfl, rfl, trivial⟩ ?_
  refine c_dec (p := p.op = 1) rfl (fun h2 => ?_) (fun h2 => ?_)
  · skip
    refine c_seq ?_
    refine c_reg ?_
    refine s_val rfl rfl (r_fa rfl fo29_2 rfl) ?_
    refine s_val rfl rfl (r_ld rfl ty9 rfl (H.cellI 0 rfl rfl)) ?_
    refine s_val rfl rfl (r_eqS rfl rfl rfl) ?_
    refine s_val rfl rfl (r_as rfl rfl) ?_
    refine s_nil ?_
    refine q_then ?_
    refine c_env [(2, .pointer (some ⟨b1, 0, none⟩)), (4, .bool (decide (p.s = (⟨#[]⟩ : ByteArray)))), (5, .int .i64 0), (6, .int .i64 0), (7, .int .i64 0)] ⟨rfl, rfl, rfl, rfl, rfl, trivial⟩ ?_
    refine c_ret ?_
    refine q_blockR ?_
    refine q_thenR ?_
    refine q_ret1 rfl rfl ?_
    replace H := H.keep 0
    exact fin ⟨congrArg Value.bool (decide_eq_decide.2 (by rw [nil_size]; unfold goodI; omega)), rfl⟩ H
  · skip
    refine c_seq ?_
    refine c_reg ?_
    refine s_val rfl rfl (r_eq rfl rfl rfl) ?_
    refine s_val rfl rfl (r_as rfl rfl) ?_
    refine s_nil ?_
    refine q_then ?_
    refine c_env [(1, .int .i64 n), (2, .pointer (some ⟨b1, 0, none⟩)), (4, .bool false), (5, .int .i64 0), (6, .int .i64 0), (7, .int .i64 0), (9, .int .i64 p.op), (15, .bool (decide (p.op = 2)))] ⟨rfl, rfl, rfl, rfl, rfl, rfl, rfl, rfl, trivial⟩ ?_
    refine c_dec (p := p.op = 2) rfl (fun h3 => ?_) (fun h3 => ?_)
    · skip
      refine c_reg ?_
      refine s_val rfl rfl (r_as rfl rfl) ?_
      refine s_nil ?_
      refine q_blockN ?_
      refine q_then ?_
      refine c_env [(2, .pointer (some ⟨b1, 0, none⟩)), (4, .bool false), (5, .int .i64 0), (6, .int .i64 0), (7, .int .i64 64)] ⟨rfl, rfl, rfl, rfl, rfl, trivial⟩ ?_
      refine c_seq ?_
      refine c_reg ?_
      refine s_val rfl rfl (r_fa rfl fo29_0 rfl) ?_
      refine s_val rfl rfl (r_ld rfl ty3 rfl (H.cellI 0 rfl rfl)) ?_
      refine s_val rfl rfl (r_ge rfl rfl rfl) ?_
      refine s_val rfl rfl (r_mv rfl rfl) ?_
      refine s_dec (d := 27) (p := (0 : Int) ≤ p.op) rfl (fun h4 => ?_) (fun h4 => ?_)
      · skip
        refine s_val rfl rfl (r_fa rfl fo29_0 rfl) ?_
        refine s_val rfl rfl (r_ld rfl ty3 rfl (H.cellI 0 rfl rfl)) ?_
        refine s_val rfl rfl (r_le rfl rfl rfl) ?_
        refine s_val rfl rfl (r_pickT rfl rfl rfl) ?_
        refine s_val rfl rfl (r_mv rfl rfl) ?_
        refine s_dec (d := 32) (p := p.op ≤ 23) rfl (fun h5 => ?_) (fun h5 => ?_)
        · skip
          refine s_val rfl rfl (r_fa rfl fo29_1 rfl) ?_
          refine s_val rfl rfl (r_ld rfl ty3 rfl (H.cellI 0 rfl rfl)) ?_
          refine s_val rfl rfl (r_mv rfl rfl) ?_
          refine s_val rfl rfl (r_ge rfl rfl rfl) ?_
          refine s_val rfl rfl (r_pickT rfl rfl rfl) ?_
          refine s_val rfl rfl (r_mv rfl rfl) ?_
          refine s_dec (d := 38) (p := (0 : Int) ≤ p.a) rfl (fun h6 => ?_) (fun h6 => ?_)
          · skip
            refine s_val rfl rfl (r_fa rfl fo29_1 rfl) ?_
            refine s_val rfl rfl (r_ld rfl ty3 rfl (H.cellI 0 rfl rfl)) ?_
            refine s_val rfl rfl (r_mv rfl rfl) ?_
            refine s_val rfl rfl (r_le rfl rfl rfl) ?_
            refine s_val rfl rfl (r_pickT rfl rfl rfl) ?_
            refine s_val rfl rfl (r_mv rfl rfl) ?_
            refine s_dec (d := 44) (p := p.a ≤ 0) rfl (fun h7 => ?_) (fun h7 => ?_)
            · skip
              refine s_val rfl rfl (r_fa rfl fo29_2 rfl) ?_
              refine s_val rfl rfl (r_ld rfl ty9 rfl (H.cellI 0 rfl rfl)) ?_
              refine s_val rfl rfl (r_lenS rfl un9 rfl) ?_
              refine s_val rfl rfl (r_mv rfl rfl) ?_
              refine s_val rfl rfl (r_le rfl rfl rfl) ?_
              refine s_val rfl rfl (r_pickT rfl rfl rfl) ?_
              refine s_val rfl rfl (r_as rfl rfl) ?_
              refine s_nil ?_
              refine q_then ?_
              refine c_env [(4, .bool (decide (((p.s.size : Nat) : Int) ≤ 64)))] ⟨rfl, trivial⟩ ?_
              refine c_ret ?_
              refine q_ret1 rfl rfl ?_
              replace H := H.keep 0
              exact fin ⟨congrArg Value.bool (decide_eq_decide.2 (by unfold goodI; omega)), rfl⟩ H
            · skip
              refine s_no rfl rfl ?_
              refine s_no rfl rfl ?_
              refine s_no rfl rfl ?_
              refine s_no rfl rfl ?_
              refine s_no rfl rfl ?_
              refine s_val rfl rfl (r_pickF rfl rfl rfl) ?_
              refine s_val rfl rfl (r_as rfl rfl) ?_
              refine s_nil ?_
              refine q_then ?_
              refine c_env [(4, .bool false)] ⟨rfl, trivial⟩ ?_
              refine c_ret ?_
              refine q_ret1 rfl rfl ?_
              replace H := H.keep 0
              exact fin ⟨congrArg Value.bool (decide_eq_false (by unfold goodI; omega)).symm, rfl⟩ H
          · skip
            refine s_no rfl rfl ?_
            refine s_no rfl rfl ?_
            refine s_no rfl rfl ?_
            refine s_no rfl rfl ?_
            refine s_val rfl rfl (r_pickF rfl rfl rfl) ?_
            refine s_val rfl rfl (r_mv rfl rfl) ?_
            refine s_no rfl rfl ?_
            refine s_no rfl rfl ?_
            refine s_no rfl rfl ?_
            refine s_no rfl rfl ?_
            refine s_no rfl rfl ?_
            refine s_val rfl rfl (r_pickF rfl rfl rfl) ?_
            refine s_val rfl rfl (r_as rfl rfl) ?_
            refine s_nil ?_
            refine q_then ?_
            refine c_env [(4, .bool false)] ⟨rfl, trivial⟩ ?_
            refine c_ret ?_
            refine q_ret1 rfl rfl ?_
            replace H := H.keep 0
            exact fin ⟨congrArg Value.bool (decide_eq_false (by unfold goodI; omega)).symm, rfl⟩ H
        · skip
          refine s_no rfl rfl ?_
          refine s_no rfl rfl ?_
          refine s_no rfl rfl ?_
          refine s_no rfl rfl ?_
          refine s_val rfl rfl (r_pickF rfl rfl rfl) ?_
          refine s_val rfl rfl (r_mv rfl rfl) ?_
          refine s_no rfl rfl ?_
          refine s_no rfl rfl ?_
          refine s_no rfl rfl ?_
          refine s_no rfl rfl ?_
          refine s_val rfl rfl (r_pickF rfl rfl rfl) ?_
          refine s_val rfl rfl (r_mv rfl rfl) ?_
          refine s_no rfl rfl ?_
          refine s_no rfl rfl ?_
          refine s_no rfl rfl ?_
          refine s_no rfl rfl ?_
          refine s_no rfl rfl ?_
          refine s_val rfl rfl (r_pickF rfl rfl rfl) ?_
          refine s_val rfl rfl (r_as rfl rfl) ?_
          refine s_nil ?_
          refine q_then ?_
          refine c_env [(4, .bool false)] ⟨rfl, trivial⟩ ?_
          refine c_ret ?_
          refine q_ret1 rfl rfl ?_
          replace H := H.keep 0
          exact fin ⟨congrArg Value.bool (decide_eq_false (by unfold goodI; omega)).symm, rfl⟩ H
      · skip
        refine s_no rfl rfl ?_
        refine s_no rfl rfl ?_
        refine s_no rfl rfl ?_
        refine s_val rfl rfl (r_pickF rfl rfl rfl) ?_
        refine s_val rfl rfl (r_mv rfl rfl) ?_
        refine s_no rfl rfl ?_
        refine s_no rfl rfl ?_
        refine s_no rfl rfl ?_
        refine s_no rfl rfl ?_
        refine s_val rfl rfl (r_pickF rfl rfl rfl) ?_
        refine s_val rfl rfl (r_mv rfl rfl) ?_
        refine s_no rfl rfl ?_
        refine s_no rfl rfl ?_
        refine s_no rfl rfl ?_
        refine s_no rfl rfl ?_
        refine s_val rfl rfl (r_pickF rfl rfl rfl) ?_
        refine s_val rfl rfl (r_mv rfl rfl) ?_
        refine s_no rfl rfl ?_
        refine s_no rfl rfl ?_
        refine s_no rfl rfl ?_
        refine s_no rfl rfl ?_
        refine s_no rfl rfl ?_
        refine s_val rfl rfl (r_pickF rfl rfl rfl) ?_
        refine s_val rfl rfl (r_as rfl rfl) ?_
        refine s_nil ?_
        refine q_then ?_
        refine c_env [(4, .bool false)] ⟨rfl, trivial⟩ ?_
        refine c_ret ?_
        refine q_ret1 rfl rfl ?_
        replace H := H.keep 0
        exact fin ⟨congrArg Value.bool (decide_eq_false (by unfold goodI; omega)).symm, rfl⟩ H
    · skip
      refine c_seq ?_
      refine c_seq ?_
      refine c_reg ?_
      refine s_val rfl rfl (r_eq rfl rfl rfl) ?_
      refine s_val rfl rfl (r_as rfl rfl) ?_
      refine s_nil ?_
      refine q_then ?_
      refine c_env [(1, .int .i64 n), (2, .pointer (some ⟨b1, 0, none⟩)), (4, .bool false), (5, .int .i64 0), (6, .int .i64 0), (7, .int .i64 0), (9, .int .i64 p.op), (17, .bool (decide (p.op = 19)))] ⟨rfl, rfl, rfl, rfl, rfl, rfl, rfl, rfl, trivial⟩ ?_
      refine c_dec (p := p.op = 19) rfl (fun h8 => ?_) (fun h8 => ?_)
      · skip
        refine c_skip ?_
        refine q_then ?_
        refine c_env [(1, .int .i64 n), (2, .pointer (some ⟨b1, 0, none⟩)), (4, .bool false), (5, .int .i64 0), (6, .int .i64 0), (7, .int .i64 0), (9, .int .i64 p.op), (17, .bool (decide (p.op = 19)))] ⟨rfl, rfl, rfl, rfl, rfl, rfl, rfl, rfl, trivial⟩ ?_
        refine c_dec (p := p.op = 19) rfl (fun h9 => ?_) (fun h9 => ?_)
        · skip
          refine c_reg ?_
          refine s_val rfl rfl (r_mv rfl rfl) ?_
          refine s_val rfl rfl (r_as rfl rfl) ?_
          refine s_nil ?_
          refine q_blockN ?_
          refine q_then ?_
          refine c_env [(2, .pointer (some ⟨b1, 0, none⟩)), (4, .bool false), (5, .int .i64 0), (6, .int .i64 n), (7, .int .i64 0)] ⟨rfl, rfl, rfl, rfl, rfl, trivial⟩ ?_
          refine c_seq ?_
          refine c_reg ?_
          refine s_val rfl rfl (r_fa rfl fo29_0 rfl) ?_
          refine s_val rfl rfl (r_ld rfl ty3 rfl (H.cellI 0 rfl rfl)) ?_
          refine s_val rfl rfl (r_ge rfl rfl rfl) ?_
          refine s_val rfl rfl (r_mv rfl rfl) ?_
          refine s_dec (d := 27) (p := (0 : Int) ≤ p.op) rfl (fun h10 => ?_) (fun h10 => ?_)
          · skip
            refine s_val rfl rfl (r_fa rfl fo29_0 rfl) ?_
            refine s_val rfl rfl (r_ld rfl ty3 rfl (H.cellI 0 rfl rfl)) ?_
            refine s_val rfl rfl (r_le rfl rfl rfl) ?_
            refine s_val rfl rfl (r_pickT rfl rfl rfl) ?_
            refine s_val rfl rfl (r_mv rfl rfl) ?_
            refine s_dec (d := 32) (p := p.op ≤ 23) rfl (fun h11 => ?_) (fun h11 => ?_)
            · skip
              refine s_val rfl rfl (r_fa rfl fo29_1 rfl) ?_
              refine s_val rfl rfl (r_ld rfl ty3 rfl (H.cellI 0 rfl rfl)) ?_
              refine s_val rfl rfl (r_mv rfl rfl) ?_
              refine s_val rfl rfl (r_ge rfl rfl rfl) ?_
              refine s_val rfl rfl (r_pickT rfl rfl rfl) ?_
              refine s_val rfl rfl (r_mv rfl rfl) ?_
              refine s_dec (d := 38) (p := (0 : Int) ≤ p.a) rfl (fun h12 => ?_) (fun h12 => ?_)
              · skip
                refine s_val rfl rfl (r_fa rfl fo29_1 rfl) ?_
                refine s_val rfl rfl (r_ld rfl ty3 rfl (H.cellI 0 rfl rfl)) ?_
                refine s_val rfl rfl (r_mv rfl rfl) ?_
                refine s_val rfl rfl (r_le rfl rfl rfl) ?_
                refine s_val rfl rfl (r_pickT rfl rfl rfl) ?_
                refine s_val rfl rfl (r_mv rfl rfl) ?_
                refine s_dec (d := 44) (p := p.a ≤ n) rfl (fun h13 => ?_) (fun h13 => ?_)
                · skip
                  refine s_val rfl rfl (r_fa rfl fo29_2 rfl) ?_
                  refine s_val rfl rfl (r_ld rfl ty9 rfl (H.cellI 0 rfl rfl)) ?_
                  refine s_val rfl rfl (r_lenS rfl un9 rfl) ?_
                  refine s_val rfl rfl (r_mv rfl rfl) ?_
                  refine s_val rfl rfl (r_le rfl rfl rfl) ?_
                  refine s_val rfl rfl (r_pickT rfl rfl rfl) ?_
                  refine s_val rfl rfl (r_as rfl rfl) ?_
                  refine s_nil ?_
                  refine q_then ?_
                  refine c_env [(4, .bool (decide (((p.s.size : Nat) : Int) ≤ 0)))] ⟨rfl, trivial⟩ ?_
                  refine c_ret ?_
                  refine q_ret1 rfl rfl ?_
                  replace H := H.keep 0
                  exact fin ⟨congrArg Value.bool (decide_eq_decide.2 (by unfold goodI; omega)), rfl⟩ H
                · skip
                  refine s_no rfl rfl ?_
                  refine s_no rfl rfl ?_
                  refine s_no rfl rfl ?_
                  refine s_no rfl rfl ?_
                  refine s_no rfl rfl ?_
                  refine s_val rfl rfl (r_pickF rfl rfl rfl) ?_
                  refine s_val rfl rfl (r_as rfl rfl) ?_
                  refine s_nil ?_
                  refine q_then ?_
                  refine c_env [(4, .bool false)] ⟨rfl, trivial⟩ ?_
                  refine c_ret ?_
                  refine q_ret1 rfl rfl ?_
                  replace H := H.keep 0
                  exact fin ⟨congrArg Value.bool (decide_eq_false (by unfold goodI; omega)).symm, rfl⟩ H
              · skip
                refine s_no rfl rfl ?_
                refine s_no rfl rfl ?_
                refine s_no rfl rfl ?_
                refine s_no rfl rfl ?_
                refine s_val rfl rfl (r_pickF rfl rfl rfl) ?_
                refine s_val rfl rfl (r_mv rfl rfl) ?_
                refine s_no rfl rfl ?_
                refine s_no rfl rfl ?_
                refine s_no rfl rfl ?_
                refine s_no rfl rfl ?_
                refine s_no rfl rfl ?_
                refine s_val rfl rfl (r_pickF rfl rfl rfl) ?_
                refine s_val rfl rfl (r_as rfl rfl) ?_
                refine s_nil ?_
                refine q_then ?_
                refine c_env [(4, .bool false)] ⟨rfl, trivial⟩ ?_
                refine c_ret ?_
                refine q_ret1 rfl rfl ?_
                replace H := H.keep 0
                exact fin ⟨congrArg Value.bool (decide_eq_false (by unfold goodI; omega)).symm, rfl⟩ H
            · skip
              refine s_no rfl rfl ?_
              refine s_no rfl rfl ?_
              refine s_no rfl rfl ?_
              refine s_no rfl rfl ?_
              refine s_val rfl rfl (r_pickF rfl rfl rfl) ?_
              refine s_val rfl rfl (r_mv rfl rfl) ?_
              refine s_no rfl rfl ?_
              refine s_no rfl rfl ?_
              refine s_no rfl rfl ?_
              refine s_no rfl rfl ?_
              refine s_val rfl rfl (r_pickF rfl rfl rfl) ?_
              refine s_val rfl rfl (r_mv rfl rfl) ?_
              refine s_no rfl rfl ?_
              refine s_no rfl rfl ?_
              refine s_no rfl rfl ?_
              refine s_no rfl rfl ?_
              refine s_no rfl rfl ?_
              refine s_val rfl rfl (r_pickF rfl rfl rfl) ?_
              refine s_val rfl rfl (r_as rfl rfl) ?_
              refine s_nil ?_
              refine q_then ?_
              refine c_env [(4, .bool false)] ⟨rfl, trivial⟩ ?_
              refine c_ret ?_
              refine q_ret1 rfl rfl ?_
              replace H := H.keep 0
              exact fin ⟨congrArg Value.bool (decide_eq_false (by unfold goodI; omega)).symm, rfl⟩ H
          · skip
            refine s_no rfl rfl ?_
            refine s_no rfl rfl ?_
            refine s_no rfl rfl ?_
            refine s_val rfl rfl (r_pickF rfl rfl rfl) ?_
            refine s_val rfl rfl (r_mv rfl rfl) ?_
            refine s_no rfl rfl ?_
            refine s_no rfl rfl ?_
            refine s_no rfl rfl ?_
            refine s_no rfl rfl ?_
            refine s_val rfl rfl (r_pickF rfl rfl rfl) ?_
            refine s_val rfl rfl (r_mv rfl rfl) ?_
            refine s_no rfl rfl ?_
            refine s_no rfl rfl ?_
            refine s_no rfl rfl ?_
            refine s_no rfl rfl ?_
            refine s_val rfl rfl (r_pickF rfl rfl rfl) ?_
            refine s_val rfl rfl (r_mv rfl rfl) ?_
            refine s_no rfl rfl ?_
            refine s_no rfl rfl ?_
            refine s_no rfl rfl ?_
            refine s_no rfl rfl ?_
            refine s_no rfl rfl ?_
            refine s_val rfl rfl (r_pickF rfl rfl rfl) ?_
            refine s_val rfl rfl (r_as rfl rfl) ?_
            refine s_nil ?_
            refine q_then ?_
            refine c_env [(4, .bool false)] ⟨rfl, trivial⟩ ?_
            refine c_ret ?_
            refine q_ret1 rfl rfl ?_
            replace H := H.keep 0
            exact fin ⟨congrArg Value.bool (decide_eq_false (by unfold goodI; omega)).symm, rfl⟩ H
        · skip
          refine c_seq ?_
          refine c_seq ?_
          refine c_reg ?_
          refine s_val rfl rfl (r_eq rfl rfl rfl) ?_
          refine s_val rfl rfl (r_as rfl rfl) ?_
          refine s_nil ?_
          refine q_then ?_
          refine c_env [(2, .pointer (some ⟨b1, 0, none⟩)), (4, .bool false), (5, .int .i64 0), (6, .int .i64 0), (7, .int .i64 0), (9, .int .i64 p.op), (21, .bool (decide (p.op = 21)))] ⟨rfl, rfl, rfl, rfl, rfl, rfl, rfl, trivial⟩ ?_
          refine c_dec (p := p.op = 21) rfl (fun h14 => ?_) (fun h14 => ?_)
          · skip
            refine c_skip ?_
            refine q_then ?_
            refine c_env [(2, .pointer (some ⟨b1, 0, none⟩)), (4, .bool false), (5, .int .i64 0), (6, .int .i64 0), (7, .int .i64 0), (21, .bool (decide (p.op = 21)))] ⟨rfl, rfl, rfl, rfl, rfl, rfl, trivial⟩ ?_
            refine c_dec (p := p.op = 21) rfl (fun h15 => ?_) (fun h15 => ?_)
            · skip
              refine c_reg ?_
              refine s_val rfl rfl (r_as rfl rfl) ?_
              refine s_nil ?_
              refine q_blockN ?_
              refine q_then ?_
              refine c_env [(2, .pointer (some ⟨b1, 0, none⟩)), (4, .bool false), (5, .int .i64 0), (6, .int .i64 7), (7, .int .i64 0)] ⟨rfl, rfl, rfl, rfl, rfl, trivial⟩ ?_
              refine c_seq ?_
              refine c_reg ?_
              refine s_val rfl rfl (r_fa rfl fo29_0 rfl) ?_
              refine s_val rfl rfl (r_ld rfl ty3 rfl (H.cellI 0 rfl rfl)) ?_
              refine s_val rfl rfl (r_ge rfl rfl rfl) ?_
              refine s_val rfl rfl (r_mv rfl rfl) ?_
              refine s_dec (d := 27) (p := (0 : Int) ≤ p.op) rfl (fun h16 => ?_) (fun h16 => ?_)
              · skip
                refine s_val rfl rfl (r_fa rfl fo29_0 rfl) ?_
                refine s_val rfl rfl (r_ld rfl ty3 rfl (H.cellI 0 rfl rfl)) ?_
                refine s_val rfl rfl (r_le rfl rfl rfl) ?_
                refine s_val rfl rfl (r_pickT rfl rfl rfl) ?_
                refine s_val rfl rfl (r_mv rfl rfl) ?_
                refine s_dec (d := 32) (p := p.op ≤ 23) rfl (fun h17 => ?_) (fun h17 => ?_)
                · skip
                  refine s_val rfl rfl (r_fa rfl fo29_1 rfl) ?_
                  refine s_val rfl rfl (r_ld rfl ty3 rfl (H.cellI 0 rfl rfl)) ?_
                  refine s_val rfl rfl (r_mv rfl rfl) ?_
                  refine s_val rfl rfl (r_ge rfl rfl rfl) ?_
                  refine s_val rfl rfl (r_pickT rfl rfl rfl) ?_
                  refine s_val rfl rfl (r_mv rfl rfl) ?_
                  refine s_dec (d := 38) (p := (0 : Int) ≤ p.a) rfl (fun h18 => ?_) (fun h18 => ?_)
                  · skip
                    refine s_val rfl rfl (r_fa rfl fo29_1 rfl) ?_
                    refine s_val rfl rfl (r_ld rfl ty3 rfl (H.cellI 0 rfl rfl)) ?_
                    refine s_val rfl rfl (r_mv rfl rfl) ?_
                    refine s_val rfl rfl (r_le rfl rfl rfl) ?_
                    refine s_val rfl rfl (r_pickT rfl rfl rfl) ?_
                    refine s_val rfl rfl (r_mv rfl rfl) ?_
                    refine s_dec (d := 44) (p := p.a ≤ 7) rfl (fun h19 => ?_) (fun h19 => ?_)
                    · skip
                      refine s_val rfl rfl (r_fa rfl fo29_2 rfl) ?_
                      refine s_val rfl rfl (r_ld rfl ty9 rfl (H.cellI 0 rfl rfl)) ?_
                      refine s_val rfl rfl (r_lenS rfl un9 rfl) ?_
                      refine s_val rfl rfl (r_mv rfl rfl) ?_
                      refine s_val rfl rfl (r_le rfl rfl rfl) ?_
                      refine s_val rfl rfl (r_pickT rfl rfl rfl) ?_
                      refine s_val rfl rfl (r_as rfl rfl) ?_
                      refine s_nil ?_
                      refine q_then ?_
                      refine c_env [(4, .bool (decide (((p.s.size : Nat) : Int) ≤ 0)))] ⟨rfl, trivial⟩ ?_
                      refine c_ret ?_
                      refine q_ret1 rfl rfl ?_
                      replace H := H.keep 0
                      exact fin ⟨congrArg Value.bool (decide_eq_decide.2 (by unfold goodI; omega)), rfl⟩ H
                    · skip
                      refine s_no rfl rfl ?_
                      refine s_no rfl rfl ?_
                      refine s_no rfl rfl ?_
                      refine s_no rfl rfl ?_
                      refine s_no rfl rfl ?_
                      refine s_val rfl rfl (r_pickF rfl rfl rfl) ?_
                      refine s_val rfl rfl (r_as rfl rfl) ?_
                      refine s_nil ?_
                      refine q_then ?_
                      refine c_env [(4, .bool false)] ⟨rfl, trivial⟩ ?_
                      refine c_ret ?_
                      refine q_ret1 rfl rfl ?_
                      replace H := H.keep 0
                      exact fin ⟨congrArg Value.bool (decide_eq_false (by unfold goodI; omega)).symm, rfl⟩ H
                  · skip
                    refine s_no rfl rfl ?_
                    refine s_no rfl rfl ?_
                    refine s_no rfl rfl ?_
                    refine s_no rfl rfl ?_
                    refine s_val rfl rfl (r_pickF rfl rfl rfl) ?_
                    refine s_val rfl rfl (r_mv rfl rfl) ?_
                    refine s_no rfl rfl ?_
                    refine s_no rfl rfl ?_
                    refine s_no rfl rfl ?_
                    refine s_no rfl rfl ?_
                    refine s_no rfl rfl ?_
                    refine s_val rfl rfl (r_pickF rfl rfl rfl) ?_
                    refine s_val rfl rfl (r_as rfl rfl) ?_
                    refine s_nil ?_
                    refine q_then ?_
                    refine c_env [(4, .bool false)] ⟨rfl, trivial⟩ ?_
                    refine c_ret ?_
                    refine q_ret1 rfl rfl ?_
                    replace H := H.keep 0
                    exact fin ⟨congrArg Value.bool (decide_eq_false (by unfold goodI; omega)).symm, rfl⟩ H
                · skip
                  refine s_no rfl rfl ?_
                  refine s_no rfl rfl ?_
                  refine s_no rfl rfl ?_
                  refine s_no rfl rfl ?_
                  refine s_val rfl rfl (r_pickF rfl rfl rfl) ?_
                  refine s_val rfl rfl (r_mv rfl rfl) ?_
                  refine s_no rfl rfl ?_
                  refine s_no rfl rfl ?_
                  refine s_no rfl rfl ?_
                  refine s_no rfl rfl ?_
                  refine s_val rfl rfl (r_pickF rfl rfl rfl) ?_
                  refine s_val rfl rfl (r_mv rfl rfl) ?_
                  refine s_no rfl rfl ?_
                  refine s_no rfl rfl ?_
                  refine s_no rfl rfl ?_
                  refine s_no rfl rfl ?_
                  refine s_no rfl rfl ?_
                  refine s_val rfl rfl (r_pickF rfl rfl rfl) ?_
                  refine s_val rfl rfl (r_as rfl rfl) ?_
                  refine s_nil ?_
                  refine q_then ?_
                  refine c_env [(4, .bool false)] ⟨rfl, trivial⟩ ?_
                  refine c_ret ?_
                  refine q_ret1 rfl rfl ?_
                  replace H := H.keep 0
                  exact fin ⟨congrArg Value.bool (decide_eq_false (by unfold goodI; omega)).symm, rfl⟩ H
              · skip
                refine s_no rfl rfl ?_
                refine s_no rfl rfl ?_
                refine s_no rfl rfl ?_
                refine s_val rfl rfl (r_pickF rfl rfl rfl) ?_
                refine s_val rfl rfl (r_mv rfl rfl) ?_
                refine s_no rfl rfl ?_
                refine s_no rfl rfl ?_
                refine s_no rfl rfl ?_
                refine s_no rfl rfl ?_
                refine s_val rfl rfl (r_pickF rfl rfl rfl) ?_
                refine s_val rfl rfl (r_mv rfl rfl) ?_
                refine s_no rfl rfl ?_
                refine s_no rfl rfl ?_
                refine s_no rfl rfl ?_
                refine s_no rfl rfl ?_
                refine s_val rfl rfl (r_pickF rfl rfl rfl) ?_
                refine s_val rfl rfl (r_mv rfl rfl) ?_
                refine s_no rfl rfl ?_
                refine s_no rfl rfl ?_
                refine s_no rfl rfl ?_
                refine s_no rfl rfl ?_
                refine s_no rfl rfl ?_
                refine s_val rfl rfl (r_pickF rfl rfl rfl) ?_
                refine s_val rfl rfl (r_as rfl rfl) ?_
                refine s_nil ?_
                refine q_then ?_
                refine c_env [(4, .bool false)] ⟨rfl, trivial⟩ ?_
                refine c_ret ?_
                refine q_ret1 rfl rfl ?_
                replace H := H.keep 0
                exact fin ⟨congrArg Value.bool (decide_eq_false (by unfold goodI; omega)).symm, rfl⟩ H
            · skip
              refine c_skip ?_
              refine q_blockN ?_
              refine q_then ?_
              refine c_env [(2, .pointer (some ⟨b1, 0, none⟩)), (4, .bool false), (5, .int .i64 0), (6, .int .i64 0), (7, .int .i64 0)] ⟨rfl, rfl, rfl, rfl, rfl, trivial⟩ ?_
              refine c_seq ?_
              refine c_reg ?_
              refine s_val rfl rfl (r_fa rfl fo29_0 rfl) ?_
              refine s_val rfl rfl (r_ld rfl ty3 rfl (H.cellI 0 rfl rfl)) ?_
              refine s_val rfl rfl (r_ge rfl rfl rfl) ?_
              refine s_val rfl rfl (r_mv rfl rfl) ?_
              refine s_dec (d := 27) (p := (0 : Int) ≤ p.op) rfl (fun h20 => ?_) (fun h20 => ?_)
              · skip
                refine s_val rfl rfl (r_fa rfl fo29_0 rfl) ?_
                refine s_val rfl rfl (r_ld rfl ty3 rfl (H.cellI 0 rfl rfl)) ?_
                refine s_val rfl rfl (r_le rfl rfl rfl) ?_
                refine s_val rfl rfl (r_pickT rfl rfl rfl) ?_
                refine s_val rfl rfl (r_mv rfl rfl) ?_
                refine s_dec (d := 32) (p := p.op ≤ 23) rfl (fun h21 => ?_) (fun h21 => ?_)
                · skip
                  refine s_val rfl rfl (r_fa rfl fo29_1 rfl) ?_
                  refine s_val rfl rfl (r_ld rfl ty3 rfl (H.cellI 0 rfl rfl)) ?_
                  refine s_val rfl rfl (r_mv rfl rfl) ?_
                  refine s_val rfl rfl (r_ge rfl rfl rfl) ?_
                  refine s_val rfl rfl (r_pickT rfl rfl rfl) ?_
                  refine s_val rfl rfl (r_mv rfl rfl) ?_
                  refine s_dec (d := 38) (p := (0 : Int) ≤ p.a) rfl (fun h22 => ?_) (fun h22 => ?_)
                  · skip
                    refine s_val rfl rfl (r_fa rfl fo29_1 rfl) ?_
                    refine s_val rfl rfl (r_ld rfl ty3 rfl (H.cellI 0 rfl rfl)) ?_
                    refine s_val rfl rfl (r_mv rfl rfl) ?_
                    refine s_val rfl rfl (r_le rfl rfl rfl) ?_
                    refine s_val rfl rfl (r_pickT rfl rfl rfl) ?_
                    refine s_val rfl rfl (r_mv rfl rfl) ?_
                    refine s_dec (d := 44) (p := p.a ≤ 0) rfl (fun h23 => ?_) (fun h23 => ?_)
                    · skip
                      refine s_val rfl rfl (r_fa rfl fo29_2 rfl) ?_
                      refine s_val rfl rfl (r_ld rfl ty9 rfl (H.cellI 0 rfl rfl)) ?_
                      refine s_val rfl rfl (r_lenS rfl un9 rfl) ?_
                      refine s_val rfl rfl (r_mv rfl rfl) ?_
                      refine s_val rfl rfl (r_le rfl rfl rfl) ?_
                      refine s_val rfl rfl (r_pickT rfl rfl rfl) ?_
                      refine s_val rfl rfl (r_as rfl rfl) ?_
                      refine s_nil ?_
                      refine q_then ?_
                      refine c_env [(4, .bool (decide (((p.s.size : Nat) : Int) ≤ 0)))] ⟨rfl, trivial⟩ ?_
                      refine c_ret ?_
                      refine q_ret1 rfl rfl ?_
                      replace H := H.keep 0
                      exact fin ⟨congrArg Value.bool (decide_eq_decide.2 (by unfold goodI; omega)), rfl⟩ H
                    · skip
                      refine s_no rfl rfl ?_
                      refine s_no rfl rfl ?_
                      refine s_no rfl rfl ?_
                      refine s_no rfl rfl ?_
                      refine s_no rfl rfl ?_
                      refine s_val rfl rfl (r_pickF rfl rfl rfl) ?_
                      refine s_val rfl rfl (r_as rfl rfl) ?_
                      refine s_nil ?_
                      refine q_then ?_
                      refine c_env [(4, .bool false)] ⟨rfl, trivial⟩ ?_
                      refine c_ret ?_
                      refine q_ret1 rfl rfl ?_
                      replace H := H.keep 0
                      exact fin ⟨congrArg Value.bool (decide_eq_false (by unfold goodI; omega)).symm, rfl⟩ H
                  · skip
                    refine s_no rfl rfl ?_
                    refine s_no rfl rfl ?_
                    refine s_no rfl rfl ?_
                    refine s_no rfl rfl ?_
                    refine s_val rfl rfl (r_pickF rfl rfl rfl) ?_
                    refine s_val rfl rfl (r_mv rfl rfl) ?_
                    refine s_no rfl rfl ?_
                    refine s_no rfl rfl ?_
                    refine s_no rfl rfl ?_
                    refine s_no rfl rfl ?_
                    refine s_no rfl rfl ?_
                    refine s_val rfl rfl (r_pickF rfl rfl rfl) ?_
                    refine s_val rfl rfl (r_as rfl rfl) ?_
                    refine s_nil ?_
                    refine q_then ?_
                    refine c_env [(4, .bool false)] ⟨rfl, trivial⟩ ?_
                    refine c_ret ?_
                    refine q_ret1 rfl rfl ?_
                    replace H := H.keep 0
                    exact fin ⟨congrArg Value.bool (decide_eq_false (by unfold goodI; omega)).symm, rfl⟩ H
                · skip
                  refine s_no rfl rfl ?_
                  refine s_no rfl rfl ?_
                  refine s_no rfl rfl ?_
                  refine s_no rfl rfl ?_
                  refine s_val rfl rfl (r_pickF rfl rfl rfl) ?_
                  refine s_val rfl rfl (r_mv rfl rfl) ?_
                  refine s_no rfl rfl ?_
                  refine s_no rfl rfl ?_
                  refine s_no rfl rfl ?_
                  refine s_no rfl rfl ?_
                  refine s_val rfl rfl (r_pickF rfl rfl rfl) ?_
                  refine s_val rfl rfl (r_mv rfl rfl) ?_
                  refine s_no rfl rfl ?_
                  refine s_no rfl rfl ?_
                  refine s_no rfl rfl ?_
                  refine s_no rfl rfl ?_
                  refine s_no rfl rfl ?_
                  refine s_val rfl rfl (r_pickF rfl rfl rfl) ?_
                  refine s_val rfl rfl (r_as rfl rfl) ?_
                  refine s_nil ?_
                  refine q_then ?_
                  refine c_env [(4, .bool false)] ⟨rfl, trivial⟩ ?_
                  refine c_ret ?_
                  refine q_ret1 rfl rfl ?_
                  replace H := H.keep 0
                  exact fin ⟨congrArg Value.bool (decide_eq_false (by unfold goodI; omega)).symm, rfl⟩ H
              · skip
                refine s_no rfl rfl ?_
                refine s_no rfl rfl ?_
                refine s_no rfl rfl ?_
                refine s_val rfl rfl (r_pickF rfl rfl rfl) ?_
                refine s_val rfl rfl (r_mv rfl rfl) ?_
                refine s_no rfl rfl ?_
                refine s_no rfl rfl ?_
                refine s_no rfl rfl ?_
                refine s_no rfl rfl ?_
                refine s_val rfl rfl (r_pickF rfl rfl rfl) ?_
                refine s_val rfl rfl (r_mv rfl rfl) ?_
                refine s_no rfl rfl ?_
                refine s_no rfl rfl ?_
                refine s_no rfl rfl ?_
                refine s_no rfl rfl ?_
                refine s_val rfl rfl (r_pickF rfl rfl rfl) ?_
                refine s_val rfl rfl (r_mv rfl rfl) ?_
                refine s_no rfl rfl ?_
                refine s_no rfl rfl ?_
                refine s_no rfl rfl ?_
                refine s_no rfl rfl ?_
                refine s_no rfl rfl ?_
                refine s_val rfl rfl (r_pickF rfl rfl rfl) ?_
                refine s_val rfl rfl (r_as rfl rfl) ?_
                refine s_nil ?_
                refine q_then ?_
                refine c_env [(4, .bool false)] ⟨rfl, trivial⟩ ?_
                refine c_ret ?_
                refine q_ret1 rfl rfl ?_
                replace H := H.keep 0
                exact fin ⟨congrArg Value.bool (decide_eq_false (by unfold goodI; omega)).symm, rfl⟩ H
          · skip
            refine c_reg ?_
            refine s_val rfl rfl (r_eq rfl rfl rfl) ?_
            refine s_val rfl rfl (r_as rfl rfl) ?_
            refine s_nil ?_
            refine q_then ?_
            refine c_env [(2, .pointer (some ⟨b1, 0, none⟩)), (4, .bool false), (5, .int .i64 0), (6, .int .i64 0), (7, .int .i64 0), (21, .bool (decide (p.op = 22)))] ⟨rfl, rfl, rfl, rfl, rfl, rfl, trivial⟩ ?_
            refine c_dec (p := p.op = 22) rfl (fun h24 => ?_) (fun h24 => ?_)
            · skip
              refine c_reg ?_
              refine s_val rfl rfl (r_as rfl rfl) ?_
              refine s_nil ?_
              refine q_blockN ?_
              refine q_then ?_
              refine c_env [(2, .pointer (some ⟨b1, 0, none⟩)), (4, .bool false), (5, .int .i64 0), (6, .int .i64 7), (7, .int .i64 0)] ⟨rfl, rfl, rfl, rfl, rfl, trivial⟩ ?_
              refine c_seq ?_
              refine c_reg ?_
              refine s_val rfl rfl (r_fa rfl fo29_0 rfl) ?_
              refine s_val rfl rfl (r_ld rfl ty3 rfl (H.cellI 0 rfl rfl)) ?_
              refine s_val rfl rfl (r_ge rfl rfl rfl) ?_
              refine s_val rfl rfl (r_mv rfl rfl) ?_
              refine s_dec (d := 27) (p := (0 : Int) ≤ p.op) rfl (fun h25 => ?_) (fun h25 => ?_)
              · skip
                refine s_val rfl rfl (r_fa rfl fo29_0 rfl) ?_
                refine s_val rfl rfl (r_ld rfl ty3 rfl (H.cellI 0 rfl rfl)) ?_
                refine s_val rfl rfl (r_le rfl rfl rfl) ?_
                refine s_val rfl rfl (r_pickT rfl rfl rfl) ?_
                refine s_val rfl rfl (r_mv rfl rfl) ?_
                refine s_dec (d := 32) (p := p.op ≤ 23) rfl (fun h26 => ?_) (fun h26 => ?_)
                · skip
                  refine s_val rfl rfl (r_fa rfl fo29_1 rfl) ?_
                  refine s_val rfl rfl (r_ld rfl ty3 rfl (H.cellI 0 rfl rfl)) ?_
                  refine s_val rfl rfl (r_mv rfl rfl) ?_
                  refine s_val rfl rfl (r_ge rfl rfl rfl) ?_
                  refine s_val rfl rfl (r_pickT rfl rfl rfl) ?_
                  refine s_val rfl rfl (r_mv rfl rfl) ?_
                  refine s_dec (d := 38) (p := (0 : Int) ≤ p.a) rfl (fun h27 => ?_) (fun h27 => ?_)
                  · skip
                    refine s_val rfl rfl (r_fa rfl fo29_1 rfl) ?_
                    refine s_val rfl rfl (r_ld rfl ty3 rfl (H.cellI 0 rfl rfl)) ?_
                    refine s_val rfl rfl (r_mv rfl rfl) ?_
                    refine s_val rfl rfl (r_le rfl rfl rfl) ?_
                    refine s_val rfl rfl (r_pickT rfl rfl rfl) ?_
                    refine s_val rfl rfl (r_mv rfl rfl) ?_
                    refine s_dec (d := 44) (p := p.a ≤ 7) rfl (fun h28 => ?_) (fun h28 => ?_)
                    · skip
                      refine s_val rfl rfl (r_fa rfl fo29_2 rfl) ?_
                      refine s_val rfl rfl (r_ld rfl ty9 rfl (H.cellI 0 rfl rfl)) ?_
                      refine s_val rfl rfl (r_lenS rfl un9 rfl) ?_
                      refine s_val rfl rfl (r_mv rfl rfl) ?_
                      refine s_val rfl rfl (r_le rfl rfl rfl) ?_
                      refine s_val rfl rfl (r_pickT rfl rfl rfl) ?_
                      refine s_val rfl rfl (r_as rfl rfl) ?_
                      refine s_nil ?_
                      refine q_then ?_
                      refine c_env [(4, .bool (decide (((p.s.size : Nat) : Int) ≤ 0)))] ⟨rfl, trivial⟩ ?_
                      refine c_ret ?_
                      refine q_ret1 rfl rfl ?_
                      replace H := H.keep 0
                      exact fin ⟨congrArg Value.bool (decide_eq_decide.2 (by unfold goodI; omega)), rfl⟩ H
                    · skip
                      refine s_no rfl rfl ?_
                      refine s_no rfl rfl ?_
                      refine s_no rfl rfl ?_
                      refine s_no rfl rfl ?_
                      refine s_no rfl rfl ?_
                      refine s_val rfl rfl (r_pickF rfl rfl rfl) ?_
                      refine s_val rfl rfl (r_as rfl rfl) ?_
                      refine s_nil ?_
                      refine q_then ?_
                      refine c_env [(4, .bool false)] ⟨rfl, trivial⟩ ?_
                      refine c_ret ?_
                      refine q_ret1 rfl rfl ?_
                      replace H := H.keep 0
                      exact fin ⟨congrArg Value.bool (decide_eq_false (by unfold goodI; omega)).symm, rfl⟩ H
                  · skip
                    refine s_no rfl rfl ?_
                    refine s_no rfl rfl ?_
                    refine s_no rfl rfl ?_
                    refine s_no rfl rfl ?_
                    refine s_val rfl rfl (r_pickF rfl rfl rfl) ?_
                    refine s_val rfl rfl (r_mv rfl rfl) ?_
                    refine s_no rfl rfl ?_
                    refine s_no rfl rfl ?_
                    refine s_no rfl rfl ?_
                    refine s_no rfl rfl ?_
                    refine s_no rfl rfl ?_
                    refine s_val rfl rfl (r_pickF rfl rfl rfl) ?_
                    refine s_val rfl rfl (r_as rfl rfl) ?_
                    refine s_nil ?_
                    refine q_then ?_
                    refine c_env [(4, .bool false)] ⟨rfl, trivial⟩ ?_
                    refine c_ret ?_
                    refine q_ret1 rfl rfl ?_
                    replace H := H.keep 0
                    exact fin ⟨congrArg Value.bool (decide_eq_false (by unfold goodI; omega)).symm, rfl⟩ H
                · skip
                  refine s_no rfl rfl ?_
                  refine s_no rfl rfl ?_
                  refine s_no rfl rfl ?_
                  refine s_no rfl rfl ?_
                  refine s_val rfl rfl (r_pickF rfl rfl rfl) ?_
                  refine s_val rfl rfl (r_mv rfl rfl) ?_
                  refine s_no rfl rfl ?_
                  refine s_no rfl rfl ?_
                  refine s_no rfl rfl ?_
                  refine s_no rfl rfl ?_
                  refine s_val rfl rfl (r_pickF rfl rfl rfl) ?_
                  refine s_val rfl rfl (r_mv rfl rfl) ?_
                  refine s_no rfl rfl ?_
                  refine s_no rfl rfl ?_
                  refine s_no rfl rfl ?_
                  refine s_no rfl rfl ?_
                  refine s_no rfl rfl ?_
                  refine s_val rfl rfl (r_pickF rfl rfl rfl) ?_
                  refine s_val rfl rfl (r_as rfl rfl) ?_
                  refine s_nil ?_
                  refine q_then ?_
                  refine c_env [(4, .bool false)] ⟨rfl, trivial⟩ ?_
                  refine c_ret ?_
                  refine q_ret1 rfl rfl ?_
                  replace H := H.keep 0
                  exact fin ⟨congrArg Value.bool (decide_eq_false (by unfold goodI; omega)).symm, rfl⟩ H
              · skip
                refine s_no rfl rfl ?_
                refine s_no rfl rfl ?_
                refine s_no rfl rfl ?_
                refine s_val rfl rfl (r_pickF rfl rfl rfl) ?_
                refine s_val rfl rfl (r_mv rfl rfl) ?_
                refine s_no rfl rfl ?_
                refine s_no rfl rfl ?_
                refine s_no rfl rfl ?_
                refine s_no rfl rfl ?_
                refine s_val rfl rfl (r_pickF rfl rfl rfl) ?_
                refine s_val rfl rfl (r_mv rfl rfl) ?_
                refine s_no rfl rfl ?_
                refine s_no rfl rfl ?_
                refine s_no rfl rfl ?_
                refine s_no rfl rfl ?_
                refine s_val rfl rfl (r_pickF rfl rfl rfl) ?_
                refine s_val rfl rfl (r_mv rfl rfl) ?_
                refine s_no rfl rfl ?_
                refine s_no rfl rfl ?_
                refine s_no rfl rfl ?_
                refine s_no rfl rfl ?_
                refine s_no rfl rfl ?_
                refine s_val rfl rfl (r_pickF rfl rfl rfl) ?_
                refine s_val rfl rfl (r_as rfl rfl) ?_
                refine s_nil ?_
                refine q_then ?_
                refine c_env [(4, .bool false)] ⟨rfl, trivial⟩ ?_
                refine c_ret ?_
                refine q_ret1 rfl rfl ?_
                replace H := H.keep 0
                exact fin ⟨congrArg Value.bool (decide_eq_false (by unfold goodI; omega)).symm, rfl⟩ H
            · skip
              refine c_skip ?_
              refine q_blockN ?_
              refine q_then ?_
              refine c_env [(2, .pointer (some ⟨b1, 0, none⟩)), (4, .bool false), (5, .int .i64 0), (6, .int .i64 0), (7, .int .i64 0)] ⟨rfl, rfl, rfl, rfl, rfl, trivial⟩ ?_
              refine c_seq ?_
              refine c_reg ?_
              refine s_val rfl rfl (r_fa rfl fo29_0 rfl) ?_
              refine s_val rfl rfl (r_ld rfl ty3 rfl (H.cellI 0 rfl rfl)) ?_
              refine s_val rfl rfl (r_ge rfl rfl rfl) ?_
              refine s_val rfl rfl (r_mv rfl rfl) ?_
              refine s_dec (d := 27) (p := (0 : Int) ≤ p.op) rfl (fun h29 => ?_) (fun h29 => ?_)
              · skip
                refine s_val rfl rfl (r_fa rfl fo29_0 rfl) ?_
                refine s_val rfl rfl (r_ld rfl ty3 rfl (H.cellI 0 rfl rfl)) ?_
                refine s_val rfl rfl (r_le rfl rfl rfl) ?_
                refine s_val rfl rfl (r_pickT rfl rfl rfl) ?_
                refine s_val rfl rfl (r_mv rfl rfl) ?_
                refine s_dec (d := 32) (p := p.op ≤ 23) rfl (fun h30 => ?_) (fun h30 => ?_)
                · skip
                  refine s_val rfl rfl (r_fa rfl fo29_1 rfl) ?_
                  refine s_val rfl rfl (r_ld rfl ty3 rfl (H.cellI 0 rfl rfl)) ?_
                  refine s_val rfl rfl (r_mv rfl rfl) ?_
                  refine s_val rfl rfl (r_ge rfl rfl rfl) ?_
                  refine s_val rfl rfl (r_pickT rfl rfl rfl) ?_
                  refine s_val rfl rfl (r_mv rfl rfl) ?_
                  refine s_dec (d := 38) (p := (0 : Int) ≤ p.a) rfl (fun h31 => ?_) (fun h31 => ?_)
                  · skip
                    refine s_val rfl rfl (r_fa rfl fo29_1 rfl) ?_
                    refine s_val rfl rfl (r_ld rfl ty3 rfl (H.cellI 0 rfl rfl)) ?_
                    refine s_val rfl rfl (r_mv rfl rfl) ?_
                    refine s_val rfl rfl (r_le rfl rfl rfl) ?_
                    refine s_val rfl rfl (r_pickT rfl rfl rfl) ?_
                    refine s_val rfl rfl (r_mv rfl rfl) ?_
                    refine s_dec (d := 44) (p := p.a ≤ 0) rfl (fun h32 => ?_) (fun h32 => ?_)
                    · skip
                      refine s_val rfl rfl (r_fa rfl fo29_2 rfl) ?_
                      refine s_val rfl rfl (r_ld rfl ty9 rfl (H.cellI 0 rfl rfl)) ?_
                      refine s_val rfl rfl (r_lenS rfl un9 rfl) ?_
                      refine s_val rfl rfl (r_mv rfl rfl) ?_
                      refine s_val rfl rfl (r_le rfl rfl rfl) ?_
                      refine s_val rfl rfl (r_pickT rfl rfl rfl) ?_
                      refine s_val rfl rfl (r_as rfl rfl) ?_
                      refine s_nil ?_
                      refine q_then ?_
                      refine c_env [(4, .bool (decide (((p.s.size : Nat) : Int) ≤ 0)))] ⟨rfl, trivial⟩ ?_
                      refine c_ret ?_
                      refine q_ret1 rfl rfl ?_
                      replace H := H.keep 0
                      exact fin ⟨congrArg Value.bool (decide_eq_decide.2 (by unfold goodI; omega)), rfl⟩ H
                    · skip
                      refine s_no rfl rfl ?_
                      refine s_no rfl rfl ?_
                      refine s_no rfl rfl ?_
                      refine s_no rfl rfl ?_
                      refine s_no rfl rfl ?_
                      refine s_val rfl rfl (r_pickF rfl rfl rfl) ?_
                      refine s_val rfl rfl (r_as rfl rfl) ?_
                      refine s_nil ?_
                      refine q_then ?_
                      refine c_env [(4, .bool false)] ⟨rfl, trivial⟩ ?_
                      refine c_ret ?_
                      refine q_ret1 rfl rfl ?_
                      replace H := H.keep 0
                      exact fin ⟨congrArg Value.bool (decide_eq_false (by unfold goodI; omega)).symm, rfl⟩ H
                  · skip
                    refine s_no rfl rfl ?_
                    refine s_no rfl rfl ?_
                    refine s_no rfl rfl ?_
                    refine s_no rfl rfl ?_
                    refine s_val rfl rfl (r_pickF rfl rfl rfl) ?_
                    refine s_val rfl rfl (r_mv rfl rfl) ?_
                    refine s_no rfl rfl ?_
                    refine s_no rfl rfl ?_
                    refine s_no rfl rfl ?_
                    refine s_no rfl rfl ?_
                    refine s_no rfl rfl ?_
                    refine s_val rfl rfl (r_pickF rfl rfl rfl) ?_
                    refine s_val rfl rfl (r_as rfl rfl) ?_
                    refine s_nil ?_
                    refine q_then ?_
                    refine c_env [(4, .bool false)] ⟨rfl, trivial⟩ ?_
                    refine c_ret ?_
                    refine q_ret1 rfl rfl ?_
                    replace H := H.keep 0
                    exact fin ⟨congrArg Value.bool (decide_eq_false (by unfold goodI; omega)).symm, rfl⟩ H
                · skip
                  refine s_no rfl rfl ?_
                  refine s_no rfl rfl ?_
                  refine s_no rfl rfl ?_
                  refine s_no rfl rfl ?_
                  refine s_val rfl rfl (r_pickF rfl rfl rfl) ?_
                  refine s_val rfl rfl (r_mv rfl rfl) ?_
                  refine s_no rfl rfl ?_
                  refine s_no rfl rfl ?_
                  refine s_no rfl rfl ?_
                  refine s_no rfl rfl ?_
                  refine s_val rfl rfl (r_pickF rfl rfl rfl) ?_
                  refine s_val rfl rfl (r_mv rfl rfl) ?_
                  refine s_no rfl rfl ?_
                  refine s_no rfl rfl ?_
                  refine s_no rfl rfl ?_
                  refine s_no rfl rfl ?_
                  refine s_no rfl rfl ?_
                  refine s_val rfl rfl (r_pickF rfl rfl rfl) ?_
                  refine s_val rfl rfl (r_as rfl rfl) ?_
                  refine s_nil ?_
                  refine q_then ?_
                  refine c_env [(4, .bool false)] ⟨rfl, trivial⟩ ?_
                  refine c_ret ?_
                  refine q_ret1 rfl rfl ?_
                  replace H := H.keep 0
                  exact fin ⟨congrArg Value.bool (decide_eq_false (by unfold goodI; omega)).symm, rfl⟩ H
              · skip
                refine s_no rfl rfl ?_
                refine s_no rfl rfl ?_
                refine s_no rfl rfl ?_
                refine s_val rfl rfl (r_pickF rfl rfl rfl) ?_
                refine s_val rfl rfl (r_mv rfl rfl) ?_
                refine s_no rfl rfl ?_
                refine s_no rfl rfl ?_
                refine s_no rfl rfl ?_
                refine s_no rfl rfl ?_
                refine s_val rfl rfl (r_pickF rfl rfl rfl) ?_
                refine s_val rfl rfl (r_mv rfl rfl) ?_
                refine s_no rfl rfl ?_
                refine s_no rfl rfl ?_
                refine s_no rfl rfl ?_
                refine s_no rfl rfl ?_
                refine s_val rfl rfl (r_pickF rfl rfl rfl) ?_
                refine s_val rfl rfl (r_mv rfl rfl) ?_
                refine s_no rfl rfl ?_
                refine s_no rfl rfl ?_
                refine s_no rfl rfl ?_
                refine s_no rfl rfl ?_
                refine s_no rfl rfl ?_
                refine s_val rfl rfl (r_pickF rfl rfl rfl) ?_
                refine s_val rfl rfl (r_as rfl rfl) ?_
                refine s_nil ?_
                refine q_then ?_
                refine c_env [(4, .bool false)] ⟨rfl, trivial⟩ ?_
                refine c_ret ?_
                refine q_ret1 rfl rfl ?_
                replace H := H.keep 0
                exact fin ⟨congrArg Value.bool (decide_eq_false (by unfold goodI; omega)).symm, rfl⟩ H
      · skip
        refine c_reg ?_
        refine s_val rfl rfl (r_eq rfl rfl rfl) ?_
        refine s_val rfl rfl (r_as rfl rfl) ?_
        refine s_nil ?_
        refine q_then ?_
        refine c_env [(1, .int .i64 n), (2, .pointer (some ⟨b1, 0, none⟩)), (4, .bool false), (5, .int .i64 0), (6, .int .i64 0), (7, .int .i64 0), (9, .int .i64 p.op), (17, .bool (decide (p.op = 20)))] ⟨rfl, rfl, rfl, rfl, rfl, rfl, rfl, rfl, trivial⟩ ?_
        refine c_dec (p := p.op = 20) rfl (fun h33 => ?_) (fun h33 => ?_)
        · skip
          refine c_reg ?_
          refine s_val rfl rfl (r_mv rfl rfl) ?_
          refine s_val rfl rfl (r_as rfl rfl) ?_
          refine s_nil ?_
          refine q_blockN ?_
          refine q_then ?_
          refine c_env [(2, .pointer (some ⟨b1, 0, none⟩)), (4, .bool false), (5, .int .i64 0), (6, .int .i64 n), (7, .int .i64 0)] ⟨rfl, rfl, rfl, rfl, rfl, trivial⟩ ?_
          refine c_seq ?_
          refine c_reg ?_
          refine s_val rfl rfl (r_fa rfl fo29_0 rfl) ?_
          refine s_val rfl rfl (r_ld rfl ty3 rfl (H.cellI 0 rfl rfl)) ?_
          refine s_val rfl rfl (r_ge rfl rfl rfl) ?_
          refine s_val rfl rfl (r_mv rfl rfl) ?_
          refine s_dec (d := 27) (p := (0 : Int) ≤ p.op) rfl (fun h34 => ?_) (fun h34 => ?_)
          · skip
            refine s_val rfl rfl (r_fa rfl fo29_0 rfl) ?_
            refine s_val rfl rfl (r_ld rfl ty3 rfl (H.cellI 0 rfl rfl)) ?_
            refine s_val rfl rfl (r_le rfl rfl rfl) ?_
            refine s_val rfl rfl (r_pickT rfl rfl rfl) ?_
            refine s_val rfl rfl (r_mv rfl rfl) ?_
            refine s_dec (d := 32) (p := p.op ≤ 23) rfl (fun h35 => ?_) (fun h35 => ?_)
            · skip
              refine s_val rfl rfl (r_fa rfl fo29_1 rfl) ?_
              refine s_val rfl rfl (r_ld rfl ty3 rfl (H.cellI 0 rfl rfl)) ?_
              refine s_val rfl rfl (r_mv rfl rfl) ?_
              refine s_val rfl rfl (r_ge rfl rfl rfl) ?_
              refine s_val rfl rfl (r_pickT rfl rfl rfl) ?_
              refine s_val rfl rfl (r_mv rfl rfl) ?_
              refine s_dec (d := 38) (p := (0 : Int) ≤ p.a) rfl (fun h36 => ?_) (fun h36 => ?_)
              · skip
                refine s_val rfl rfl (r_fa rfl fo29_1 rfl) ?_
                refine s_val rfl rfl (r_ld rfl ty3 rfl (H.cellI 0 rfl rfl)) ?_
                refine s_val rfl rfl (r_mv rfl rfl) ?_
                refine s_val rfl rfl (r_le rfl rfl rfl) ?_
                refine s_val rfl rfl (r_pickT rfl rfl rfl) ?_
                refine s_val rfl rfl (r_mv rfl rfl) ?_
                refine s_dec (d := 44) (p := p.a ≤ n) rfl (fun h37 => ?_) (fun h37 => ?_)
                · skip
                  refine s_val rfl rfl (r_fa rfl fo29_2 rfl) ?_
                  refine s_val rfl rfl (r_ld rfl ty9 rfl (H.cellI 0 rfl rfl)) ?_
                  refine s_val rfl rfl (r_lenS rfl un9 rfl) ?_
                  refine s_val rfl rfl (r_mv rfl rfl) ?_
                  refine s_val rfl rfl (r_le rfl rfl rfl) ?_
                  refine s_val rfl rfl (r_pickT rfl rfl rfl) ?_
                  refine s_val rfl rfl (r_as rfl rfl) ?_
                  refine s_nil ?_
                  refine q_then ?_
                  refine c_env [(4, .bool (decide (((p.s.size : Nat) : Int) ≤ 0)))] ⟨rfl, trivial⟩ ?_
                  refine c_ret ?_
                  refine q_ret1 rfl rfl ?_
                  replace H := H.keep 0
                  exact fin ⟨congrArg Value.bool (decide_eq_decide.2 (by unfold goodI; omega)), rfl⟩ H
                · skip
                  refine s_no rfl rfl ?_
                  refine s_no rfl rfl ?_
                  refine s_no rfl rfl ?_
                  refine s_no rfl rfl ?_
                  refine s_no rfl rfl ?_
                  refine s_val rfl rfl (r_pickF rfl rfl rfl) ?_
                  refine s_val rfl rfl (r_as rfl rfl) ?_
                  refine s_nil ?_
                  refine q_then ?_
                  refine c_env [(4, .bool false)] ⟨rfl, trivial⟩ ?_
                  refine c_ret ?_
                  refine q_ret1 rfl rfl ?_
                  replace H := H.keep 0
                  exact fin ⟨congrArg Value.bool (decide_eq_false (by unfold goodI; omega)).symm, rfl⟩ H
              · skip
                refine s_no rfl rfl ?_
                refine s_no rfl rfl ?_
                refine s_no rfl rfl ?_
                refine s_no rfl rfl ?_
                refine s_val rfl rfl (r_pickF rfl rfl rfl) ?_
                refine s_val rfl rfl (r_mv rfl rfl) ?_
                refine s_no rfl rfl ?_
                refine s_no rfl rfl ?_
                refine s_no rfl rfl ?_
                refine s_no rfl rfl ?_
                refine s_no rfl rfl ?_
                refine s_val rfl rfl (r_pickF rfl rfl rfl) ?_
                refine s_val rfl rfl (r_as rfl rfl) ?_
                refine s_nil ?_
                refine q_then ?_
                refine c_env [(4, .bool false)] ⟨rfl, trivial⟩ ?_
                refine c_ret ?_
                refine q_ret1 rfl rfl ?_
                replace H := H.keep 0
                exact fin ⟨congrArg Value.bool (decide_eq_false (by unfold goodI; omega)).symm, rfl⟩ H
            · skip
              refine s_no rfl rfl ?_
              refine s_no rfl rfl ?_
              refine s_no rfl rfl ?_
              refine s_no rfl rfl ?_
              refine s_val rfl rfl (r_pickF rfl rfl rfl) ?_
              refine s_val rfl rfl (r_mv rfl rfl) ?_
              refine s_no rfl rfl ?_
              refine s_no rfl rfl ?_
              refine s_no rfl rfl ?_
              refine s_no rfl rfl ?_
              refine s_val rfl rfl (r_pickF rfl rfl rfl) ?_
              refine s_val rfl rfl (r_mv rfl rfl) ?_
              refine s_no rfl rfl ?_
              refine s_no rfl rfl ?_
              refine s_no rfl rfl ?_
              refine s_no rfl rfl ?_
              refine s_no rfl rfl ?_
              refine s_val rfl rfl (r_pickF rfl rfl rfl) ?_
              refine s_val rfl rfl (r_as rfl rfl) ?_
              refine s_nil ?_
              refine q_then ?_
              refine c_env [(4, .bool false)] ⟨rfl, trivial⟩ ?_
              refine c_ret ?_
              refine q_ret1 rfl rfl ?_
              replace H := H.keep 0
              exact fin ⟨congrArg Value.bool (decide_eq_false (by unfold goodI; omega)).symm, rfl⟩ H
          · skip
            refine s_no rfl rfl ?_
            refine s_no rfl rfl ?_
            refine s_no rfl rfl ?_
            refine s_val rfl rfl (r_pickF rfl rfl rfl) ?_
            refine s_val rfl rfl (r_mv rfl rfl) ?_
            refine s_no rfl rfl ?_
            refine s_no rfl rfl ?_
            refine s_no rfl rfl ?_
            refine s_no rfl rfl ?_
            refine s_val rfl rfl (r_pickF rfl rfl rfl) ?_
            refine s_val rfl rfl (r_mv rfl rfl) ?_
            refine s_no rfl rfl ?_
            refine s_no rfl rfl ?_
            refine s_no rfl rfl ?_
            refine s_no rfl rfl ?_
            refine s_val rfl rfl (r_pickF rfl rfl rfl) ?_
            refine s_val rfl rfl (r_mv rfl rfl) ?_
            refine s_no rfl rfl ?_
            refine s_no rfl rfl ?_
            refine s_no rfl rfl ?_
            refine s_no rfl rfl ?_
            refine s_no rfl rfl ?_
            refine s_val rfl rfl (r_pickF rfl rfl rfl) ?_
            refine s_val rfl rfl (r_as rfl rfl) ?_
            refine s_nil ?_
            refine q_then ?_
            refine c_env [(4, .bool false)] ⟨rfl, trivial⟩ ?_
            refine c_ret ?_
            refine q_ret1 rfl rfl ?_
            replace H := H.keep 0
            exact fin ⟨congrArg Value.bool (decide_eq_false (by unfold goodI; omega)).symm, rfl⟩ H
        · skip
          refine c_seq ?_
          refine c_seq ?_
          refine c_reg ?_
          refine s_val rfl rfl (r_eq rfl rfl rfl) ?_
          refine s_val rfl rfl (r_as rfl rfl) ?_
          refine s_nil ?_
          refine q_then ?_
          refine c_env [(2, .pointer (some ⟨b1, 0, none⟩)), (4, .bool false), (5, .int .i64 0), (6, .int .i64 0), (7, .int .i64 0), (9, .int .i64 p.op), (21, .bool (decide (p.op = 21)))] ⟨rfl, rfl, rfl, rfl, rfl, rfl, rfl, trivial⟩ ?_
          refine c_dec (p := p.op = 21) rfl (fun h38 => ?_) (fun h38 => ?_)
          · skip
            refine c_skip ?_
            refine q_then ?_
            refine c_env [(2, .pointer (some ⟨b1, 0, none⟩)), (4, .bool false), (5, .int .i64 0), (6, .int .i64 0), (7, .int .i64 0), (21, .bool (decide (p.op = 21)))] ⟨rfl, rfl, rfl, rfl, rfl, rfl, trivial⟩ ?_
            refine c_dec (p := p.op = 21) rfl (fun h39 => ?_) (fun h39 => ?_)
            · skip
              refine c_reg ?_
              refine s_val rfl rfl (r_as rfl rfl) ?_
              refine s_nil ?_
              refine q_blockN ?_
              refine q_then ?_
              refine c_env [(2, .pointer (some ⟨b1, 0, none⟩)), (4, .bool false), (5, .int .i64 0), (6, .int .i64 7), (7, .int .i64 0)] ⟨rfl, rfl, rfl, rfl, rfl, trivial⟩ ?_
              refine c_seq ?_
              refine c_reg ?_
              refine s_val rfl rfl (r_fa rfl fo29_0 rfl) ?_
              refine s_val rfl rfl (r_ld rfl ty3 rfl (H.cellI 0 rfl rfl)) ?_
              refine s_val rfl rfl (r_ge rfl rfl rfl) ?_
              refine s_val rfl rfl (r_mv rfl rfl) ?_
              refine s_dec (d := 27) (p := (0 : Int) ≤ p.op) rfl (fun h40 => ?_) (fun h40 => ?_)
              · skip
                refine s_val rfl rfl (r_fa rfl fo29_0 rfl) ?_
                refine s_val rfl rfl (r_ld rfl ty3 rfl (H.cellI 0 rfl rfl)) ?_
                refine s_val rfl rfl (r_le rfl rfl rfl) ?_
                refine s_val rfl rfl (r_pickT rfl rfl rfl) ?_
                refine s_val rfl rfl (r_mv rfl rfl) ?_
                refine s_dec (d := 32) (p := p.op ≤ 23) rfl (fun h41 => ?_) (fun h41 => ?_)
                · skip
                  refine s_val rfl rfl (r_fa rfl fo29_1 rfl) ?_
                  refine s_val rfl rfl (r_ld rfl ty3 rfl (H.cellI 0 rfl rfl)) ?_
                  refine s_val rfl rfl (r_mv rfl rfl) ?_
                  refine s_val rfl rfl (r_ge rfl rfl rfl) ?_
                  refine s_val rfl rfl (r_pickT rfl rfl rfl) ?_
                  refine s_val rfl rfl (r_mv rfl rfl) ?_
                  refine s_dec (d := 38) (p := (0 : Int) ≤ p.a) rfl (fun h42 => ?_) (fun h42 => ?_)
                  · skip
                    refine s_val rfl rfl (r_fa rfl fo29_1 rfl) ?_
                    refine s_val rfl rfl (r_ld rfl ty3 rfl (H.cellI 0 rfl rfl)) ?_
                    refine s_val rfl rfl (r_mv rfl rfl) ?_
                    refine s_val rfl rfl (r_le rfl rfl rfl) ?_
                    refine s_val rfl rfl (r_pickT rfl rfl rfl) ?_
                    refine s_val rfl rfl (r_mv rfl rfl) ?_
                    refine s_dec (d := 44) (p := p.a ≤ 7) rfl (fun h43 => ?_) (fun h43 => ?_)
                    · skip
                      refine s_val rfl rfl (r_fa rfl fo29_2 rfl) ?_
                      refine s_val rfl rfl (r_ld rfl ty9 rfl (H.cellI 0 rfl rfl)) ?_
                      refine s_val rfl rfl (r_lenS rfl un9 rfl) ?_
                      refine s_val rfl rfl (r_mv rfl rfl) ?_
                      refine s_val rfl rfl (r_le rfl rfl rfl) ?_
                      refine s_val rfl rfl (r_pickT rfl rfl rfl) ?_
                      refine s_val rfl rfl (r_as rfl rfl) ?_
                      refine s_nil ?_
                      refine q_then ?_
                      refine c_env [(4, .bool (decide (((p.s.size : Nat) : Int) ≤ 0)))] ⟨rfl, trivial⟩ ?_
                      refine c_ret ?_
                      refine q_ret1 rfl rfl ?_
                      replace H := H.keep 0
                      exact fin ⟨congrArg Value.bool (decide_eq_decide.2 (by unfold goodI; omega)), rfl⟩ H
                    · skip
                      refine s_no rfl rfl ?_
                      refine s_no rfl rfl ?_
                      refine s_no rfl rfl ?_
                      refine s_no rfl rfl ?_
                      refine s_no rfl rfl ?_
                      refine s_val rfl rfl (r_pickF rfl rfl rfl) ?_
                      refine s_val rfl rfl (r_as rfl rfl) ?_
                      refine s_nil ?_
                      refine q_then ?_
                      refine c_env [(4, .bool false)] ⟨rfl, trivial⟩ ?_
                      refine c_ret ?_
                      refine q_ret1 rfl rfl ?_
                      replace H := H.keep 0
                      exact fin ⟨congrArg Value.bool (decide_eq_false (by unfold goodI; omega)).symm, rfl⟩ H
                  · skip
                    refine s_no rfl rfl ?_
                    refine s_no rfl rfl ?_
                    refine s_no rfl rfl ?_
                    refine s_no rfl rfl ?_
                    refine s_val rfl rfl (r_pickF rfl rfl rfl) ?_
                    refine s_val rfl rfl (r_mv rfl rfl) ?_
                    refine s_no rfl rfl ?_
                    refine s_no rfl rfl ?_
                    refine s_no rfl rfl ?_
                    refine s_no rfl rfl ?_
                    refine s_no rfl rfl ?_
                    refine s_val rfl rfl (r_pickF rfl rfl rfl) ?_
                    refine s_val rfl rfl (r_as rfl rfl) ?_
                    refine s_nil ?_
                    refine q_then ?_
                    refine c_env [(4, .bool false)] ⟨rfl, trivial⟩ ?_
                    refine c_ret ?_
                    refine q_ret1 rfl rfl ?_
                    replace H := H.keep 0
                    exact fin ⟨congrArg Value.bool (decide_eq_false (by unfold goodI; omega)).symm, rfl⟩ H
                · skip
                  refine s_no rfl rfl ?_
                  refine s_no rfl rfl ?_
                  refine s_no rfl rfl ?_
                  refine s_no rfl rfl ?_
                  refine s_val rfl rfl (r_pickF rfl rfl rfl) ?_
                  refine s_val rfl rfl (r_mv rfl rfl) ?_
                  refine s_no rfl rfl ?_
                  refine s_no rfl rfl ?_
                  refine s_no rfl rfl ?_
                  refine s_no rfl rfl ?_
                  refine s_val rfl rfl (r_pickF rfl rfl rfl) ?_
                  refine s_val rfl rfl (r_mv rfl rfl) ?_
                  refine s_no rfl rfl ?_
                  refine s_no rfl rfl ?_
                  refine s_no rfl rfl ?_
                  refine s_no rfl rfl ?_
                  refine s_no rfl rfl ?_
                  refine s_val rfl rfl (r_pickF rfl rfl rfl) ?_
                  refine s_val rfl rfl (r_as rfl rfl) ?_
                  refine s_nil ?_
                  refine q_then ?_
                  refine c_env [(4, .bool false)] ⟨rfl, trivial⟩ ?_
                  refine c_ret ?_
                  refine q_ret1 rfl rfl ?_
                  replace H := H.keep 0
                  exact fin ⟨congrArg Value.bool (decide_eq_false (by unfold goodI; omega)).symm, rfl⟩ H
              · skip
                refine s_no rfl rfl ?_
                refine s_no rfl rfl ?_
                refine s_no rfl rfl ?_
                refine s_val rfl rfl (r_pickF rfl rfl rfl) ?_
                refine s_val rfl rfl (r_mv rfl rfl) ?_
                refine s_no rfl rfl ?_
                refine s_no rfl rfl ?_
                refine s_no rfl rfl ?_
                refine s_no rfl rfl ?_
                refine s_val rfl rfl (r_pickF rfl rfl rfl) ?_
                refine s_val rfl rfl (r_mv rfl rfl) ?_
                refine s_no rfl rfl ?_
                refine s_no rfl rfl ?_
                refine s_no rfl rfl ?_
                refine s_no rfl rfl ?_
                refine s_val rfl rfl (r_pickF rfl rfl rfl) ?_
                refine s_val rfl rfl (r_mv rfl rfl) ?_
                refine s_no rfl rfl ?_
                refine s_no rfl rfl ?_
                refine s_no rfl rfl ?_
                refine s_no rfl rfl ?_
                refine s_no rfl rfl ?_
                refine s_val rfl rfl (r_pickF rfl rfl rfl) ?_
                refine s_val rfl rfl (r_as rfl rfl) ?_
                refine s_nil ?_
                refine q_then ?_
                refine c_env [(4, .bool false)] ⟨rfl, trivial⟩ ?_
                refine c_ret ?_
                refine q_ret1 rfl rfl ?_
                replace H := H.keep 0
                exact fin ⟨congrArg Value.bool (decide_eq_false (by unfold goodI; omega)).symm, rfl⟩ H
            · skip
              refine c_skip ?_
              refine q_blockN ?_
              refine q_then ?_
              refine c_env [(2, .pointer (some ⟨b1, 0, none⟩)), (4, .bool false), (5, .int .i64 0), (6, .int .i64 0), (7, .int .i64 0)] ⟨rfl, rfl, rfl, rfl, rfl, trivial⟩ ?_
              refine c_seq ?_
              refine c_reg ?_
              refine s_val rfl rfl (r_fa rfl fo29_0 rfl) ?_
              refine s_val rfl rfl (r_ld rfl ty3 rfl (H.cellI 0 rfl rfl)) ?_
              refine s_val rfl rfl (r_ge rfl rfl rfl) ?_
              refine s_val rfl rfl (r_mv rfl rfl) ?_
              refine s_dec (d := 27) (p := (0 : Int) ≤ p.op) rfl (fun h44 => ?_) (fun h44 => ?_)
              · skip
                refine s_val rfl rfl (r_fa rfl fo29_0 rfl) ?_
                refine s_val rfl rfl (r_ld rfl ty3 rfl (H.cellI 0 rfl rfl)) ?_
                refine s_val rfl rfl (r_le rfl rfl rfl) ?_
                refine s_val rfl rfl (r_pickT rfl rfl rfl) ?_
                refine s_val rfl rfl (r_mv rfl rfl) ?_
                refine s_dec (d := 32) (p := p.op ≤ 23) rfl (fun h45 => ?_) (fun h45 => ?_)
                · skip
                  refine s_val rfl rfl (r_fa rfl fo29_1 rfl) ?_
                  refine s_val rfl rfl (r_ld rfl ty3 rfl (H.cellI 0 rfl rfl)) ?_
                  refine s_val rfl rfl (r_mv rfl rfl) ?_
                  refine s_val rfl rfl (r_ge rfl rfl rfl) ?_
                  refine s_val rfl rfl (r_pickT rfl rfl rfl) ?_
                  refine s_val rfl rfl (r_mv rfl rfl) ?_
                  refine s_dec (d := 38) (p := (0 : Int) ≤ p.a) rfl (fun h46 => ?_) (fun h46 => ?_)
                  · skip
                    refine s_val rfl rfl (r_fa rfl fo29_1 rfl) ?_
                    refine s_val rfl rfl (r_ld rfl ty3 rfl (H.cellI 0 rfl rfl)) ?_
                    refine s_val rfl rfl (r_mv rfl rfl) ?_
                    refine s_val rfl rfl (r_le rfl rfl rfl) ?_
                    refine s_val rfl rfl (r_pickT rfl rfl rfl) ?_
                    refine s_val rfl rfl (r_mv rfl rfl) ?_
                    refine s_dec (d := 44) (p := p.a ≤ 0) rfl (fun h47 => ?_) (fun h47 => ?_)
                    · skip
                      refine s_val rfl rfl (r_fa rfl fo29_2 rfl) ?_
                      refine s_val rfl rfl (r_ld rfl ty9 rfl (H.cellI 0 rfl rfl)) ?_
                      refine s_val rfl rfl (r_lenS rfl un9 rfl) ?_
                      refine s_val rfl rfl (r_mv rfl rfl) ?_
                      refine s_val rfl rfl (r_le rfl rfl rfl) ?_
                      refine s_val rfl rfl (r_pickT rfl rfl rfl) ?_
                      refine s_val rfl rfl (r_as rfl rfl) ?_
                      refine s_nil ?_
                      refine q_then ?_
                      refine c_env [(4, .bool (decide (((p.s.size : Nat) : Int) ≤ 0)))] ⟨rfl, trivial⟩ ?_
                      refine c_ret ?_
                      refine q_ret1 rfl rfl ?_
                      replace H := H.keep 0
                      exact fin ⟨congrArg Value.bool (decide_eq_decide.2 (by unfold goodI; omega)), rfl⟩ H
                    · skip
                      refine s_no rfl rfl ?_
                      refine s_no rfl rfl ?_
                      refine s_no rfl rfl ?_
                      refine s_no rfl rfl ?_
                      refine s_no rfl rfl ?_
                      refine s_val rfl rfl (r_pickF rfl rfl rfl) ?_
                      refine s_val rfl rfl (r_as rfl rfl) ?_
                      refine s_nil ?_
                      refine q_then ?_
                      refine c_env [(4, .bool false)] ⟨rfl, trivial⟩ ?_
                      refine c_ret ?_
                      refine q_ret1 rfl rfl ?_
                      replace H := H.keep 0
                      exact fin ⟨congrArg Value.bool (decide_eq_false (by unfold goodI; omega)).symm, rfl⟩ H
                  · skip
                    refine s_no rfl rfl ?_
                    refine s_no rfl rfl ?_
                    refine s_no rfl rfl ?_
                    refine s_no rfl rfl ?_
                    refine s_val rfl rfl (r_pickF rfl rfl rfl) ?_
                    refine s_val rfl rfl (r_mv rfl rfl) ?_
                    refine s_no rfl rfl ?_
                    refine s_no rfl rfl ?_
                    refine s_no rfl rfl ?_
                    refine s_no rfl rfl ?_
                    refine s_no rfl rfl ?_
                    refine s_val rfl rfl (r_pickF rfl rfl rfl) ?_
                    refine s_val rfl rfl (r_as rfl rfl) ?_
                    refine s_nil ?_
                    refine q_then ?_
                    refine c_env [(4, .bool false)] ⟨rfl, trivial⟩ ?_
                    refine c_ret ?_
                    refine q_ret1 rfl rfl ?_
                    replace H := H.keep 0
                    exact fin ⟨congrArg Value.bool (decide_eq_false (by unfold goodI; omega)).symm, rfl⟩ H
                · skip
                  refine s_no rfl rfl ?_
                  refine s_no rfl rfl ?_
                  refine s_no rfl rfl ?_
                  refine s_no rfl rfl ?_
                  refine s_val rfl rfl (r_pickF rfl rfl rfl) ?_
                  refine s_val rfl rfl (r_mv rfl rfl) ?_
                  refine s_no rfl rfl ?_
                  refine s_no rfl rfl ?_
                  refine s_no rfl rfl ?_
                  refine s_no rfl rfl ?_
                  refine s_val rfl rfl (r_pickF rfl rfl rfl) ?_
                  refine s_val rfl rfl (r_mv rfl rfl) ?_
                  refine s_no rfl rfl ?_
                  refine s_no rfl rfl ?_
                  refine s_no rfl rfl ?_
                  refine s_no rfl rfl ?_
                  refine s_no rfl rfl ?_
                  refine s_val rfl rfl (r_pickF rfl rfl rfl) ?_
                  refine s_val rfl rfl (r_as rfl rfl) ?_
                  refine s_nil ?_
                  refine q_then ?_
                  refine c_env [(4, .bool false)] ⟨rfl, trivial⟩ ?_
                  refine c_ret ?_
                  refine q_ret1 rfl rfl ?_
                  replace H := H.keep 0
                  exact fin ⟨congrArg Value.bool (decide_eq_false (by unfold goodI; omega)).symm, rfl⟩ H
              · skip
                refine s_no rfl rfl ?_
                refine s_no rfl rfl ?_
                refine s_no rfl rfl ?_
                refine s_val rfl rfl (r_pickF rfl rfl rfl) ?_
                refine s_val rfl rfl (r_mv rfl rfl) ?_
                refine s_no rfl rfl ?_
                refine s_no rfl rfl ?_
                refine s_no rfl rfl ?_
                refine s_no rfl rfl ?_
                refine s_val rfl rfl (r_pickF rfl rfl rfl) ?_
                refine s_val rfl rfl (r_mv rfl rfl) ?_
                refine s_no rfl rfl ?_
                refine s_no rfl rfl ?_
                refine s_no rfl rfl ?_
                refine s_no rfl rfl ?_
                refine s_val rfl rfl (r_pickF rfl rfl rfl) ?_
                refine s_val rfl rfl (r_mv rfl rfl) ?_
                refine s_no rfl rfl ?_
                refine s_no rfl rfl ?_
                refine s_no rfl rfl ?_
                refine s_no rfl rfl ?_
                refine s_no rfl rfl ?_
                refine s_val rfl rfl (r_pickF rfl rfl rfl) ?_
                refine s_val rfl rfl (r_as rfl rfl) ?_
                refine s_nil ?_
                refine q_then ?_
                refine c_env [(4, .bool false)] ⟨rfl, trivial⟩ ?_
                refine c_ret ?_
                refine q_ret1 rfl rfl ?_
                replace H := H.keep 0
                exact fin ⟨congrArg Value.bool (decide_eq_false (by unfold goodI; omega)).symm, rfl⟩ H
          · skip
            refine c_reg ?_
            refine s_val rfl rfl (r_eq rfl rfl rfl) ?_
            refine s_val rfl rfl (r_as rfl rfl) ?_
            refine s_nil ?_
            refine q_then ?_
            refine c_env [(2, .pointer (some ⟨b1, 0, none⟩)), (4, .bool false), (5, .int .i64 0), (6, .int .i64 0), (7, .int .i64 0), (21, .bool (decide (p.op = 22)))] ⟨rfl, rfl, rfl, rfl, rfl, rfl, trivial⟩ ?_
            refine c_dec (p := p.op = 22) rfl (fun h48 => ?_) (fun h48 => ?_)
            · skip
              refine c_reg ?_
              refine s_val rfl rfl (r_as rfl rfl) ?_
              refine s_nil ?_
              refine q_blockN ?_
              refine q_then ?_
              refine c_env [(2, .pointer (some ⟨b1, 0, none⟩)), (4, .bool false), (5, .int .i64 0), (6, .int .i64 7), (7, .int .i64 0)] ⟨rfl, rfl, rfl, rfl, rfl, trivial⟩ ?_
              refine c_seq ?_
              refine c_reg ?_
              refine s_val rfl rfl (r_fa rfl fo29_0 rfl) ?_
              refine s_val rfl rfl (r_ld rfl ty3 rfl (H.cellI 0 rfl rfl)) ?_
              refine s_val rfl rfl (r_ge rfl rfl rfl) ?_
              refine s_val rfl rfl (r_mv rfl rfl) ?_
              refine s_dec (d := 27) (p := (0 : Int) ≤ p.op) rfl (fun h49 => ?_) (fun h49 => ?_)
              · skip
                refine s_val rfl rfl (r_fa rfl fo29_0 rfl) ?_
                refine s_val rfl rfl (r_ld rfl ty3 rfl (H.cellI 0 rfl rfl)) ?_
                refine s_val rfl rfl (r_le rfl rfl rfl) ?_
                refine s_val rfl rfl (r_pickT rfl rfl rfl) ?_
                refine s_val rfl rfl (r_mv rfl rfl) ?_
                refine s_dec (d := 32) (p := p.op ≤ 23) rfl (fun h50 => ?_) (fun h50 => ?_)
                · skip
                  refine s_val rfl rfl (r_fa rfl fo29_1 rfl) ?_
                  refine s_val rfl rfl (r_ld rfl ty3 rfl (H.cellI 0 rfl rfl)) ?_
                  refine s_val rfl rfl (r_mv rfl rfl) ?_
                  refine s_val rfl rfl (r_ge rfl rfl rfl) ?_
                  refine s_val rfl rfl (r_pickT rfl rfl rfl) ?_
                  refine s_val rfl rfl (r_mv rfl rfl) ?_
                  refine s_dec (d := 38) (p := (0 : Int) ≤ p.a) rfl (fun h51 => ?_) (fun h51 => ?_)
                  · skip
                    refine s_val rfl rfl (r_fa rfl fo29_1 rfl) ?_
                    refine s_val rfl rfl (r_ld rfl ty3 rfl (H.cellI 0 rfl rfl)) ?_
                    refine s_val rfl rfl (r_mv rfl rfl) ?_
                    refine s_val rfl rfl (r_le rfl rfl rfl) ?_
                    refine s_val rfl rfl (r_pickT rfl rfl rfl) ?_
                    refine s_val rfl rfl (r_mv rfl rfl) ?_
                    refine s_dec (d := 44) (p := p.a ≤ 7) rfl (fun h52 => ?_) (fun h52 => ?_)
                    · skip
                      refine s_val rfl rfl (r_fa rfl fo29_2 rfl) ?_
                      refine s_val rfl rfl (r_ld rfl ty9 rfl (H.cellI 0 rfl rfl)) ?_
                      refine s_val rfl rfl (r_lenS rfl un9 rfl) ?_
                      refine s_val rfl rfl (r_mv rfl rfl) ?_
                      refine s_val rfl rfl (r_le rfl rfl rfl) ?_
                      refine s_val rfl rfl (r_pickT rfl rfl rfl) ?_
                      refine s_val rfl rfl (r_as rfl rfl) ?_
                      refine s_nil ?_
                      refine q_then ?_
                      refine c_env [(4, .bool (decide (((p.s.size : Nat) : Int) ≤ 0)))] ⟨rfl, trivial⟩ ?_
                      refine c_ret ?_
                      refine q_ret1 rfl rfl ?_
                      replace H := H.keep 0
                      exact fin ⟨congrArg Value.bool (decide_eq_decide.2 (by unfold goodI; omega)), rfl⟩ H
                    · skip
                      refine s_no rfl rfl ?_
                      refine s_no rfl rfl ?_
                      refine s_no rfl rfl ?_
                      refine s_no rfl rfl ?_
                      refine s_no rfl rfl ?_
                      refine s_val rfl rfl (r_pickF rfl rfl rfl) ?_
                      refine s_val rfl rfl (r_as rfl rfl) ?_
                      refine s_nil ?_
                      refine q_then ?_
                      refine c_env [(4, .bool false)] ⟨rfl, trivial⟩ ?_
                      refine c_ret ?_
                      refine q_ret1 rfl rfl ?_
                      replace H := H.keep 0
                      exact fin ⟨congrArg Value.bool (decide_eq_false (by unfold goodI; omega)).symm, rfl⟩ H
                  · skip
                    refine s_no rfl rfl ?_
                    refine s_no rfl rfl ?_
                    refine s_no rfl rfl ?_
                    refine s_no rfl rfl ?_
                    refine s_val rfl rfl (r_pickF rfl rfl rfl) ?_
                    refine s_val rfl rfl (r_mv rfl rfl) ?_
                    refine s_no rfl rfl ?_
                    refine s_no rfl rfl ?_
                    refine s_no rfl rfl ?_
                    refine s_no rfl rfl ?_
                    refine s_no rfl rfl ?_
                    refine s_val rfl rfl (r_pickF rfl rfl rfl) ?_
                    refine s_val rfl rfl (r_as rfl rfl) ?_
                    refine s_nil ?_
                    refine q_then ?_
                    refine c_env [(4, .bool false)] ⟨rfl, trivial⟩ ?_
                    refine c_ret ?_
                    refine q_ret1 rfl rfl ?_
                    replace H := H.keep 0
                    exact fin ⟨congrArg Value.bool (decide_eq_false (by unfold goodI; omega)).symm, rfl⟩ H
                · skip
                  refine s_no rfl rfl ?_
                  refine s_no rfl rfl ?_
                  refine s_no rfl rfl ?_
                  refine s_no rfl rfl ?_
                  refine s_val rfl rfl (r_pickF rfl rfl rfl) ?_
                  refine s_val rfl rfl (r_mv rfl rfl) ?_
                  refine s_no rfl rfl ?_
                  refine s_no rfl rfl ?_
                  refine s_no rfl rfl ?_
                  refine s_no rfl rfl ?_
                  refine s_val rfl rfl (r_pickF rfl rfl rfl) ?_
                  refine s_val rfl rfl (r_mv rfl rfl) ?_
                  refine s_no rfl rfl ?_
                  refine s_no rfl rfl ?_
                  refine s_no rfl rfl ?_
                  refine s_no rfl rfl ?_
                  refine s_no rfl rfl ?_
                  refine s_val rfl rfl (r_pickF rfl rfl rfl) ?_
                  refine s_val rfl rfl (r_as rfl rfl) ?_
                  refine s_nil ?_
                  refine q_then ?_
                  refine c_env [(4, .bool false)] ⟨rfl, trivial⟩ ?_
                  refine c_ret ?_
                  refine q_ret1 rfl rfl ?_
                  replace H := H.keep 0
                  exact fin ⟨congrArg Value.bool (decide_eq_false (by unfold goodI; omega)).symm, rfl⟩ H
              · skip
                refine s_no rfl rfl ?_
                refine s_no rfl rfl ?_
                refine s_no rfl rfl ?_
                refine s_val rfl rfl (r_pickF rfl rfl rfl) ?_
                refine s_val rfl rfl (r_mv rfl rfl) ?_
                refine s_no rfl rfl ?_
                refine s_no rfl rfl ?_
                refine s_no rfl rfl ?_
                refine s_no rfl rfl ?_
                refine s_val rfl rfl (r_pickF rfl rfl rfl) ?_
                refine s_val rfl rfl (r_mv rfl rfl) ?_
                refine s_no rfl rfl ?_
                refine s_no rfl rfl ?_
                refine s_no rfl rfl ?_
                refine s_no rfl rfl ?_
                refine s_val rfl rfl (r_pickF rfl rfl rfl) ?_
                refine s_val rfl rfl (r_mv rfl rfl) ?_
                refine s_no rfl rfl ?_
                refine s_no rfl rfl ?_
                refine s_no rfl rfl ?_
                refine s_no rfl rfl ?_
                refine s_no rfl rfl ?_
                refine s_val rfl rfl (r_pickF rfl rfl rfl) ?_
                refine s_val rfl rfl (r_as rfl rfl) ?_
                refine s_nil ?_
                refine q_then ?_
                refine c_env [(4, .bool false)] ⟨rfl, trivial⟩ ?_
                refine c_ret ?_
                refine q_ret1 rfl rfl ?_
                replace H := H.keep 0
                exact fin ⟨congrArg Value.bool (decide_eq_false (by unfold goodI; omega)).symm, rfl⟩ H
            · skip
              refine c_skip ?_
              refine q_blockN ?_
              refine q_then ?_
              refine c_env [(2, .pointer (some ⟨b1, 0, none⟩)), (4, .bool false), (5, .int .i64 0), (6, .int .i64 0), (7, .int .i64 0)] ⟨rfl, rfl, rfl, rfl, rfl, trivial⟩ ?_
              refine c_seq ?_
              refine c_reg ?_
              refine s_val rfl rfl (r_fa rfl fo29_0 rfl) ?_
              refine s_val rfl rfl (r_ld rfl ty3 rfl (H.cellI 0 rfl rfl)) ?_
              refine s_val rfl rfl (r_ge rfl rfl rfl) ?_
              refine s_val rfl rfl (r_mv rfl rfl) ?_
              refine s_dec (d := 27) (p := (0 : Int) ≤ p.op) rfl (fun h53 => ?_) (fun h53 => ?_)
              · skip
                refine s_val rfl rfl (r_fa rfl fo29_0 rfl) ?_
                refine s_val rfl rfl (r_ld rfl ty3 rfl (H.cellI 0 rfl rfl)) ?_
                refine s_val rfl rfl (r_le rfl rfl rfl) ?_
                refine s_val rfl rfl (r_pickT rfl rfl rfl) ?_
                refine s_val rfl rfl (r_mv rfl rfl) ?_
                refine s_dec (d := 32) (p := p.op ≤ 23) rfl (fun h54 => ?_) (fun h54 => ?_)
                · skip
                  refine s_val rfl rfl (r_fa rfl fo29_1 rfl) ?_
                  refine s_val rfl rfl (r_ld rfl ty3 rfl (H.cellI 0 rfl rfl)) ?_
                  refine s_val rfl rfl (r_mv rfl rfl) ?_
                  refine s_val rfl rfl (r_ge rfl rfl rfl) ?_
                  refine s_val rfl rfl (r_pickT rfl rfl rfl) ?_
                  refine s_val rfl rfl (r_mv rfl rfl) ?_
                  refine s_dec (d := 38) (p := (0 : Int) ≤ p.a) rfl (fun h55 => ?_) (fun h55 => ?_)
                  · skip
                    refine s_val rfl rfl (r_fa rfl fo29_1 rfl) ?_
                    refine s_val rfl rfl (r_ld rfl ty3 rfl (H.cellI 0 rfl rfl)) ?_
                    refine s_val rfl rfl (r_mv rfl rfl) ?_
                    refine s_val rfl rfl (r_le rfl rfl rfl) ?_
                    refine s_val rfl rfl (r_pickT rfl rfl rfl) ?_
                    refine s_val rfl rfl (r_mv rfl rfl) ?_
                    refine s_dec (d := 44) (p := p.a ≤ 0) rfl (fun h56 => ?_) (fun h56 => ?_)
                    · skip
                      refine s_val rfl rfl (r_fa rfl fo29_2 rfl) ?_
                      refine s_val rfl rfl (r_ld rfl ty9 rfl (H.cellI 0 rfl rfl)) ?_
                      refine s_val rfl rfl (r_lenS rfl un9 rfl) ?_
                      refine s_val rfl rfl (r_mv rfl rfl) ?_
                      refine s_val rfl rfl (r_le rfl rfl rfl) ?_
                      refine s_val rfl rfl (r_pickT rfl rfl rfl) ?_
                      refine s_val rfl rfl (r_as rfl rfl) ?_
                      refine s_nil ?_
                      refine q_then ?_
                      refine c_env [(4, .bool (decide (((p.s.size : Nat) : Int) ≤ 0)))] ⟨rfl, trivial⟩ ?_
                      refine c_ret ?_
                      refine q_ret1 rfl rfl ?_
                      replace H := H.keep 0
                      exact fin ⟨congrArg Value.bool (decide_eq_decide.2 (by unfold goodI; omega)), rfl⟩ H
                    · skip
                      refine s_no rfl rfl ?_
                      refine s_no rfl rfl ?_
                      refine s_no rfl rfl ?_
                      refine s_no rfl rfl ?_
                      refine s_no rfl rfl ?_
                      refine s_val rfl rfl (r_pickF rfl rfl rfl) ?_
                      refine s_val rfl rfl (r_as rfl rfl) ?_
                      refine s_nil ?_
                      refine q_then ?_
                      refine c_env [(4, .bool false)] ⟨rfl, trivial⟩ ?_
                      refine c_ret ?_
                      refine q_ret1 rfl rfl ?_
                      replace H := H.keep 0
                      exact fin ⟨congrArg Value.bool (decide_eq_false (by unfold goodI; omega)).symm, rfl⟩ H
                  · skip
                    refine s_no rfl rfl ?_
                    refine s_no rfl rfl ?_
                    refine s_no rfl rfl ?_
                    refine s_no rfl rfl ?_
                    refine s_val rfl rfl (r_pickF rfl rfl rfl) ?_
                    refine s_val rfl rfl (r_mv rfl rfl) ?_
                    refine s_no rfl rfl ?_
                    refine s_no rfl rfl ?_
                    refine s_no rfl rfl ?_
                    refine s_no rfl rfl ?_
                    refine s_no rfl rfl ?_
                    refine s_val rfl rfl (r_pickF rfl rfl rfl) ?_
                    refine s_val rfl rfl (r_as rfl rfl) ?_
                    refine s_nil ?_
                    refine q_then ?_
                    refine c_env [(4, .bool false)] ⟨rfl, trivial⟩ ?_
                    refine c_ret ?_
                    refine q_ret1 rfl rfl ?_
                    replace H := H.keep 0
                    exact fin ⟨congrArg Value.bool (decide_eq_false (by unfold goodI; omega)).symm, rfl⟩ H
                · skip
                  refine s_no rfl rfl ?_
                  refine s_no rfl rfl ?_
                  refine s_no rfl rfl ?_
                  refine s_no rfl rfl ?_
                  refine s_val rfl rfl (r_pickF rfl rfl rfl) ?_
                  refine s_val rfl rfl (r_mv rfl rfl) ?_
                  refine s_no rfl rfl ?_
                  refine s_no rfl rfl ?_
                  refine s_no rfl rfl ?_
                  refine s_no rfl rfl ?_
                  refine s_val rfl rfl (r_pickF rfl rfl rfl) ?_
                  refine s_val rfl rfl (r_mv rfl rfl) ?_
                  refine s_no rfl rfl ?_
                  refine s_no rfl rfl ?_
                  refine s_no rfl rfl ?_
                  refine s_no rfl rfl ?_
                  refine s_no rfl rfl ?_
                  refine s_val rfl rfl (r_pickF rfl rfl rfl) ?_
                  refine s_val rfl rfl (r_as rfl rfl) ?_
                  refine s_nil ?_
                  refine q_then ?_
                  refine c_env [(4, .bool false)] ⟨rfl, trivial⟩ ?_
                  refine c_ret ?_
                  refine q_ret1 rfl rfl ?_
                  replace H := H.keep 0
                  exact fin ⟨congrArg Value.bool (decide_eq_false (by unfold goodI; omega)).symm, rfl⟩ H
              · skip
                refine s_no rfl rfl ?_
                refine s_no rfl rfl ?_
                refine s_no rfl rfl ?_
                refine s_val rfl rfl (r_pickF rfl rfl rfl) ?_
                refine s_val rfl rfl (r_mv rfl rfl) ?_
                refine s_no rfl rfl ?_
                refine s_no rfl rfl ?_
                refine s_no rfl rfl ?_
                refine s_no rfl rfl ?_
                refine s_val rfl rfl (r_pickF rfl rfl rfl) ?_
                refine s_val rfl rfl (r_mv rfl rfl) ?_
                refine s_no rfl rfl ?_
                refine s_no rfl rfl ?_
                refine s_no rfl rfl ?_
                refine s_no rfl rfl ?_
                refine s_val rfl rfl (r_pickF rfl rfl rfl) ?_
                refine s_val rfl rfl (r_mv rfl rfl) ?_
                refine s_no rfl rfl ?_
                refine s_no rfl rfl ?_
                refine s_no rfl rfl ?_
                refine s_no rfl rfl ?_
                refine s_no rfl rfl ?_
                refine s_val rfl rfl (r_pickF rfl rfl rfl) ?_
                refine s_val rfl rfl (r_as rfl rfl) ?_
                refine s_nil ?_
                refine q_then ?_
                refine c_env [(4, .bool false)] ⟨rfl, trivial⟩ ?_
                refine c_ret ?_
                refine q_ret1 rfl rfl ?_
                replace H := H.keep 0
                exact fin ⟨congrArg Value.bool (decide_eq_false (by unfold goodI; omega)).symm, rfl⟩ H

set_option maxHeartbeats 1000000 in
theorem pbad_ok (vxs : Value) (xs : List Ins) :
    Cn Tryz.prog 67 [vxs] [] [rsl kIns vxs xs] (fun v Bs => v = .int .i64 (badI xs) ∧ Bs = []) := by
  intro w0 F0 H
  obtain ⟨A1, c2, rfl, hc3, hm4, hp5⟩ := H.fR 0 rfl
  refine enter (args := [.slice A1 xs.length c2]) Tryz.func67 rfl rfl (Nat.le_of_ble_eq_true rfl) ?_
  refine c_seq ?_
  refine c_reg ?_
  refine s_val rfl rfl (r_as rfl rfl) ?_
  refine s_nil ?_
  refine q_then ?_
  replace H : Hd _ _ _ [] [rsl kIns (.slice A1 xs.length c2) xs] := H
  refine c_env [(0, .slice A1 xs.length c2), (2, .int .i64 0)] ⟨rfl, rfl, trivial⟩ ?_
  refine c_seq ?_
  refine c_seq ?_
  refine c_reg ?_
  refine s_val rfl rfl (r_mv rfl rfl) ?_
  refine s_val rfl rfl (r_mv rfl rfl) ?_
  refine s_val rfl rfl (r_lenL rfl un22 rfl) ?_
  refine s_val rfl rfl (r_min (z := min ((xs.length : Nat) : Int) 40) rfl rfl rfl rfl) ?_
  refine s_val rfl rfl (r_cutP rfl sl22 rfl rfl (by omega) (by omega) rfl) ?_
  refine s_val rfl rfl (r_lenL rfl un22 rfl) ?_
  refine s_val rfl rfl (r_mv rfl rfl) ?_
  refine s_nil ?_
  refine q_then ?_
  refine c_env [(0, .slice A1 xs.length c2), (2, .int .i64 0), (9, .slice A1 ((min ((xs.length : Nat) : Int) 40).toNat) c2), (10, .int .i64 (((min ((xs.length : Nat) : Int) 40).toNat : Nat) : Int)), (11, .int .i64 0)] ⟨rfl, rfl, rfl, rfl, rfl, trivial⟩ ?_
  refine c_block ?_
  refine c_loop (σ := Nat) (fun k => [(0, .slice A1 xs.length c2), (9, .slice A1 ((min ((xs.length : Nat) : Int) 40).toNat) c2), (10, .int .i64 (((min ((xs.length : Nat) : Int) 40).toNat : Nat) : Int)), (11, .int .i64 ((k : Nat) : Int))]) (fun k w => (Hd w0 F0 w [] [rsl kIns (.slice A1 xs.length c2) xs]) ∧ (k ≤ xs.length ∧ k ≤ 40) ∧ (∀ y ∈ xs.take k, badT xs.length y = false)) (fun k => xs.length - k) 0 ⟨rfl, rfl, rfl, rfl, trivial⟩ ⟨H, by omega, by simp⟩ ?_
  rintro k w ⟨H, hk, hn⟩
  refine c_seq ?_
  refine c_reg ?_
  refine s_val rfl rfl (r_lt rfl rfl rfl) ?_
  refine s_nil ?_
  refine q_then ?_
  refine c_env [(0, .slice A1 xs.length c2), (9, .slice A1 ((min ((xs.length : Nat) : Int) 40).toNat) c2), (10, .int .i64 (((min ((xs.length : Nat) : Int) 40).toNat : Nat) : Int)), (11, .int .i64 ((k : Nat) : Int)), (12, .bool (decide (((k : Nat) : Int) < (((min ((xs.length : Nat) : Int) 40).toNat : Nat) : Int))))] ⟨rfl, rfl, rfl, rfl, rfl, trivial⟩ ?_
  refine c_seq ?_
  refine c_dec (p := ((k : Nat) : Int) < (((min ((xs.length : Nat) : Int) 40).toNat : Nat) : Int)) rfl (fun h6 => ?_) (fun h6 => ?_)
  · skip
    refine c_skip ?_
    refine q_then ?_
    refine c_env [(0, .slice A1 xs.length c2), (9, .slice A1 ((min ((xs.length : Nat) : Int) 40).toNat) c2), (10, .int .i64 (((min ((xs.length : Nat) : Int) 40).toNat : Nat) : Int)), (11, .int .i64 ((k : Nat) : Int))] ⟨rfl, rfl, rfl, rfl, trivial⟩ ?_
    refine c_seq ?_
    refine c_block ?_
    refine c_seq ?_
    refine c_reg ?_
    refine s_val rfl rfl (r_mv rfl rfl) ?_
    obtain ⟨x7, hx8⟩ : ∃ z9, xs[k]? = some z9 := ⟨_, List.getElem?_eq_getElem (show k < xs.length by omega)⟩
    have th9 := H.thR 0 rfl hx8
    refine s_val rfl rfl (r_iaE (p := oOf A1 + k * 3) rfl sl22 rfl rfl (by omega) (by omega) th9 rfl) ?_
    refine s_val rfl rfl (r_ldA (cs := [.int .i64 x7.op, .int .i64 x7.a, .string x7.s]) rfl ty29 rfl rfl (H.elsR 0 rfl hx8 rfl)) ?_
    refine s_alloc rfl rfl rfl zr29 H (fun b10 w H => ?_)
    refine s_val rfl rfl (r_as rfl rfl) ?_
    refine s_st rfl rfl rfl ty29 rfl rfl H rfl (Nat.le_of_ble_eq_true rfl) (fun u hu => by simp [Value.cells] at hu; rcases hu with rfl | rfl | rfl <;> rfl) (fun w H => ?_)
    replace H : Hd _ _ _ [blk b10 [.int .i64 x7.op, .int .i64 x7.a, .string x7.s] 29] [rsl kIns (.slice A1 xs.length c2) xs] := H
    refine s_nil ?_
    refine q_then ?_
    refine c_env [(0, .slice A1 xs.length c2), (3, .int .i64 ((k : Nat) : Int)), (4, .pointer (some ⟨b10, 0, none⟩)), (9, .slice A1 ((min ((xs.length : Nat) : Int) 40).toNat) c2), (10, .int .i64 (((min ((xs.length : Nat) : Int) 40).toNat : Nat) : Int)), (11, .int .i64 ((k : Nat) : Int))] ⟨rfl, rfl, rfl, rfl, rfl, rfl, trivial⟩ ?_
    refine c_seq ?_
    refine c_reg ?_
    refine s_val rfl rfl (r_ldA (cs := [.int .i64 x7.op, .int .i64 x7.a, .string x7.s]) rfl ty29 rfl rfl (H.cellsI 0 rfl rfl)) ?_
    refine s_val rfl rfl (r_mv rfl rfl) ?_
    refine s_val rfl rfl (r_lenL rfl un22 rfl) ?_
    refine sc (pmay_ok x7 ((xs.length : Nat) : Int)) H l0 rfl rfl (e_fn kn84 rfl rfl) ?_
    rintro _ _ w ⟨rfl, rfl⟩ H
    refine s_val rfl rfl (r_notP rfl rfl) ?_
    refine s_nil ?_
    refine q_then ?_
    refine c_env [(0, .slice A1 xs.length c2), (3, .int .i64 ((k : Nat) : Int)), (9, .slice A1 ((min ((xs.length : Nat) : Int) 40).toNat) c2), (10, .int .i64 (((min ((xs.length : Nat) : Int) 40).toNat : Nat) : Int)), (11, .int .i64 ((k : Nat) : Int)), (20, .bool (decide (¬ (goodI x7 ((xs.length : Nat) : Int)))))] ⟨rfl, rfl, rfl, rfl, rfl, rfl, trivial⟩ ?_
    refine c_dec (p := ¬ (goodI x7 ((xs.length : Nat) : Int))) rfl (fun h11 => ?_) (fun h11 => ?_)
    · skip
      refine c_seq ?_
      refine c_reg ?_
      refine s_val rfl rfl (r_mv rfl rfl) ?_
      refine s_val rfl rfl (r_as rfl rfl) ?_
      refine s_nil ?_
      refine q_then ?_
      refine c_env [(0, .slice A1 xs.length c2), (2, .int .i64 ((k : Nat) : Int)), (9, .slice A1 ((min ((xs.length : Nat) : Int) 40).toNat) c2), (10, .int .i64 (((min ((xs.length : Nat) : Int) 40).toNat : Nat) : Int)), (11, .int .i64 ((k : Nat) : Int))] ⟨rfl, rfl, rfl, rfl, rfl, trivial⟩ ?_
      refine c_ret ?_
      refine q_blockR ?_
      refine q_thenR ?_
      refine q_thenR ?_
      refine q_blockR ?_
      refine q_thenR ?_
      refine q_ret1 rfl rfl ?_
      replace H := H.keep 0
      exact fin ⟨by rw [badI_hit (by omega) hn hx8 (by simpa using h11)], rfl⟩ H
    · skip
      refine c_skip ?_
      refine q_blockN ?_
      refine q_then ?_
      refine c_env [(0, .slice A1 xs.length c2), (9, .slice A1 ((min ((xs.length : Nat) : Int) 40).toNat) c2), (10, .int .i64 (((min ((xs.length : Nat) : Int) 40).toNat : Nat) : Int)), (11, .int .i64 ((k : Nat) : Int))] ⟨rfl, rfl, rfl, rfl, trivial⟩ ?_
      refine c_reg ?_
      refine s_val rfl rfl (r_add (z := ((k + 1 : Nat) : Int)) rfl rfl rfl (by rw [w64 (by omega) (by omega)]; omega)) ?_
      refine s_val rfl rfl (r_mv rfl rfl) ?_
      refine s_nil ?_
      replace H := H.keep 0
      exact q_round (s := k) (k + 1) ⟨rfl, rfl, rfl, rfl, trivial⟩ ⟨H, by omega, badT_good hn hx8 (by simpa using h11)⟩ (by (try dsimp only); omega)
  · skip
    refine c_exit ?_
    refine q_thenE ?_
    refine q_thenE ?_
    refine q_blockE ?_
    refine q_then ?_
    refine c_env [(0, .slice A1 xs.length c2)] ⟨rfl, trivial⟩ ?_
    refine c_seq ?_
    refine c_seq ?_
    refine c_reg ?_
    refine s_val rfl rfl (r_mv rfl rfl) ?_
    refine s_val rfl rfl (r_lenL rfl un22 rfl) ?_
    refine s_val rfl rfl (r_gt rfl rfl rfl) ?_
    refine s_nil ?_
    refine q_then ?_
    refine c_env [(25, .bool (decide ((40 : Int) < ((xs.length : Nat) : Int))))] ⟨rfl, trivial⟩ ?_
    refine c_dec (p := (40 : Int) < ((xs.length : Nat) : Int)) rfl (fun h12 => ?_) (fun h12 => ?_)
    · skip
      refine c_seq ?_
      refine c_reg ?_
      refine s_val rfl rfl (r_as rfl rfl) ?_
      refine s_nil ?_
      refine q_then ?_
      refine c_env [(2, .int .i64 40)] ⟨rfl, trivial⟩ ?_
      refine c_ret ?_
      refine q_thenR ?_
      refine q_ret1 rfl rfl ?_
      exact fin ⟨by rw [badI_none (k := k) (by omega) hn, if_pos (by omega)], rfl⟩ H
    · skip
      refine c_skip ?_
      refine q_then ?_
      refine c_env [] trivial ?_
      refine c_seq ?_
      refine c_reg ?_
      refine s_val rfl rfl (r_as rfl rfl) ?_
      refine s_nil ?_
      refine q_then ?_
      refine c_env [(2, .int .i64 (-1))] ⟨rfl, trivial⟩ ?_
      refine c_ret ?_
      refine q_ret1 rfl rfl ?_
      exact fin ⟨by rw [badI_none (k := k) (by omega) hn, if_neg (by omega)], rfl⟩ H

set_option maxHeartbeats 1000000 in
theorem pMay_ok (vxs : Value) (xs : List Ins) :
    Cn Tryz.prog 45 [vxs] [] [rsl kIns vxs xs] (fun v Bs => v = .bool (decide (badI xs < 0)) ∧ Bs = []) := by
  intro w0 F0 H
  obtain ⟨A1, c2, rfl, hc3, hm4, hp5⟩ := H.fR 0 rfl
  refine enter (args := [.slice A1 xs.length c2]) Tryz.func45 rfl rfl (Nat.le_of_ble_eq_true rfl) ?_
  refine c_seq ?_
  refine c_reg ?_
  refine s_val rfl rfl (r_as rfl rfl) ?_
  refine s_nil ?_
  refine q_then ?_
  replace H : Hd _ _ _ [] [rsl kIns (.slice A1 xs.length c2) xs] := H
  refine c_env [(0, .slice A1 xs.length c2), (2, .bool false)] ⟨rfl, rfl, trivial⟩ ?_
  refine c_seq ?_
  refine c_reg ?_
  refine s_val rfl rfl (r_mv rfl rfl) ?_
  refine sc (pbad_ok (.slice A1 xs.length c2) xs) H (lR 0 rfl l0) rfl rfl (e_fn kn67 rfl rfl) ?_
  rintro _ _ w ⟨rfl, rfl⟩ H
  refine s_val rfl rfl (r_lt rfl rfl rfl) ?_
  refine s_val rfl rfl (r_as rfl rfl) ?_
  refine s_nil ?_
  refine q_then ?_
  refine c_env [(2, .bool (decide ((badI xs) < 0)))] ⟨rfl, trivial⟩ ?_
  refine c_ret ?_
  refine q_ret1 rfl rfl ?_
  exact fin ⟨rfl, rfl⟩ H

end Go.Proofs.YtlpgdkbokakniaaGreatDoor.X

set_option linter.unusedVariables false
set_option linter.unusedSimpArgs false
namespace Go.Proofs.YtlpgdkbokakniaaGreatDoor.X
open Go
set_option maxHeartbeats 4000000 in
theorem play_ok (vp : Value) (p : List Ins) (key : ByteArray) (vv : Value) (vals : List ByteArray) (fuel : Int) (hpa : ∀ i ∈ p, In64 i.a) (hfu : In64 fuel) :
    Cn Tryz.prog 71 [vp, .string key, vv, .int .i64 fuel] [] [rsl kIns vp p, rsl kStr vv vals, gl] (fun v Bs => ((¬ badI p < 0 ∨ fuel < 0) ∧ v = .tuple #[.pointer none, .int .i64 2] ∧ Bs = []) ∨ (¬ (¬ badI p < 0 ∨ fuel < 0) ∧ ∃ r mb sv tv vv2 k, v = .tuple #[.pointer (some ⟨r, 0, none⟩), .int .i64 (playM dg p key (min fuel 2000).toNat (vm0 vals)).2] ∧ Bs = [blk r (runC vp key vv2 (min fuel 2000) (playM dg p key (min fuel 2000).toNat (vm0 vals)).1.pos k (playM dg p key (min fuel 2000).toNat (vm0 vals)).1.halted sv (playM dg p key (min fuel 2000).toNat (vm0 vals)).1.g tv (.map (some mb))) 108, osl kVal sv (playM dg p key (min fuel 2000).toNat (vm0 vals)).1.stk, osl kPair tv (playM dg p key (min fuel 2000).toNat (vm0 vals)).1.told, digsP mb])) := by
  intro w0 F0 H
  unfold In64 at hfu
  have hnum := num_in
  obtain ⟨A1, c2, rfl, hc3, hm4, hp5⟩ := H.fR 0 rfl
  obtain ⟨A6, c7, rfl, hc8, hm9, hp10⟩ := H.fR 1 rfl
  refine enter (args := [.slice A1 p.length c2, .string key, .slice A6 vals.length c7, .int .i64 fuel]) Tryz.func71 rfl rfl (Nat.le_of_ble_eq_true rfl) ?_
  refine c_seq ?_
  refine c_reg ?_
  refine s_val rfl rfl (r_as rfl rfl) ?_
  refine s_val rfl rfl (r_as rfl rfl) ?_
  refine s_nil ?_
  refine q_then ?_
  replace H : Hd _ _ _ [] [rsl kIns (.slice A1 p.length c2) p, rsl kStr (.slice A6 vals.length c7) vals, gl] := H
  refine c_env [(0, .slice A1 p.length c2), (1, .string key), (2, .slice A6 vals.length c7), (3, .int .i64 fuel), (8, .pointer none), (9, .int .i64 0)] ⟨rfl, rfl, rfl, rfl, rfl, rfl, trivial⟩ ?_
  refine c_seq ?_
  refine c_seq ?_
  refine c_reg ?_
  refine s_val rfl rfl (r_mv rfl rfl) ?_
  refine sc (pMay_ok (.slice A1 p.length c2) p) H (lR 0 rfl l0) rfl rfl (e_fn kn45 rfl rfl) ?_
  rintro _ _ w ⟨rfl, rfl⟩ H
  refine s_val rfl rfl (r_notP rfl rfl) ?_
  refine s_val rfl rfl (r_mv rfl rfl) ?_
  refine s_dec (d := 16) (p := ¬ (badI p < 0)) rfl (fun h11 => ?_) (fun h11 => ?_)
  · skip
    refine s_no rfl rfl ?_
    refine s_no rfl rfl ?_
    refine s_val rfl rfl (r_pickT rfl rfl rfl) ?_
    refine s_nil ?_
    refine q_then ?_
    refine c_env [(0, .slice A1 p.length c2), (1, .string key), (2, .slice A6 vals.length c7), (3, .int .i64 fuel), (8, .pointer none), (9, .int .i64 0), (19, .bool true)] ⟨rfl, rfl, rfl, rfl, rfl, rfl, rfl, trivial⟩ ?_
    refine c_yes rfl ?_
    refine c_seq ?_
    refine c_reg ?_
    refine s_val rfl rfl (r_as rfl rfl) ?_
    refine s_val rfl rfl (r_as rfl rfl) ?_
    refine s_nil ?_
    refine q_then ?_
    refine c_env [(0, .slice A1 p.length c2), (1, .string key), (2, .slice A6 vals.length c7), (3, .int .i64 fuel), (8, .pointer none), (9, .int .i64 2)] ⟨rfl, rfl, rfl, rfl, rfl, rfl, trivial⟩ ?_
    refine c_ret ?_
    refine q_thenR ?_
    refine q_ret2 rfl rfl rfl ?_
    replace H : Hd _ _ _ [] [rsl kIns (.slice A1 p.length c2) p, rsl kStr (.slice A6 vals.length c7) vals, gl] := H
    exact fin (.inl ⟨.inl h11, rfl, rfl⟩) H
  · skip
    refine s_val rfl rfl (r_mv rfl rfl) ?_
    refine s_val rfl rfl (r_lt rfl rfl rfl) ?_
    refine s_val rfl rfl (r_pickF rfl rfl rfl) ?_
    refine s_nil ?_
    refine q_then ?_
    refine c_env [(0, .slice A1 p.length c2), (1, .string key), (2, .slice A6 vals.length c7), (3, .int .i64 fuel), (8, .pointer none), (9, .int .i64 0), (19, .bool (decide (fuel < 0)))] ⟨rfl, rfl, rfl, rfl, rfl, rfl, rfl, trivial⟩ ?_
    refine c_dec (p := fuel < 0) rfl (fun h12 => ?_) (fun h12 => ?_)
    · skip
      refine c_seq ?_
      refine c_reg ?_
      refine s_val rfl rfl (r_as rfl rfl) ?_
      refine s_val rfl rfl (r_as rfl rfl) ?_
      refine s_nil ?_
      refine q_then ?_
      refine c_env [(0, .slice A1 p.length c2), (1, .string key), (2, .slice A6 vals.length c7), (3, .int .i64 fuel), (8, .pointer none), (9, .int .i64 2)] ⟨rfl, rfl, rfl, rfl, rfl, rfl, trivial⟩ ?_
      refine c_ret ?_
      refine q_thenR ?_
      refine q_ret2 rfl rfl rfl ?_
      replace H : Hd _ _ _ [] [rsl kIns (.slice A1 p.length c2) p, rsl kStr (.slice A6 vals.length c7) vals, gl] := H
      exact fin (.inl ⟨.inr h12, rfl, rfl⟩) H
    · skip
      refine c_skip ?_
      refine q_then ?_
      refine c_env [(0, .slice A1 p.length c2), (1, .string key), (2, .slice A6 vals.length c7), (3, .int .i64 fuel), (8, .pointer none), (9, .int .i64 0)] ⟨rfl, rfl, rfl, rfl, rfl, rfl, trivial⟩ ?_
      refine c_seq ?_
      have hbad := h11
      have hgood := may_all (Classical.not_not.1 hbad)
      refine c_reg ?_
      refine s_val rfl rfl (r_mv rfl rfl) ?_
      refine s_val rfl rfl (r_mv rfl rfl) ?_
      refine s_val rfl rfl (r_mv rfl rfl) ?_
      refine s_val rfl rfl (r_mv rfl rfl) ?_
      refine s_val rfl rfl (r_min (z := min fuel 2000) rfl rfl rfl rfl) ?_
      refine s_mkmap rfl rfl rfl H (fun b13 w H => ?_)
      refine s_val rfl rfl (r_bd (parts := [(0, .tmp 20), (1, .tmp 21), (2, .tmp 22), (3, .tmp 24), (10, .tmp 25)]) (vs := [.slice A1 p.length c2, .string key, .slice A6 vals.length c7, .int .i64 (min fuel 2000), .map (some b13)]) (cs := [.slice A1 p.length c2, .string key, .slice A6 vals.length c7, .int .i64 (min fuel 2000), .int .i64 0, .int .i64 0, .bool false, .slice none 0 0, .bool false, .int .i64 0, .string ⟨#[]⟩, .bool false, .int .i64 0, .string ⟨#[]⟩, .bool false, .int .i64 0, .string ⟨#[]⟩, .bool false, .int .i64 0, .string ⟨#[]⟩, .bool false, .int .i64 0, .string ⟨#[]⟩, .bool false, .int .i64 0, .string ⟨#[]⟩, .bool false, .int .i64 0, .string ⟨#[]⟩, .bool false, .int .i64 0, .string ⟨#[]⟩, .slice none 0 0, .map (some b13)]) rfl bd108 rfl rfl) ?_
      refine s_box rfl rfl rfl rfl H (fun b14 w H => ?_)
      refine s_val rfl rfl (r_as rfl rfl) ?_
      refine s_nil ?_
      refine q_then ?_
      replace H : Hd _ _ _ [blk b14 [.slice A1 p.length c2, .string key, .slice A6 vals.length c7, .int .i64 (min fuel 2000), .int .i64 0, .int .i64 0, .bool false, .slice none 0 0, .bool false, .int .i64 0, .string ⟨#[]⟩, .bool false, .int .i64 0, .string ⟨#[]⟩, .bool false, .int .i64 0, .string ⟨#[]⟩, .bool false, .int .i64 0, .string ⟨#[]⟩, .bool false, .int .i64 0, .string ⟨#[]⟩, .bool false, .int .i64 0, .string ⟨#[]⟩, .bool false, .int .i64 0, .string ⟨#[]⟩, .bool false, .int .i64 0, .string ⟨#[]⟩, .slice none 0 0, .map (some b13)] 108, mapI b13 []] [rsl kIns (.slice A1 p.length c2) p, rsl kStr (.slice A6 vals.length c7) vals, gl] := H
      refine c_env [(0, .slice A1 p.length c2), (8, .pointer none), (9, .int .i64 0), (10, .pointer (some ⟨b14, 0, none⟩))] ⟨rfl, rfl, rfl, rfl, trivial⟩ ?_
      refine c_seq ?_
      refine c_block ?_
      replace H := H.pick 1 rfl
      replace H := H.pick 1 rfl
      replace H := digs_new (t := 185) H
      replace H := (H.newnil kPair).newnil kVal
      replace H : Hd w0 F0 w [blk b14 (runC (.slice A1 p.length c2) key (.slice A6 vals.length c7) (min fuel 2000) 0 0 false (.slice none 0 0) (fun _ => val0) (.slice none 0 0) (.map (some b13))) 108, osl kVal (.slice none 0 0) [], osl kPair (.slice none 0 0) [], digsP b13] [rsl kIns (.slice A1 p.length c2) p, rsl kStr (.slice A6 vals.length c7) vals, gl] := start_order H
      replace H := H.dupR 1 rfl
      replace H := H.pick 3 rfl
      replace H := H.pick 3 rfl
      replace H := H.pick 3 rfl
      replace H := H.pick 3 rfl
      refine c_loop (σ := Nat × VM × Value × Value × Value) (fun (k, m, sv, tv, vv2) => [(0, .slice A1 p.length c2), (10, .pointer (some ⟨b14, 0, none⟩))]) (fun (k, m, sv, tv, vv2) w => (Hd w0 F0 w [blk b14 (runC (.slice A1 p.length c2) key vv2 (min fuel 2000) m.pos ((k : Nat) : Int) m.halted sv m.g tv (.map (some b13))) 108, osl kVal sv m.stk, osl kPair tv m.told, digsP b13] [rsl kStr vv2 m.vals, rsl kIns (.slice A1 p.length c2) p, rsl kStr (.slice A6 vals.length c7) vals, gl]) ∧ ((k : Int) ≤ min fuel 2000) ∧ (Inv p.length m) ∧ (playM dg p key ((min fuel 2000).toNat - k) m = playM dg p key (min fuel 2000).toNat (vm0 vals))) (fun (k, m, sv, tv, vv2) => (min fuel 2000).toNat - k) (0, vm0 vals, .slice none 0 0, .slice none 0 0, .slice A6 vals.length c7) ⟨rfl, rfl, trivial⟩ ⟨H, by (try dsimp only); omega, inv0 _ _, rfl⟩ ?_
      rintro ⟨k, m, sv, tv, vv2⟩ w ⟨H, hk, hinv, hpl⟩
      have hps := hinv.pos
      refine c_seq ?_
      refine c_seq ?_
      refine c_reg ?_
      refine s_val rfl rfl (r_mv rfl rfl) ?_
      refine s_val rfl rfl (r_nilP rfl rfl) ?_
      refine s_val rfl rfl (r_fa rfl fo108_4 rfl) ?_
      refine s_val rfl rfl (r_ld rfl ty3 rfl (H.cellI 0 rfl rfl)) ?_
      refine s_val rfl rfl (r_mv rfl rfl) ?_
      refine s_val rfl rfl (r_lenL rfl un22 rfl) ?_
      refine s_val rfl rfl (r_lt rfl rfl rfl) ?_
      refine s_val rfl rfl (r_mv rfl rfl) ?_
      refine s_dec (d := 35) (p := m.pos < ((p.length : Nat) : Int)) rfl (fun h15 => ?_) (fun h15 => ?_)
      · skip
        refine s_val rfl rfl (r_mv rfl rfl) ?_
        refine s_val rfl rfl (r_nilP rfl rfl) ?_
        refine s_val rfl rfl (r_fa rfl fo108_6 rfl) ?_
        refine s_val rfl rfl (r_ld rfl ty4 rfl (H.cellI 0 rfl rfl)) ?_
        refine s_val rfl rfl (r_not rfl rfl rfl) ?_
        refine s_val rfl rfl (r_pickT rfl rfl rfl) ?_
        refine s_nil ?_
        refine q_then ?_
        refine c_env [(0, .slice A1 p.length c2), (10, .pointer (some ⟨b14, 0, none⟩)), (41, .bool (!m.halted))] ⟨rfl, rfl, rfl, trivial⟩ ?_
        refine c_cond (b := !m.halted) rfl (fun h16 => ?_) (fun h16 => ?_)
        · skip
          refine c_skip ?_
          refine q_then ?_
          refine c_env [(0, .slice A1 p.length c2), (10, .pointer (some ⟨b14, 0, none⟩))] ⟨rfl, rfl, trivial⟩ ?_
          refine c_block ?_
          refine c_seq ?_
          refine c_seq ?_
          have hrun : m.pos < (p.length : Int) ∧ m.halted = false := ⟨h15, by simpa using h16⟩
          refine c_draw mo (by kernel_rfl) H ?_
          refine u_val rfl rfl (fun w H => r_mv rfl rfl) ?_
          refine u_val rfl rfl (fun w H => r_nilP rfl rfl) ?_
          refine u_val rfl rfl (fun w H => r_fa rfl fo108_5 rfl) ?_
          refine u_val rfl rfl (fun w H => r_ld rfl ty3 rfl (H.cellI 0 rfl rfl)) ?_
          refine u_val rfl rfl (fun w H => r_mv rfl rfl) ?_
          refine u_val rfl rfl (fun w H => r_nilP rfl rfl) ?_
          refine u_val rfl rfl (fun w H => r_fa rfl fo108_3 rfl) ?_
          refine u_val rfl rfl (fun w H => r_ld rfl ty3 rfl (H.cellI 0 rfl rfl)) ?_
          refine u_val rfl rfl (fun w H => r_ge rfl rfl rfl) ?_
          refine u_end (fun w H => ?_)
          refine q_then ?_
          refine c_env [(0, .slice A1 p.length c2), (10, .pointer (some ⟨b14, 0, none⟩)), (50, .bool (decide ((min fuel 2000) ≤ ((k : Nat) : Int))))] ⟨rfl, rfl, rfl, trivial⟩ ?_
          refine c_dec (p := (min fuel 2000) ≤ ((k : Nat) : Int)) rfl (fun h17 => ?_) (fun h17 => ?_)
          · skip
            refine c_seq ?_
            refine c_reg ?_
            refine s_val rfl rfl (r_mv rfl rfl) ?_
            refine s_val rfl rfl (r_as rfl rfl) ?_
            refine s_val rfl rfl (r_as rfl rfl) ?_
            refine s_nil ?_
            refine q_then ?_
            refine c_env [(0, .slice A1 p.length c2), (8, .pointer (some ⟨b14, 0, none⟩)), (9, .int .i64 3), (10, .pointer (some ⟨b14, 0, none⟩))] ⟨rfl, rfl, rfl, rfl, trivial⟩ ?_
            refine c_ret ?_
            refine q_thenR ?_
            refine q_blockR ?_
            refine q_thenR ?_
            refine q_blockR ?_
            refine q_thenR ?_
            refine q_ret2 rfl rfl rfl ?_
            replace H := H.pick 3 rfl
            replace H := H.pick 3 rfl
            replace H := H.pick 3 rfl
            replace H := H.pick 3 rfl
            have e : playM dg p key (min fuel 2000).toNat (vm0 vals) = (m, 3) := by rw [← hpl, show (min fuel 2000).toNat - k = 0 by omega]; exact play_dry hrun
            replace H := H.pick 3 rfl
            replace H := H.pick 3 rfl
            replace H := H.pick 3 rfl
            replace H := H.pick 3 rfl
            replace H := H.dropR
            replace H : Hd _ _ _ [blk b14 (runC (.slice A1 p.length c2) key vv2 (min fuel 2000) m.pos ((k : Nat) : Int) m.halted sv m.g tv (.map (some b13))) 108, osl kVal sv m.stk, osl kPair tv m.told, digsP b13] [rsl kIns (.slice A1 p.length c2) p, rsl kStr (.slice A6 vals.length c7) vals, gl] := H
            exact fin (.inr ⟨fun h => h.elim hbad (fun h => absurd h (by omega)), b14, b13, sv, tv, vv2, ((k : Nat) : Int), by rw [e], by rw [e]⟩) H
          · skip
            refine c_skip ?_
            refine q_then ?_
            refine c_env [(0, .slice A1 p.length c2), (10, .pointer (some ⟨b14, 0, none⟩))] ⟨rfl, rfl, trivial⟩ ?_
            refine c_seq ?_
            refine c_reg ?_
            refine s_val rfl rfl (r_mv rfl rfl) ?_
            refine s_val rfl rfl (r_nilP rfl rfl) ?_
            refine s_val rfl rfl (r_fa rfl fo108_5 rfl) ?_
            refine s_val rfl rfl (r_ld rfl ty3 rfl (H.cellI 0 rfl rfl)) ?_
            refine s_val rfl rfl (r_add (z := ((k + 1 : Nat) : Int)) rfl rfl rfl (by rw [w64 (by omega) (by omega)]; omega)) ?_
            refine s_val rfl rfl (r_nilP rfl rfl) ?_
            refine s_val rfl rfl (r_fa rfl fo108_5 rfl) ?_
            refine s_st rfl rfl rfl ty3 rfl rfl H rfl (Nat.le_of_ble_eq_true rfl) (fun u hu => by simp [Value.cells] at hu; subst hu; rfl) (fun w H => ?_)
            replace H : Hd _ _ _ [blk b14 (runC (.slice A1 p.length c2) key vv2 (min fuel 2000) m.pos ((k + 1 : Nat) : Int) m.halted sv m.g tv (.map (some b13))) 108, osl kVal sv m.stk, osl kPair tv m.told, digsP b13] [rsl kStr vv2 m.vals, rsl kIns (.slice A1 p.length c2) p, rsl kStr (.slice A6 vals.length c7) vals, gl] := H
            refine s_nil ?_
            refine q_then ?_
            refine c_env [(0, .slice A1 p.length c2), (10, .pointer (some ⟨b14, 0, none⟩))] ⟨rfl, rfl, trivial⟩ ?_
            refine c_seq ?_
            refine c_reg ?_
            refine s_val rfl rfl (r_mv rfl rfl) ?_
            refine s_val rfl rfl (r_mv rfl rfl) ?_
            refine s_val rfl rfl (r_nilP rfl rfl) ?_
            refine s_val rfl rfl (r_fa rfl fo108_4 rfl) ?_
            refine s_val rfl rfl (r_ld rfl ty3 rfl (H.cellI 0 rfl rfl)) ?_
            obtain ⟨x18, hx19⟩ : ∃ z9, p[(m.pos).toNat]? = some z9 := ⟨_, List.getElem?_eq_getElem (show (m.pos).toNat < p.length by omega)⟩
            have th20 := H.thR 1 rfl hx19
            refine s_val rfl rfl (r_iaE (p := oOf A1 + ((m.pos).toNat) * 3) rfl sl22 rfl rfl (by omega) (by omega) th20 (by omega)) ?_
            refine s_val rfl rfl (r_ldA (cs := [.int .i64 x18.op, .int .i64 x18.a, .string x18.s]) rfl ty29 rfl rfl (H.elsR 1 rfl hx19 rfl)) ?_
            refine s_alloc rfl rfl rfl zr29 H (fun b21 w H => ?_)
            refine s_st rfl rfl rfl ty29 rfl rfl H rfl (Nat.le_of_ble_eq_true rfl) (fun u hu => by simp [Value.cells] at hu; rcases hu with rfl | rfl | rfl <;> rfl) (fun w H => ?_)
            replace H : Hd _ _ _ [blk b21 [.int .i64 x18.op, .int .i64 x18.a, .string x18.s] 29, blk b14 (runC (.slice A1 p.length c2) key vv2 (min fuel 2000) m.pos ((k + 1 : Nat) : Int) m.halted sv m.g tv (.map (some b13))) 108, osl kVal sv m.stk, osl kPair tv m.told, digsP b13] [rsl kStr vv2 m.vals, rsl kIns (.slice A1 p.length c2) p, rsl kStr (.slice A6 vals.length c7) vals, gl] := H
            refine s_nil ?_
            refine q_then ?_
            refine c_env [(0, .slice A1 p.length c2), (10, .pointer (some ⟨b14, 0, none⟩)), (11, .pointer (some ⟨b21, 0, none⟩))] ⟨rfl, rfl, rfl, trivial⟩ ?_
            refine c_seq ?_
            refine c_reg ?_
            refine s_val rfl rfl (r_mv rfl rfl) ?_
            refine s_val rfl rfl (r_nilP rfl rfl) ?_
            refine s_val rfl rfl (r_fa rfl fo108_4 rfl) ?_
            refine s_val rfl rfl (r_ld rfl ty3 rfl (H.cellI 1 rfl rfl)) ?_
            refine s_val rfl rfl (r_add (z := m.pos + 1) rfl rfl rfl (w64 (by omega) (by omega))) ?_
            refine s_val rfl rfl (r_nilP rfl rfl) ?_
            refine s_val rfl rfl (r_fa rfl fo108_4 rfl) ?_
            replace H := H.pick 1 rfl
            refine s_st rfl rfl rfl ty3 rfl rfl H rfl (Nat.le_of_ble_eq_true rfl) (fun u hu => by simp [Value.cells] at hu; subst hu; rfl) (fun w H => ?_)
            replace H : Hd _ _ _ [blk b14 (runC (.slice A1 p.length c2) key vv2 (min fuel 2000) (m.pos + 1) ((k + 1 : Nat) : Int) m.halted sv m.g tv (.map (some b13))) 108, blk b21 [.int .i64 x18.op, .int .i64 x18.a, .string x18.s] 29, osl kVal sv m.stk, osl kPair tv m.told, digsP b13] [rsl kStr vv2 m.vals, rsl kIns (.slice A1 p.length c2) p, rsl kStr (.slice A6 vals.length c7) vals, gl] := H
            refine s_nil ?_
            refine q_then ?_
            refine c_env [(0, .slice A1 p.length c2), (10, .pointer (some ⟨b14, 0, none⟩)), (11, .pointer (some ⟨b21, 0, none⟩))] ⟨rfl, rfl, rfl, trivial⟩ ?_
            refine c_seq ?_
            refine c_reg ?_
            refine s_val rfl rfl (r_mv rfl rfl) ?_
            refine s_val rfl rfl (r_ldA (cs := [.int .i64 x18.op, .int .i64 x18.a, .string x18.s]) rfl ty29 rfl rfl (H.cellsI 1 rfl rfl)) ?_
            replace H := H.pick 4 rfl
            replace H := H.pick 4 rfl
            replace H := H.pick 4 rfl
            replace H := H.pick 3 rfl
            replace H : Hd _ _ _ [blk b14 (runC (.slice A1 p.length c2) key vv2 (min fuel 2000) (m.pos + 1) ((k + 1 : Nat) : Int) m.halted sv m.g tv (.map (some b13))) 108, osl kVal sv m.stk, osl kPair tv m.told, digsP b13, blk b21 [.int .i64 x18.op, .int .i64 x18.a, .string x18.s] 29] [rsl kStr vv2 m.vals, rsl kIns (.slice A1 p.length c2) p, rsl kStr (.slice A6 vals.length c7) vals, gl] := H
            refine sc (does_ok b14 (.slice A1 p.length c2) key vv2 (min fuel 2000) (m.pos + 1) ((k + 1 : Nat) : Int) m.halted sv m.g tv b13 m.stk m.told m.vals x18 p.length hinv.len hinv.told hinv.ok (hgood _ (at_mem hx19))) H (lR 0 rfl (lR 3 rfl l0)) rfl rfl (e_fn kn87 rfl rfl) ?_
            rintro _ _ w ⟨s22, t23, vv24, rfl, hsuf25, rfl⟩ H
            replace H : Hd _ _ _ [blk b14 (runC (.slice A1 p.length c2) key vv24 (min fuel 2000) ((doesM dg key {m with pos := m.pos + 1} x18).1.pos) ((k + 1 : Nat) : Int) ((doesM dg key {m with pos := m.pos + 1} x18).1.halted) s22 ((doesM dg key {m with pos := m.pos + 1} x18).1.g) t23 (.map (some b13))) 108, osl kVal s22 ((doesM dg key {m with pos := m.pos + 1} x18).1.stk), osl kPair t23 ((doesM dg key {m with pos := m.pos + 1} x18).1.told), digsP b13, blk b21 [.int .i64 x18.op, .int .i64 x18.a, .string x18.s] 29] [rsl kStr vv2 m.vals, rsl kIns (.slice A1 p.length c2) p, rsl kStr (.slice A6 vals.length c7) vals, gl] := H
            refine s_val rfl rfl (r_as rfl rfl) ?_
            refine s_nil ?_
            refine q_then ?_
            refine c_env [(0, .slice A1 p.length c2), (10, .pointer (some ⟨b14, 0, none⟩)), (12, .int .i64 ((doesM dg key {m with pos := m.pos + 1} x18).2))] ⟨rfl, rfl, rfl, trivial⟩ ?_
            refine c_seq ?_
            refine c_reg ?_
            refine s_val rfl rfl (r_mv rfl rfl) ?_
            refine s_val rfl rfl (r_ne rfl rfl rfl) ?_
            refine s_nil ?_
            refine q_then ?_
            refine c_env [(0, .slice A1 p.length c2), (10, .pointer (some ⟨b14, 0, none⟩)), (12, .int .i64 ((doesM dg key {m with pos := m.pos + 1} x18).2)), (77, .bool (decide (((doesM dg key {m with pos := m.pos + 1} x18).2) ≠ 0)))] ⟨rfl, rfl, rfl, rfl, trivial⟩ ?_
            refine c_dec (p := ((doesM dg key {m with pos := m.pos + 1} x18).2) ≠ 0) rfl (fun h26 => ?_) (fun h26 => ?_)
            · skip
              refine c_seq ?_
              refine c_reg ?_
              refine s_val rfl rfl (r_mv rfl rfl) ?_
              refine s_val rfl rfl (r_mv rfl rfl) ?_
              refine s_val rfl rfl (r_as rfl rfl) ?_
              refine s_val rfl rfl (r_as rfl rfl) ?_
              refine s_nil ?_
              refine q_then ?_
              refine c_env [(0, .slice A1 p.length c2), (8, .pointer (some ⟨b14, 0, none⟩)), (9, .int .i64 ((doesM dg key {m with pos := m.pos + 1} x18).2)), (10, .pointer (some ⟨b14, 0, none⟩))] ⟨rfl, rfl, rfl, rfl, trivial⟩ ?_
              refine c_ret ?_
              refine q_blockR ?_
              refine q_thenR ?_
              refine q_blockR ?_
              refine q_thenR ?_
              refine q_ret2 rfl rfl rfl ?_
              replace H := H.pick 3 rfl
              replace H := H.pick 3 rfl
              replace H := H.pick 3 rfl
              replace H := H.pick 3 rfl
              replace H := H.keep 4
              have e : playM dg p key (min fuel 2000).toNat (vm0 vals) = doesM dg key {m with pos := m.pos + 1} x18 := by rw [← hpl, show (min fuel 2000).toNat - k = ((min fuel 2000).toNat - (k + 1)) + 1 by omega]; exact play_fail hrun hx19 h26
              replace H := H.pick 3 rfl
              replace H := H.pick 3 rfl
              replace H := H.pick 3 rfl
              replace H := H.pick 3 rfl
              replace H := H.dropR
              replace H : Hd _ _ _ [blk b14 (runC (.slice A1 p.length c2) key vv24 (min fuel 2000) ((doesM dg key {m with pos := m.pos + 1} x18).1.pos) ((k + 1 : Nat) : Int) ((doesM dg key {m with pos := m.pos + 1} x18).1.halted) s22 ((doesM dg key {m with pos := m.pos + 1} x18).1.g) t23 (.map (some b13))) 108, osl kVal s22 ((doesM dg key {m with pos := m.pos + 1} x18).1.stk), osl kPair t23 ((doesM dg key {m with pos := m.pos + 1} x18).1.told), digsP b13] [rsl kIns (.slice A1 p.length c2) p, rsl kStr (.slice A6 vals.length c7) vals, gl] := H
              exact fin (.inr ⟨fun h => h.elim hbad (fun h => absurd h (by omega)), b14, b13, s22, t23, vv24, ((k + 1 : Nat) : Int), by rw [e], by rw [e]⟩) H
            · skip
              refine c_skip ?_
              refine q_blockN ?_
              replace H := H.pick 3 rfl
              replace H := H.pick 3 rfl
              replace H := H.pick 3 rfl
              replace H := H.pick 3 rfl
              replace H := H.keep 4
              replace H : Hd _ _ _ [blk b14 (runC (.slice A1 p.length c2) key vv24 (min fuel 2000) ((doesM dg key {m with pos := m.pos + 1} x18).1.pos) ((k + 1 : Nat) : Int) ((doesM dg key {m with pos := m.pos + 1} x18).1.halted) s22 ((doesM dg key {m with pos := m.pos + 1} x18).1.g) t23 (.map (some b13))) 108, osl kVal s22 ((doesM dg key {m with pos := m.pos + 1} x18).1.stk), osl kPair t23 ((doesM dg key {m with pos := m.pos + 1} x18).1.told), digsP b13] [rsl kStr vv2 m.vals, rsl kIns (.slice A1 p.length c2) p, rsl kStr (.slice A6 vals.length c7) vals, gl] := H
              replace H := H.addR (fun G h => hsuf25 _ _ (h _ (List.mem_of_getElem? (i := 0) rfl)))
              replace H : Hd w0 F0 w [blk b14 (runC (.slice A1 p.length c2) key vv24 (min fuel 2000) ((doesM dg key {m with pos := m.pos + 1} x18).1.pos) ((k + 1 : Nat) : Int) ((doesM dg key {m with pos := m.pos + 1} x18).1.halted) s22 ((doesM dg key {m with pos := m.pos + 1} x18).1.g) t23 (.map (some b13))) 108, osl kVal s22 ((doesM dg key {m with pos := m.pos + 1} x18).1.stk), osl kPair t23 ((doesM dg key {m with pos := m.pos + 1} x18).1.told), digsP b13] [rsl kStr vv24 ((doesM dg key {m with pos := m.pos + 1} x18).1.vals), rsl kIns (.slice A1 p.length c2) p, rsl kStr (.slice A6 vals.length c7) vals, gl] := H.pickR [0, 2, 3, 4]
              have hj : (min fuel 2000).toNat - k = ((min fuel 2000).toNat - (k + 1)) + 1 := by omega
              have hpl2 : playM dg p key ((min fuel 2000).toNat - (k + 1)) (doesM dg key {m with pos := m.pos + 1} x18).1 = playM dg p key (min fuel 2000).toNat (vm0 vals) := by rw [← hpl, hj]; exact (play_go (m := m) hrun hx19 h26).symm
              have hinv2 : Inv p.length (doesM dg key {m with pos := m.pos + 1} x18).1 := inv_does hnum (inv_next hinv hrun.1) (hgood _ (at_mem hx19)) (hpa _ (at_mem hx19)) (Classical.not_not.1 h26)
              replace H := H.pick 3 rfl
              replace H := H.pick 3 rfl
              replace H := H.pick 3 rfl
              replace H := H.pick 3 rfl
              exact q_round (s := (k, m, undef, undef, undef)) (k + 1, (doesM dg key {m with pos := m.pos + 1} x18).1, s22, t23, vv24) ⟨rfl, rfl, trivial⟩ ⟨H, by (try dsimp only); omega, hinv2, hpl2⟩ (by (try dsimp only); omega)
        · skip
          refine c_exit ?_
          refine q_thenE ?_
          refine q_thenE ?_
          refine q_blockE ?_
          refine q_then ?_
          refine c_env [(10, .pointer (some ⟨b14, 0, none⟩))] ⟨rfl, trivial⟩ ?_
          refine c_seq ?_
          refine c_reg ?_
          refine s_val rfl rfl (r_mv rfl rfl) ?_
          refine s_val rfl rfl (r_as rfl rfl) ?_
          refine s_val rfl rfl (r_as rfl rfl) ?_
          refine s_nil ?_
          refine q_then ?_
          refine c_env [(8, .pointer (some ⟨b14, 0, none⟩)), (9, .int .i64 0)] ⟨rfl, rfl, trivial⟩ ?_
          refine c_ret ?_
          refine q_ret2 rfl rfl rfl ?_
          replace H := H.pick 3 rfl
          replace H := H.pick 3 rfl
          replace H := H.pick 3 rfl
          replace H := H.pick 3 rfl
          have e : playM dg p key (min fuel 2000).toNat (vm0 vals) = (m, 0) := by rw [← hpl]; exact play_stop _ (fun h => by have h2 := h.2; rw [h2] at h16; simp at h16)
          replace H := H.pick 3 rfl
          replace H := H.pick 3 rfl
          replace H := H.pick 3 rfl
          replace H := H.pick 3 rfl
          replace H := H.dropR
          replace H : Hd _ _ _ [blk b14 (runC (.slice A1 p.length c2) key vv2 (min fuel 2000) m.pos ((k : Nat) : Int) m.halted sv m.g tv (.map (some b13))) 108, osl kVal sv m.stk, osl kPair tv m.told, digsP b13] [rsl kIns (.slice A1 p.length c2) p, rsl kStr (.slice A6 vals.length c7) vals, gl] := H
          exact fin (.inr ⟨fun h => h.elim hbad (fun h => absurd h (by omega)), b14, b13, sv, tv, vv2, ((k : Nat) : Int), by rw [e], by rw [e]⟩) H
      · skip
        refine s_no rfl rfl ?_
        refine s_no rfl rfl ?_
        refine s_no rfl rfl ?_
        refine s_no rfl rfl ?_
        refine s_no rfl rfl ?_
        refine s_val rfl rfl (r_pickF rfl rfl rfl) ?_
        refine s_nil ?_
        refine q_then ?_
        refine c_env [(0, .slice A1 p.length c2), (10, .pointer (some ⟨b14, 0, none⟩)), (41, .bool false)] ⟨rfl, rfl, rfl, trivial⟩ ?_
        refine c_no rfl ?_
        refine c_exit ?_
        refine q_thenE ?_
        refine q_thenE ?_
        refine q_blockE ?_
        refine q_then ?_
        refine c_env [(10, .pointer (some ⟨b14, 0, none⟩))] ⟨rfl, trivial⟩ ?_
        refine c_seq ?_
        refine c_reg ?_
        refine s_val rfl rfl (r_mv rfl rfl) ?_
        refine s_val rfl rfl (r_as rfl rfl) ?_
        refine s_val rfl rfl (r_as rfl rfl) ?_
        refine s_nil ?_
        refine q_then ?_
        refine c_env [(8, .pointer (some ⟨b14, 0, none⟩)), (9, .int .i64 0)] ⟨rfl, rfl, trivial⟩ ?_
        refine c_ret ?_
        refine q_ret2 rfl rfl rfl ?_
        replace H := H.pick 3 rfl
        replace H := H.pick 3 rfl
        replace H := H.pick 3 rfl
        replace H := H.pick 3 rfl
        have e : playM dg p key (min fuel 2000).toNat (vm0 vals) = (m, 0) := by rw [← hpl]; exact play_stop _ (fun h => absurd h.1 h15)
        replace H := H.pick 3 rfl
        replace H := H.pick 3 rfl
        replace H := H.pick 3 rfl
        replace H := H.pick 3 rfl
        replace H := H.dropR
        replace H : Hd _ _ _ [blk b14 (runC (.slice A1 p.length c2) key vv2 (min fuel 2000) m.pos ((k : Nat) : Int) m.halted sv m.g tv (.map (some b13))) 108, osl kVal sv m.stk, osl kPair tv m.told, digsP b13] [rsl kIns (.slice A1 p.length c2) p, rsl kStr (.slice A6 vals.length c7) vals, gl] := H
        exact fin (.inr ⟨fun h => h.elim hbad (fun h => absurd h (by omega)), b14, b13, sv, tv, vv2, ((k : Nat) : Int), by rw [e], by rw [e]⟩) H

end Go.Proofs.YtlpgdkbokakniaaGreatDoor.X

set_option linter.unusedVariables false
set_option linter.unusedSimpArgs false
namespace Go.Proofs.YtlpgdkbokakniaaGreatDoor.X
open Go
set_option maxHeartbeats 1000000 in
theorem vmRun_ok (vp : Value) (p : List Ins) (key : ByteArray) (vv : Value) (vals : List ByteArray) (fuel : Int) (hpa : ∀ i ∈ p, In64 i.a) (hfu : In64 fuel) :
    Cn Tryz.prog 54 [vp, .string key, vv, .int .i64 fuel] [] [rsl kIns vp p, rsl kStr vv vals, gl] (fun v Bs => ∃ u, v = .tuple #[u, .int .i64 (runM dg p key vals fuel).2] ∧ Bs = [osl kPair u (runM dg p key vals fuel).1]) := by
  intro w0 F0 H
  refine enter (args := [vp, .string key, vv, .int .i64 fuel]) Tryz.func54 rfl rfl (Nat.le_of_ble_eq_true rfl) ?_
  refine c_seq ?_
  refine c_reg ?_
  refine s_val rfl rfl (r_as rfl rfl) ?_
  refine s_val rfl rfl (r_as rfl rfl) ?_
  refine s_nil ?_
  refine q_then ?_
  refine c_env [(0, vp), (1, .string key), (2, vv), (3, .int .i64 fuel), (8, .slice none 0 0), (9, .int .i64 0)] ⟨rfl, rfl, rfl, rfl, rfl, rfl, trivial⟩ ?_
  refine c_seq ?_
  by_cases hb : ¬ badI p < 0 ∨ fuel < 0
  · skip
    refine c_reg ?_
    refine s_val rfl rfl (r_mv rfl rfl) ?_
    refine s_val rfl rfl (r_mv rfl rfl) ?_
    refine s_val rfl rfl (r_mv rfl rfl) ?_
    refine s_val rfl rfl (r_mv rfl rfl) ?_
    refine sc (play_ok vp p key vv vals fuel hpa hfu) H (lR 0 rfl (lR 1 rfl (lR 2 rfl l0))) rfl rfl (e_fn kn71 rfl rfl) ?_
    rintro _ _ w ht H
    obtain ⟨_, rfl, rfl⟩ := ht.resolve_right (fun h => h.1 hb)
    refine s_val rfl rfl (r_mv rfl rfl) ?_
    refine s_val rfl rfl (r_ex rfl rfl rfl) ?_
    refine s_val rfl rfl (r_ex rfl rfl rfl) ?_
    refine s_val rfl rfl (r_as rfl rfl) ?_
    refine s_val rfl rfl (r_as rfl rfl) ?_
    refine s_nil ?_
    refine q_then ?_
    replace H : Hd _ _ _ [] [rsl kIns vp p, rsl kStr vv vals, gl] := H
    refine c_env [(8, .slice none 0 0), (9, .int .i64 0), (10, .pointer none), (11, .int .i64 2)] ⟨rfl, rfl, rfl, rfl, trivial⟩ ?_
    refine c_seq ?_
    refine c_seq ?_
    refine c_reg ?_
    refine s_val rfl rfl (r_mv rfl rfl) ?_
    refine s_val rfl rfl (r_ne rfl rfl rfl) ?_
    refine s_nil ?_
    refine q_then ?_
    refine c_env [(8, .slice none 0 0), (9, .int .i64 0), (10, .pointer none), (11, .int .i64 2), (21, .bool true)] ⟨rfl, rfl, rfl, rfl, rfl, trivial⟩ ?_
    refine c_yes rfl ?_
    refine c_seq ?_
    refine c_reg ?_
    refine s_val rfl rfl (r_mv rfl rfl) ?_
    refine s_val rfl rfl (r_as rfl rfl) ?_
    refine s_val rfl rfl (r_as rfl rfl) ?_
    refine s_nil ?_
    refine q_then ?_
    refine c_env [(8, .slice none 0 0), (9, .int .i64 2), (10, .pointer none)] ⟨rfl, rfl, rfl, trivial⟩ ?_
    refine c_ret ?_
    refine q_thenR ?_
    refine q_ret2 rfl rfl rfl ?_
    have e : runM dg p key vals fuel = ([], 2) := if_pos hb
    replace H := H.newnil kPair
    replace H : Hd _ _ _ [osl kPair (.slice none 0 0) []] [rsl kIns vp p, rsl kStr vv vals, gl] := H
    exact fin ⟨_, by rw [e], by rw [e]⟩ H
  · skip
    refine c_reg ?_
    refine s_val rfl rfl (r_mv rfl rfl) ?_
    refine s_val rfl rfl (r_mv rfl rfl) ?_
    refine s_val rfl rfl (r_mv rfl rfl) ?_
    refine s_val rfl rfl (r_mv rfl rfl) ?_
    refine sc (play_ok vp p key vv vals fuel hpa hfu) H (lR 0 rfl (lR 1 rfl (lR 2 rfl l0))) rfl rfl (e_fn kn71 rfl rfl) ?_
    rintro _ _ w ht H
    obtain ⟨_, r, mb, sv, tv, vv2, k, rfl, rfl⟩ := ht.resolve_left (fun h => hb h.1)
    refine s_val rfl rfl (r_mv rfl rfl) ?_
    refine s_val rfl rfl (r_ex rfl rfl rfl) ?_
    refine s_val rfl rfl (r_ex rfl rfl rfl) ?_
    refine s_val rfl rfl (r_as rfl rfl) ?_
    refine s_val rfl rfl (r_as rfl rfl) ?_
    refine s_nil ?_
    refine q_then ?_
    replace H : Hd _ _ _ [blk r (runC vp key vv2 (min fuel 2000) ((playM dg p key (min fuel 2000).toNat (vm0 vals)).1.pos) k ((playM dg p key (min fuel 2000).toNat (vm0 vals)).1.halted) sv ((playM dg p key (min fuel 2000).toNat (vm0 vals)).1.g) tv (.map (some mb))) 108, osl kVal sv ((playM dg p key (min fuel 2000).toNat (vm0 vals)).1.stk), osl kPair tv ((playM dg p key (min fuel 2000).toNat (vm0 vals)).1.told), digsP mb] [rsl kIns vp p, rsl kStr vv vals, gl] := H
    refine c_env [(8, .slice none 0 0), (9, .int .i64 0), (10, .pointer (some ⟨r, 0, none⟩)), (11, .int .i64 ((playM dg p key (min fuel 2000).toNat (vm0 vals)).2))] ⟨rfl, rfl, rfl, rfl, trivial⟩ ?_
    refine c_seq ?_
    refine c_seq ?_
    refine c_reg ?_
    refine s_val rfl rfl (r_mv rfl rfl) ?_
    refine s_val rfl rfl (r_ne rfl rfl rfl) ?_
    refine s_nil ?_
    refine q_then ?_
    refine c_env [(8, .slice none 0 0), (9, .int .i64 0), (10, .pointer (some ⟨r, 0, none⟩)), (11, .int .i64 ((playM dg p key (min fuel 2000).toNat (vm0 vals)).2)), (21, .bool (decide (((playM dg p key (min fuel 2000).toNat (vm0 vals)).2) ≠ 0)))] ⟨rfl, rfl, rfl, rfl, rfl, trivial⟩ ?_
    refine c_dec (p := ((playM dg p key (min fuel 2000).toNat (vm0 vals)).2) ≠ 0) rfl (fun h1 => ?_) (fun h1 => ?_)
    · skip
      refine c_seq ?_
      refine c_reg ?_
      refine s_val rfl rfl (r_mv rfl rfl) ?_
      refine s_val rfl rfl (r_as rfl rfl) ?_
      refine s_val rfl rfl (r_as rfl rfl) ?_
      refine s_nil ?_
      refine q_then ?_
      refine c_env [(8, .slice none 0 0), (9, .int .i64 ((playM dg p key (min fuel 2000).toNat (vm0 vals)).2)), (10, .pointer (some ⟨r, 0, none⟩))] ⟨rfl, rfl, rfl, trivial⟩ ?_
      refine c_ret ?_
      refine q_thenR ?_
      refine q_ret2 rfl rfl rfl ?_
      have e : runM dg p key vals fuel = ([], (playM dg p key (min fuel 2000).toNat (vm0 vals)).2) := by unfold runM; rw [if_neg hb, if_pos h1]
      replace H := H.keep 0
      replace H := H.newnil kPair
      replace H : Hd _ _ _ [osl kPair (.slice none 0 0) []] [rsl kIns vp p, rsl kStr vv vals, gl] := H
      exact fin ⟨_, by rw [e], by rw [e]⟩ H
    · skip
      refine c_skip ?_
      refine q_then ?_
      refine c_env [(8, .slice none 0 0), (9, .int .i64 0), (10, .pointer (some ⟨r, 0, none⟩))] ⟨rfl, rfl, rfl, trivial⟩ ?_
      refine c_seq ?_
      refine c_reg ?_
      refine s_val rfl rfl (r_mv rfl rfl) ?_
      refine s_val rfl rfl (r_nilP rfl rfl) ?_
      refine s_val rfl rfl (r_fa rfl fo108_9 rfl) ?_
      refine s_val rfl rfl (r_ld rfl ty23 rfl (H.cellI 0 rfl rfl)) ?_
      refine s_val rfl rfl (r_as rfl rfl) ?_
      refine s_val rfl rfl (r_as rfl rfl) ?_
      refine s_nil ?_
      refine q_then ?_
      refine c_env [(8, tv), (9, .int .i64 0)] ⟨rfl, rfl, trivial⟩ ?_
      refine c_ret ?_
      refine q_ret2 rfl rfl rfl ?_
      have e : runM dg p key vals fuel = ((playM dg p key (min fuel 2000).toNat (vm0 vals)).1.told, 0) := by unfold runM; rw [if_neg hb, if_neg h1]
      replace H := H.pick 2 rfl
      replace H := H.keep 1
      replace H : Hd _ _ _ [osl kPair tv ((playM dg p key (min fuel 2000).toNat (vm0 vals)).1.told)] [rsl kIns vp p, rsl kStr vv vals, gl] := H
      exact fin ⟨_, by rw [e], by rw [e]⟩ H

end Go.Proofs.YtlpgdkbokakniaaGreatDoor.X

