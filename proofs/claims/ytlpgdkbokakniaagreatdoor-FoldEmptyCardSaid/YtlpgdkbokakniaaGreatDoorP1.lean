/- Programs, pairs: what the functions answer that others call. -/
import Derived.Test.YtlpgdkbokakniaaGreatDoorXF
import Derived.Test.YtlpgdkbokakniaaGreatDoorXL
import Derived.Test.YtlpgdkbokakniaaGreatDoorXK
import Derived.Test.YtlpgdkbokakniaaGreatDoorXProg2
import Derived.Test.YtlpgdkbokakniaaGreatDoorXC
import Derived.Test.YtlpgdkbokakniaaGreatDoorXPair
set_option linter.unusedVariables false
set_option linter.unusedSimpArgs false
namespace Go.Proofs.YtlpgdkbokakniaaGreatDoor.X
open Go

set_option maxHeartbeats 1000000 in
theorem pmay_ok (p : Ins) (n : Int) :
    Cn Tryz.prog 84 [.agg #[.int .i64 p.op, .int .i64 p.a, .string p.s], .int .i64 n] [] [] (fun v Bs => v = .bool (decide (goodI p n)) ∧ Bs = []) := by
  intro w0 F0 H
  refine enter (args := [.agg #[.int .i64 p.op, .int .i64 p.a, .string p.s], .int .i64 n]) Tryz.func84 rfl rfl (Nat.le_of_ble_eq_true rfl) ?_
  refine c_seq ?_
  refine c_reg ?_
  refine s_box rfl rfl rfl rfl H (fun b1 w H => ?_)
  refine s_val rfl rfl (r_as rfl rfl) ?_
  refine s_nil ?_
  refine q_then ?_
  replace H : Hd _ _ _ [blk b1 [.int .i64 p.op, .int .i64 p.a, .string p.s] 29] [] := H
  refine c_env [(1, .int .i64 n), (2, .pointer (some ⟨b1, 0, none⟩)), (4, .bool false)] ⟨rfl, rfl, rfl, trivial⟩ ?_
  refine c_seq ?_
  refine c_reg ?_
  refine s_val rfl rfl (r_as rfl rfl) ?_
  refine s_val rfl rfl (r_as rfl rfl) ?_
  refine s_val rfl rfl (r_as rfl rfl) ?_
  refine s_nil ?_
  refine q_then ?_
  refine c_env [(1, .int .i64 n), (2, .pointer (some ⟨b1, 0, none⟩)), (4, .bool false), (5, .int .i64 0), (6, .int .i64 0), (7, .int .i64 0)] ⟨rfl, rfl, rfl, rfl, rfl, rfl, trivial⟩ ?_
  refine c_seq ?_
  refine c_seq ?_
  refine c_reg ?_
  refine s_val rfl rfl (r_fa rfl fo29_0 rfl) ?_
  refine s_val rfl rfl (r_ld rfl ty3 rfl (H.cellI 0 rfl rfl)) ?_
  refine s_nil ?_
  refine q_then ?_
  refine c_env [(1, .int .i64 n), (2, .pointer (some ⟨b1, 0, none⟩)), (4, .bool false), (5, .int .i64 0), (6, .int .i64 0), (7, .int .i64 0), (9, .int .i64 p.op)] ⟨rfl, rfl, rfl, rfl, rfl, rfl, rfl, trivial⟩ ?_
  refine c_block ?_
  refine c_seq ?_
  refine c_reg ?_
  refine s_val rfl rfl (r_eq rfl rfl rfl) ?_
  refine s_val rfl rfl (r_as rfl rfl) ?_
  refine s_nil ?_
  refine q_then ?_
  refine c_env [(1, .int .i64 n), (2, .pointer (some ⟨b1, 0, none⟩)), (4, .bool false), (5, .int .i64 0), (6, .int .i64 0), (7, .int .i64 0), (9, .int .i64 p.op), (10, .bool (decide (p.op = 1)))] ⟨rfl, rfl, rfl, rfl, rfl, rfl, rfl, rfl, trivial⟩ ?_
  refine c_dec (p := p.op = 1) rfl (fun h2 => ?_) (fun h2 => ?_)
  · skip
    refine c_seq ?_
    refine c_reg ?_
    refine s_val rfl rfl (r_fa rfl fo29_2 rfl) ?_
    refine s_val rfl rfl (r_ld rfl ty9 rfl (H.cellI 0 rfl rfl)) ?_
    refine s_val rfl rfl (r_eqS rfl rfl rfl) ?_
    refine s_val rfl rfl (r_as rfl rfl) ?_
    refine s_nil ?_
    refine q_then ?_
    refine c_env [(2, .pointer (some ⟨b1, 0, none⟩)), (4, .bool (decide (p.s = (⟨#[]⟩ : ByteArray)))), (5, .int .i64 0), (6, .int .i64 0), (7, .int .i64 0)] ⟨rfl, rfl, rfl, rfl, rfl, trivial⟩ ?_
    refine c_ret ?_
    refine q_blockR ?_
    refine q_thenR ?_
    refine q_ret1 rfl rfl ?_
    replace H := H.keep 0
    exact fin ⟨congrArg Value.bool (decide_eq_decide.2 (by rw [nil_size]; unfold goodI; omega)), rfl⟩ H
  · skip
    refine c_seq ?_
    refine c_reg ?_
    refine s_val rfl rfl (r_eq rfl rfl rfl) ?_
    refine s_val rfl rfl (r_as rfl rfl) ?_
    refine s_nil ?_
    refine q_then ?_
    refine c_env [(1, .int .i64 n), (2, .pointer (some ⟨b1, 0, none⟩)), (4, .bool false), (5, .int .i64 0), (6, .int .i64 0), (7, .int .i64 0), (9, .int .i64 p.op), (15, .bool (decide (p.op = 2)))] ⟨rfl, rfl, rfl, rfl, rfl, rfl, rfl, rfl, trivial⟩ ?_
    refine c_dec (p := p.op = 2) rfl (fun h3 => ?_) (fun h3 => ?_)
    · skip
      refine c_reg ?_
      refine s_val rfl rfl (r_as rfl rfl) ?_
      refine s_nil ?_
      refine q_blockN ?_
      refine q_then ?_
      refine c_env [(2, .pointer (some ⟨b1, 0, none⟩)), (4, .bool false), (5, .int .i64 0), (6, .int .i64 0), (7, .int .i64 64)] ⟨rfl, rfl, rfl, rfl, rfl, trivial⟩ ?_
      refine c_seq ?_
      refine c_reg ?_
      refine s_val rfl rfl (r_fa rfl fo29_0 rfl) ?_
      refine s_val rfl rfl (r_ld rfl ty3 rfl (H.cellI 0 rfl rfl)) ?_
      refine s_val rfl rfl (r_ge rfl rfl rfl) ?_
      refine s_val rfl rfl (r_mv rfl rfl) ?_
      refine s_dec (d := 27) (p := (0 : Int) ≤ p.op) rfl (fun h4 => ?_) (fun h4 => ?_)
      · skip
        refine s_val rfl rfl (r_fa rfl fo29_0 rfl) ?_
        refine s_val rfl rfl (r_ld rfl ty3 rfl (H.cellI 0 rfl rfl)) ?_
        refine s_val rfl rfl (r_le rfl rfl rfl) ?_
        refine s_val rfl rfl (r_pickT rfl rfl rfl) ?_
        refine s_val rfl rfl (r_mv rfl rfl) ?_
        refine s_dec (d := 32) (p := p.op ≤ 23) rfl (fun h5 => ?_) (fun h5 => ?_)
        · skip
          refine s_val rfl rfl (r_fa rfl fo29_1 rfl) ?_
          refine s_val rfl rfl (r_ld rfl ty3 rfl (H.cellI 0 rfl rfl)) ?_
          refine s_val rfl rfl (r_mv rfl rfl) ?_
          refine s_val rfl rfl (r_ge rfl rfl rfl) ?_
          refine s_val rfl rfl (r_pickT rfl rfl rfl) ?_
          refine s_val rfl rfl (r_mv rfl rfl) ?_
          refine s_dec (d := 38) (p := (0 : Int) ≤ p.a) rfl (fun h6 => ?_) (fun h6 => ?_)
          · skip
            refine s_val rfl rfl (r_fa rfl fo29_1 rfl) ?_
            refine s_val rfl rfl (r_ld rfl ty3 rfl (H.cellI 0 rfl rfl)) ?_
            refine s_val rfl rfl (r_mv rfl rfl) ?_
            refine s_val rfl rfl (r_le rfl rfl rfl) ?_
            refine s_val rfl rfl (r_pickT rfl rfl rfl) ?_
            refine s_val rfl rfl (r_mv rfl rfl) ?_
            refine s_dec (d := 44) (p := p.a ≤ 0) rfl (fun h7 => ?_) (fun h7 => ?_)
            · skip
              refine s_val rfl rfl (r_fa rfl fo29_2 rfl) ?_
              refine s_val rfl rfl (r_ld rfl ty9 rfl (H.cellI 0 rfl rfl)) ?_
              refine s_val rfl rfl (r_lenS rfl un9 rfl) ?_
              refine s_val rfl rfl (r_mv rfl rfl) ?_
              refine s_val rfl rfl (r_le rfl rfl rfl) ?_
              refine s_val rfl rfl (r_pickT rfl rfl rfl) ?_
              refine s_val rfl rfl (r_as rfl rfl) ?_
              refine s_nil ?_
              refine q_then ?_
              refine c_env [(4, .bool (decide (((p.s.size : Nat) : Int) ≤ 64)))] ⟨rfl, trivial⟩ ?_
              refine c_ret ?_
              refine q_ret1 rfl rfl ?_
              replace H := H.keep 0
              exact fin ⟨congrArg Value.bool (decide_eq_decide.2 (by unfold goodI; omega)), rfl⟩ H
            · skip
              refine s_no rfl rfl ?_
              refine s_no rfl rfl ?_
              refine s_no rfl rfl ?_
              refine s_no rfl rfl ?_
              refine s_no rfl rfl ?_
              refine s_val rfl rfl (r_pickF rfl rfl rfl) ?_
              refine s_val rfl rfl (r_as rfl rfl) ?_
              refine s_nil ?_
              refine q_then ?_
              refine c_env [(4, .bool false)] ⟨rfl, trivial⟩ ?_
              refine c_ret ?_
              refine q_ret1 rfl rfl ?_
              replace H := H.keep 0
              exact fin ⟨congrArg Value.bool (decide_eq_false (by unfold goodI; omega)).symm, rfl⟩ H
          · skip
            refine s_no rfl rfl ?_
            refine s_no rfl rfl ?_
            refine s_no rfl rfl ?_
            refine s_no rfl rfl ?_
            refine s_val rfl rfl (r_pickF rfl rfl rfl) ?_
            refine s_val rfl rfl (r_mv rfl rfl) ?_
            refine s_no rfl rfl ?_
            refine s_no rfl rfl ?_
            refine s_no rfl rfl ?_
            refine s_no rfl rfl ?_
            refine s_no rfl rfl ?_
            refine s_val rfl rfl (r_pickF rfl rfl rfl) ?_
            refine s_val rfl rfl (r_as rfl rfl) ?_
            refine s_nil ?_
            refine q_then ?_
            refine c_env [(4, .bool false)] ⟨rfl, trivial⟩ ?_
            refine c_ret ?_
            refine q_ret1 rfl rfl ?_
            replace H := H.keep 0
            exact fin ⟨congrArg Value.bool (decide_eq_false (by unfold goodI; omega)).symm, rfl⟩ H
        · skip
          refine s_no rfl rfl ?_
          refine s_no rfl rfl ?_
          refine s_no rfl rfl ?_
          refine s_no rfl rfl ?_
          refine s_val rfl rfl (r_pickF rfl rfl rfl) ?_
          refine s_val rfl rfl (r_mv rfl rfl) ?_
          refine s_no rfl rfl ?_
          refine s_no rfl rfl ?_
          refine s_no rfl rfl ?_
          refine s_no rfl rfl ?_
          refine s_val rfl rfl (r_pickF rfl rfl rfl) ?_
          refine s_val rfl rfl (r_mv rfl rfl) ?_
          refine s_no rfl rfl ?_
          refine s_no rfl rfl ?_
          refine s_no rfl rfl ?_
          refine s_no rfl rfl ?_
          refine s_no rfl rfl ?_
          refine s_val rfl rfl (r_pickF rfl rfl rfl) ?_
          refine s_val rfl rfl (r_as rfl rfl) ?_
          refine s_nil ?_
          refine q_then ?_
          refine c_env [(4, .bool false)] ⟨rfl, trivial⟩ ?_
          refine c_ret ?_
          refine q_ret1 rfl rfl ?_
          replace H := H.keep 0
          exact fin ⟨congrArg Value.bool (decide_eq_false (by unfold goodI; omega)).symm, rfl⟩ H
      · skip
        refine s_no rfl rfl ?_
        refine s_no rfl rfl ?_
        refine s_no rfl rfl ?_
        refine s_val rfl rfl (r_pickF rfl rfl rfl) ?_
        refine s_val rfl rfl (r_mv rfl rfl) ?_
        refine s_no rfl rfl ?_
        refine s_no rfl rfl ?_
        refine s_no rfl rfl ?_
        refine s_no rfl rfl ?_
        refine s_val rfl rfl (r_pickF rfl rfl rfl) ?_
        refine s_val rfl rfl (r_mv rfl rfl) ?_
        refine s_no rfl rfl ?_
        refine s_no rfl rfl ?_
        refine s_no rfl rfl ?_
        refine s_no rfl rfl ?_
        refine s_val rfl rfl (r_pickF rfl rfl rfl) ?_
        refine s_val rfl rfl (r_mv rfl rfl) ?_
        refine s_no rfl rfl ?_
        refine s_no rfl rfl ?_
        refine s_no rfl rfl ?_
        refine s_no rfl rfl ?_
        refine s_no rfl rfl ?_
        refine s_val rfl rfl (r_pickF rfl rfl rfl) ?_
        refine s_val rfl rfl (r_as rfl rfl) ?_
        refine s_nil ?_
        refine q_then ?_
        refine c_env [(4, .bool false)] ⟨rfl, trivial⟩ ?_
        refine c_ret ?_
        refine q_ret1 rfl rfl ?_
        replace H := H.keep 0
        exact fin ⟨congrArg Value.bool (decide_eq_false (by unfold goodI; omega)).symm, rfl⟩ H
    · skip
      refine c_seq ?_
      refine c_seq ?_
      refine c_reg ?_
      refine s_val rfl rfl (r_eq rfl rfl rfl) ?_
      refine s_val rfl rfl (r_as rfl rfl) ?_
      refine s_nil ?_
      refine q_then ?_
      refine c_env [(1, .int .i64 n), (2, .pointer (some ⟨b1, 0, none⟩)), (4, .bool false), (5, .int .i64 0), (6, .int .i64 0), (7, .int .i64 0), (9, .int .i64 p.op), (17, .bool (decide (p.op = 19)))] ⟨rfl, rfl, rfl, rfl, rfl, rfl, rfl, rfl, trivial⟩ ?_
      refine c_dec (p := p.op = 19) rfl (fun h8 => ?_) (fun h8 => ?_)
      · skip
        refine c_skip ?_
        refine q_then ?_
        refine c_env [(1, .int .i64 n), (2, .pointer (some ⟨b1, 0, none⟩)), (4, .bool false), (5, .int .i64 0), (6, .int .i64 0), (7, .int .i64 0), (9, .int .i64 p.op), (17, .bool (decide (p.op = 19)))] ⟨rfl, rfl, rfl, rfl, rfl, rfl, rfl, rfl, trivial⟩ ?_
        refine c_dec (p := p.op = 19) rfl (fun h9 => ?_) (fun h9 => ?_)
        · skip
          refine c_reg ?_
          refine s_val rfl rfl (r_mv rfl rfl) ?_
          refine s_val rfl rfl (r_as rfl rfl) ?_
          refine s_nil ?_
          refine q_blockN ?_
          refine q_then ?_
          refine c_env [(2, .pointer (some ⟨b1, 0, none⟩)), (4, .bool false), (5, .int .i64 0), (6, .int .i64 n), (7, .int .i64 0)] ⟨rfl, rfl, rfl, rfl, rfl, trivial⟩ ?_
          refine c_seq ?_
          refine c_reg ?_
          refine s_val rfl rfl (r_fa rfl fo29_0 rfl) ?_
          refine s_val rfl rfl (r_ld rfl ty3 rfl (H.cellI 0 rfl rfl)) ?_
          refine s_val rfl rfl (r_ge rfl rfl rfl) ?_
          refine s_val rfl rfl (r_mv rfl rfl) ?_
          refine s_dec (d := 27) (p := (0 : Int) ≤ p.op) rfl (fun h10 => ?_) (fun h10 => ?_)
          · skip
            refine s_val rfl rfl (r_fa rfl fo29_0 rfl) ?_
            refine s_val rfl rfl (r_ld rfl ty3 rfl (H.cellI 0 rfl rfl)) ?_
            refine s_val rfl rfl (r_le rfl rfl rfl) ?_
            refine s_val rfl rfl (r_pickT rfl rfl rfl) ?_
            refine s_val rfl rfl (r_mv rfl rfl) ?_
            refine s_dec (d := 32) (p := p.op ≤ 23) rfl (fun h11 => ?_) (fun h11 => ?_)
            · skip
              refine s_val rfl rfl (r_fa rfl fo29_1 rfl) ?_
              refine s_val rfl rfl (r_ld rfl ty3 rfl (H.cellI 0 rfl rfl)) ?_
              refine s_val rfl rfl (r_mv rfl rfl) ?_
              refine s_val rfl rfl (r_ge rfl rfl rfl) ?_
              refine s_val rfl rfl (r_pickT rfl rfl rfl) ?_
              refine s_val rfl rfl (r_mv rfl rfl) ?_
              refine s_dec (d := 38) (p := (0 : Int) ≤ p.a) rfl (fun h12 => ?_) (fun h12 => ?_)
              · skip
                refine s_val rfl rfl (r_fa rfl fo29_1 rfl) ?_
                refine s_val rfl rfl (r_ld rfl ty3 rfl (H.cellI 0 rfl rfl)) ?_
                refine s_val rfl rfl (r_mv rfl rfl) ?_
                refine s_val rfl rfl (r_le rfl rfl rfl) ?_
                refine s_val rfl rfl (r_pickT rfl rfl rfl) ?_
                refine s_val rfl rfl (r_mv rfl rfl) ?_
                refine s_dec (d := 44) (p := p.a ≤ n) rfl (fun h13 => ?_) (fun h13 => ?_)
                · skip
                  refine s_val rfl rfl (r_fa rfl fo29_2 rfl) ?_
                  refine s_val rfl rfl (r_ld rfl ty9 rfl (H.cellI 0 rfl rfl)) ?_
                  refine s_val rfl rfl (r_lenS rfl un9 rfl) ?_
                  refine s_val rfl rfl (r_mv rfl rfl) ?_
                  refine s_val rfl rfl (r_le rfl rfl rfl) ?_
                  refine s_val rfl rfl (r_pickT rfl rfl rfl) ?_
                  refine s_val rfl rfl (r_as rfl rfl) ?_
                  refine s_nil ?_
                  refine q_then ?_
                  refine c_env [(4, .bool (decide (((p.s.size : Nat) : Int) ≤ 0)))] ⟨rfl, trivial⟩ ?_
                  refine c_ret ?_
                  refine q_ret1 rfl rfl ?_
                  replace H := H.keep 0
                  exact fin ⟨congrArg Value.bool (decide_eq_decide.2 (by unfold goodI; omega)), rfl⟩ H
                · skip
                  refine s_no rfl rfl ?_
                  refine s_no rfl rfl ?_
                  refine s_no rfl rfl ?_
                  refine s_no rfl rfl ?_
                  refine s_no rfl rfl ?_
                  refine s_val rfl rfl (r_pickF rfl rfl rfl) ?_
                  refine s_val rfl rfl (r_as rfl rfl) ?_
                  refine s_nil ?_
                  refine q_then ?_
                  refine c_env [(4, .bool false)] ⟨rfl, trivial⟩ ?_
                  refine c_ret ?_
                  refine q_ret1 rfl rfl ?_
                  replace H := H.keep 0
                  exact fin ⟨congrArg Value.bool (decide_eq_false (by unfold goodI; omega)).symm, rfl⟩ H
              · skip
                refine s_no rfl rfl ?_
                refine s_no rfl rfl ?_
                refine s_no rfl rfl ?_
                refine s_no rfl rfl ?_
                refine s_val rfl rfl (r_pickF rfl rfl rfl) ?_
                refine s_val rfl rfl (r_mv rfl rfl) ?_
                refine s_no rfl rfl ?_
                refine s_no rfl rfl ?_
                refine s_no rfl rfl ?_
                refine s_no rfl rfl ?_
                refine s_no rfl rfl ?_
                refine s_val rfl rfl (r_pickF rfl rfl rfl) ?_
                refine s_val rfl rfl (r_as rfl rfl) ?_
                refine s_nil ?_
                refine q_then ?_
                refine c_env [(4, .bool false)] ⟨rfl, trivial⟩ ?_
                refine c_ret ?_
                refine q_ret1 rfl rfl ?_
                replace H := H.keep 0
                exact fin ⟨congrArg Value.bool (decide_eq_false (by unfold goodI; omega)).symm, rfl⟩ H
            · skip
              refine s_no rfl rfl ?_
              refine s_no rfl rfl ?_
              refine s_no rfl rfl ?_
              refine s_no rfl rfl ?_
              refine s_val rfl rfl (r_pickF rfl rfl rfl) ?_
              refine s_val rfl rfl (r_mv rfl rfl) ?_
              refine s_no rfl rfl ?_
              refine s_no rfl rfl ?_
              refine s_no rfl rfl ?_
              refine s_no rfl rfl ?_
              refine s_val rfl rfl (r_pickF rfl rfl rfl) ?_
              refine s_val rfl rfl (r_mv rfl rfl) ?_
              refine s_no rfl rfl ?_
              refine s_no rfl rfl ?_
              refine s_no rfl rfl ?_
              refine s_no rfl rfl ?_
              refine s_no rfl rfl ?_
              refine s_val rfl rfl (r_pickF rfl rfl rfl) ?_
              refine s_val rfl rfl (r_as rfl rfl) ?_
              refine s_nil ?_
              refine q_then ?_
              refine c_env [(4, .bool false)] ⟨rfl, trivial⟩ ?_
              refine c_ret ?_
              refine q_ret1 rfl rfl ?_
              replace H := H.keep 0
              exact fin ⟨congrArg Value.bool (decide_eq_false (by unfold goodI; omega)).symm, rfl⟩ H
          · skip
            refine s_no rfl rfl ?_
            refine s_no rfl rfl ?_
            refine s_no rfl rfl ?_
            refine s_val rfl rfl (r_pickF rfl rfl rfl) ?_
            refine s_val rfl rfl (r_mv rfl rfl) ?_
            refine s_no rfl rfl ?_
            refine s_no rfl rfl ?_
            refine s_no rfl rfl ?_
            refine s_no rfl rfl ?_
            refine s_val rfl rfl (r_pickF rfl rfl rfl) ?_
            refine s_val rfl rfl (r_mv rfl rfl) ?_
            refine s_no rfl rfl ?_
            refine s_no rfl rfl ?_
            refine s_no rfl rfl ?_
            refine s_no rfl rfl ?_
            refine s_val rfl rfl (r_pickF rfl rfl rfl) ?_
            refine s_val rfl rfl (r_mv rfl rfl) ?_
            refine s_no rfl rfl ?_
            refine s_no rfl rfl ?_
            refine s_no rfl rfl ?_
            refine s_no rfl rfl ?_
            refine s_no rfl rfl ?_
            refine s_val rfl rfl (r_pickF rfl rfl rfl) ?_
            refine s_val rfl rfl (r_as rfl rfl) ?_
            refine s_nil ?_
            refine q_then ?_
            refine c_env [(4, .bool false)] ⟨rfl, trivial⟩ ?_
            refine c_ret ?_
            refine q_ret1 rfl rfl ?_
            replace H := H.keep 0
            exact fin ⟨congrArg Value.bool (decide_eq_false (by unfold goodI; omega)).symm, rfl⟩ H
        · skip
          refine c_seq ?_
          refine c_seq ?_
          refine c_reg ?_
          refine s_val rfl rfl (r_eq rfl rfl rfl) ?_
          refine s_val rfl rfl (r_as rfl rfl) ?_
          refine s_nil ?_
          refine q_then ?_
          refine c_env [(2, .pointer (some ⟨b1, 0, none⟩)), (4, .bool false), (5, .int .i64 0), (6, .int .i64 0), (7, .int .i64 0), (9, .int .i64 p.op), (21, .bool (decide (p.op = 21)))] ⟨rfl, rfl, rfl, rfl, rfl, rfl, rfl, trivial⟩ ?_
          refine c_dec (p := p.op = 21) rfl (fun h14 => ?_) (fun h14 => ?_)
          · skip
            refine c_skip ?_
            refine q_then ?_
            refine c_env [(2, .pointer (some ⟨b1, 0, none⟩)), (4, .bool false), (5, .int .i64 0), (6, .int .i64 0), (7, .int .i64 0), (21, .bool (decide (p.op = 21)))] ⟨rfl, rfl, rfl, rfl, rfl, rfl, trivial⟩ ?_
            refine c_dec (p := p.op = 21) rfl (fun h15 => ?_) (fun h15 => ?_)
            · skip
              refine c_reg ?_
              refine s_val rfl rfl (r_as rfl rfl) ?_
              refine s_nil ?_
              refine q_blockN ?_
              refine q_then ?_
              refine c_env [(2, .pointer (some ⟨b1, 0, none⟩)), (4, .bool false), (5, .int .i64 0), (6, .int .i64 7), (7, .int .i64 0)] ⟨rfl, rfl, rfl, rfl, rfl, trivial⟩ ?_
              refine c_seq ?_
              refine c_reg ?_
              refine s_val rfl rfl (r_fa rfl fo29_0 rfl) ?_
              refine s_val rfl rfl (r_ld rfl ty3 rfl (H.cellI 0 rfl rfl)) ?_
              refine s_val rfl rfl (r_ge rfl rfl rfl) ?_
              refine s_val rfl rfl (r_mv rfl rfl) ?_
              refine s_dec (d := 27) (p := (0 : Int) ≤ p.op) rfl (fun h16 => ?_) (fun h16 => ?_)
              · skip
                refine s_val rfl rfl (r_fa rfl fo29_0 rfl) ?_
                refine s_val rfl rfl (r_ld rfl ty3 rfl (H.cellI 0 rfl rfl)) ?_
                refine s_val rfl rfl (r_le rfl rfl rfl) ?_
                refine s_val rfl rfl (r_pickT rfl rfl rfl) ?_
                refine s_val rfl rfl (r_mv rfl rfl) ?_
                refine s_dec (d := 32) (p := p.op ≤ 23) rfl (fun h17 => ?_) (fun h17 => ?_)
                · skip
                  refine s_val rfl rfl (r_fa rfl fo29_1 rfl) ?_
                  refine s_val rfl rfl (r_ld rfl ty3 rfl (H.cellI 0 rfl rfl)) ?_
                  refine s_val rfl rfl (r_mv rfl rfl) ?_
                  refine s_val rfl rfl (r_ge rfl rfl rfl) ?_
                  refine s_val rfl rfl (r_pickT rfl rfl rfl) ?_
                  refine s_val rfl rfl (r_mv rfl rfl) ?_
                  refine s_dec (d := 38) (p := (0 : Int) ≤ p.a) rfl (fun h18 => ?_) (fun h18 => ?_)
                  · skip
                    refine s_val rfl rfl (r_fa rfl fo29_1 rfl) ?_
                    refine s_val rfl rfl (r_ld rfl ty3 rfl (H.cellI 0 rfl rfl)) ?_
                    refine s_val rfl rfl (r_mv rfl rfl) ?_
                    refine s_val rfl rfl (r_le rfl rfl rfl) ?_
                    refine s_val rfl rfl (r_pickT rfl rfl rfl) ?_
                    refine s_val rfl rfl (r_mv rfl rfl) ?_
                    refine s_dec (d := 44) (p := p.a ≤ 7) rfl (fun h19 => ?_) (fun h19 => ?_)
                    · skip
                      refine s_val rfl rfl (r_fa rfl fo29_2 rfl) ?_
                      refine s_val rfl rfl (r_ld rfl ty9 rfl (H.cellI 0 rfl rfl)) ?_
                      refine s_val rfl rfl (r_lenS rfl un9 rfl) ?_
                      refine s_val rfl rfl (r_mv rfl rfl) ?_
                      refine s_val rfl rfl (r_le rfl rfl rfl) ?_
                      refine s_val rfl rfl (r_pickT rfl rfl rfl) ?_
                      refine s_val rfl rfl (r_as rfl rfl) ?_
                      refine s_nil ?_
                      refine q_then ?_
                      refine c_env [(4, .bool (decide (((p.s.size : Nat) : Int) ≤ 0)))] ⟨rfl, trivial⟩ ?_
                      refine c_ret ?_
                      refine q_ret1 rfl rfl ?_
                      replace H := H.keep 0
                      exact fin ⟨congrArg Value.bool (decide_eq_decide.2 (by unfold goodI; omega)), rfl⟩ H
                    · skip
                      refine s_no rfl rfl ?_
                      refine s_no rfl rfl ?_
                      refine s_no rfl rfl ?_
                      refine s_no rfl rfl ?_
                      refine s_no rfl rfl ?_
                      refine s_val rfl rfl (r_pickF rfl rfl rfl) ?_
                      refine s_val rfl rfl (r_as rfl rfl) ?_
                      refine s_nil ?_
                      refine q_then ?_
                      refine c_env [(4, .bool false)] ⟨rfl, trivial⟩ ?_
                      refine c_ret ?_
                      refine q_ret1 rfl rfl ?_
                      replace H := H.keep 0
                      exact fin ⟨congrArg Value.bool (decide_eq_false (by unfold goodI; omega)).symm, rfl⟩ H
                  · skip
                    refine s_no rfl rfl ?_
                    refine s_no rfl rfl ?_
                    refine s_no rfl rfl ?_
                    refine s_no rfl rfl ?_
                    refine s_val rfl rfl (r_pickF rfl rfl rfl) ?_
                    refine s_val rfl rfl (r_mv rfl rfl) ?_
                    refine s_no rfl rfl ?_
                    refine s_no rfl rfl ?_
                    refine s_no rfl rfl ?_
                    refine s_no rfl rfl ?_
                    refine s_no rfl rfl ?_
                    refine s_val rfl rfl (r_pickF rfl rfl rfl) ?_
                    refine s_val rfl rfl (r_as rfl rfl) ?_
                    refine s_nil ?_
                    refine q_then ?_
                    refine c_env [(4, .bool false)] ⟨rfl, trivial⟩ ?_
                    refine c_ret ?_
                    refine q_ret1 rfl rfl ?_
                    replace H := H.keep 0
                    exact fin ⟨congrArg Value.bool (decide_eq_false (by unfold goodI; omega)).symm, rfl⟩ H
                · skip
                  refine s_no rfl rfl ?_
                  refine s_no rfl rfl ?_
                  refine s_no rfl rfl ?_
                  refine s_no rfl rfl ?_
                  refine s_val rfl rfl (r_pickF rfl rfl rfl) ?_
                  refine s_val rfl rfl (r_mv rfl rfl) ?_
                  refine s_no rfl rfl ?_
                  refine s_no rfl rfl ?_
                  refine s_no rfl rfl ?_
                  refine s_no rfl rfl ?_
                  refine s_val rfl rfl (r_pickF rfl rfl rfl) ?_
                  refine s_val rfl rfl (r_mv rfl rfl) ?_
                  refine s_no rfl rfl ?_
                  refine s_no rfl rfl ?_
                  refine s_no rfl rfl ?_
                  refine s_no rfl rfl ?_
                  refine s_no rfl rfl ?_
                  refine s_val rfl rfl (r_pickF rfl rfl rfl) ?_
                  refine s_val rfl rfl (r_as rfl rfl) ?_
                  refine s_nil ?_
                  refine q_then ?_
                  refine c_env [(4, .bool false)] ⟨rfl, trivial⟩ ?_
                  refine c_ret ?_
                  refine q_ret1 rfl rfl ?_
                  replace H := H.keep 0
                  exact fin ⟨congrArg Value.bool (decide_eq_false (by unfold goodI; omega)).symm, rfl⟩ H
              · skip
                refine s_no rfl rfl ?_
                refine s_no rfl rfl ?_
                refine s_no rfl rfl ?_
                refine s_val rfl rfl (r_pickF rfl rfl rfl) ?_
                refine s_val rfl rfl (r_mv rfl rfl) ?_
                refine s_no rfl rfl ?_
                refine s_no rfl rfl ?_
                refine s_no rfl rfl ?_
                refine s_no rfl rfl ?_
                refine s_val rfl rfl (r_pickF rfl rfl rfl) ?_
                refine s_val rfl rfl (r_mv rfl rfl) ?_
                refine s_no rfl rfl ?_
                refine s_no rfl rfl ?_
                refine s_no rfl rfl ?_
                refine s_no rfl rfl ?_
                refine s_val rfl rfl (r_pickF rfl rfl rfl) ?_
                refine s_val rfl rfl (r_mv rfl rfl) ?_
                refine s_no rfl rfl ?_
                refine s_no rfl rfl ?_
                refine s_no rfl rfl ?_
                refine s_no rfl rfl ?_
                refine s_no rfl rfl ?_
                refine s_val rfl rfl (r_pickF rfl rfl rfl) ?_
                refine s_val rfl rfl (r_as rfl rfl) ?_
                refine s_nil ?_
                refine q_then ?_
                refine c_env [(4, .bool false)] ⟨rfl, trivial⟩ ?_
                refine c_ret ?_
                refine q_ret1 rfl rfl ?_
                replace H := H.keep 0
                exact fin ⟨congrArg Value.bool (decide_eq_false (by unfold goodI; omega)).symm, rfl⟩ H
            · skip
              refine c_skip ?_
              refine q_blockN ?_
              refine q_then ?_
              refine c_env [(2, .pointer (some ⟨b1, 0, none⟩)), (4, .bool false), (5, .int .i64 0), (6, .int .i64 0), (7, .int .i64 0)] ⟨rfl, rfl, rfl, rfl, rfl, trivial⟩ ?_
              refine c_seq ?_
              refine c_reg ?_
              refine s_val rfl rfl (r_fa rfl fo29_0 rfl) ?_
              refine s_val rfl rfl (r_ld rfl ty3 rfl (H.cellI 0 rfl rfl)) ?_
              refine s_val rfl rfl (r_ge rfl rfl rfl) ?_
              refine s_val rfl rfl (r_mv rfl rfl) ?_
              refine s_dec (d := 27) (p := (0 : Int) ≤ p.op) rfl (fun h20 => ?_) (fun h20 => ?_)
              · skip
                refine s_val rfl rfl (r_fa rfl fo29_0 rfl) ?_
                refine s_val rfl rfl (r_ld rfl ty3 rfl (H.cellI 0 rfl rfl)) ?_
                refine s_val rfl rfl (r_le rfl rfl rfl) ?_
                refine s_val rfl rfl (r_pickT rfl rfl rfl) ?_
                refine s_val rfl rfl (r_mv rfl rfl) ?_
                refine s_dec (d := 32) (p := p.op ≤ 23) rfl (fun h21 => ?_) (fun h21 => ?_)
                · skip
                  refine s_val rfl rfl (r_fa rfl fo29_1 rfl) ?_
                  refine s_val rfl rfl (r_ld rfl ty3 rfl (H.cellI 0 rfl rfl)) ?_
                  refine s_val rfl rfl (r_mv rfl rfl) ?_
                  refine s_val rfl rfl (r_ge rfl rfl rfl) ?_
                  refine s_val rfl rfl (r_pickT rfl rfl rfl) ?_
                  refine s_val rfl rfl (r_mv rfl rfl) ?_
                  refine s_dec (d := 38) (p := (0 : Int) ≤ p.a) rfl (fun h22 => ?_) (fun h22 => ?_)
                  · skip
                    refine s_val rfl rfl (r_fa rfl fo29_1 rfl) ?_
                    refine s_val rfl rfl (r_ld rfl ty3 rfl (H.cellI 0 rfl rfl)) ?_
                    refine s_val rfl rfl (r_mv rfl rfl) ?_
                    refine s_val rfl rfl (r_le rfl rfl rfl) ?_
                    refine s_val rfl rfl (r_pickT rfl rfl rfl) ?_
                    refine s_val rfl rfl (r_mv rfl rfl) ?_
                    refine s_dec (d := 44) (p := p.a ≤ 0) rfl (fun h23 => ?_) (fun h23 => ?_)
                    · skip
                      refine s_val rfl rfl (r_fa rfl fo29_2 rfl) ?_
                      refine s_val rfl rfl (r_ld rfl ty9 rfl (H.cellI 0 rfl rfl)) ?_
                      refine s_val rfl rfl (r_lenS rfl un9 rfl) ?_
                      refine s_val rfl rfl (r_mv rfl rfl) ?_
                      refine s_val rfl rfl (r_le rfl rfl rfl) ?_
                      refine s_val rfl rfl (r_pickT rfl rfl rfl) ?_
                      refine s_val rfl rfl (r_as rfl rfl) ?_
                      refine s_nil ?_
                      refine q_then ?_
                      refine c_env [(4, .bool (decide (((p.s.size : Nat) : Int) ≤ 0)))] ⟨rfl, trivial⟩ ?_
                      refine c_ret ?_
                      refine q_ret1 rfl rfl ?_
                      replace H := H.keep 0
                      exact fin ⟨congrArg Value.bool (decide_eq_decide.2 (by unfold goodI; omega)), rfl⟩ H
                    · skip
                      refine s_no rfl rfl ?_
                      refine s_no rfl rfl ?_
                      refine s_no rfl rfl ?_
                      refine s_no rfl rfl ?_
                      refine s_no rfl rfl ?_
                      refine s_val rfl rfl (r_pickF rfl rfl rfl) ?_
                      refine s_val rfl rfl (r_as rfl rfl) ?_
                      refine s_nil ?_
                      refine q_then ?_
                      refine c_env [(4, .bool false)] ⟨rfl, trivial⟩ ?_
                      refine c_ret ?_
                      refine q_ret1 rfl rfl ?_
                      replace H := H.keep 0
                      exact fin ⟨congrArg Value.bool (decide_eq_false (by unfold goodI; omega)).symm, rfl⟩ H
                  · skip
                    refine s_no rfl rfl ?_
                    refine s_no rfl rfl ?_
                    refine s_no rfl rfl ?_
                    refine s_no rfl rfl ?_
                    refine s_val rfl rfl (r_pickF rfl rfl rfl) ?_
                    refine s_val rfl rfl (r_mv rfl rfl) ?_
                    refine s_no rfl rfl ?_
                    refine s_no rfl rfl ?_
                    refine s_no rfl rfl ?_
                    refine s_no rfl rfl ?_
                    refine s_no rfl rfl ?_
                    refine s_val rfl rfl (r_pickF rfl rfl rfl) ?_
                    refine s_val rfl rfl (r_as rfl rfl) ?_
                    refine s_nil ?_
                    refine q_then ?_
                    refine c_env [(4, .bool false)] ⟨rfl, trivial⟩ ?_
                    refine c_ret ?_
                    refine q_ret1 rfl rfl ?_
                    replace H := H.keep 0
                    exact fin ⟨congrArg Value.bool (decide_eq_false (by unfold goodI; omega)).symm, rfl⟩ H
                · skip
                  refine s_no rfl rfl ?_
                  refine s_no rfl rfl ?_
                  refine s_no rfl rfl ?_
                  refine s_no rfl rfl ?_
                  refine s_val rfl rfl (r_pickF rfl rfl rfl) ?_
                  refine s_val rfl rfl (r_mv rfl rfl) ?_
                  refine s_no rfl rfl ?_
                  refine s_no rfl rfl ?_
                  refine s_no rfl rfl ?_
                  refine s_no rfl rfl ?_
                  refine s_val rfl rfl (r_pickF rfl rfl rfl) ?_
                  refine s_val rfl rfl (r_mv rfl rfl) ?_
                  refine s_no rfl rfl ?_
                  refine s_no rfl rfl ?_
                  refine s_no rfl rfl ?_
                  refine s_no rfl rfl ?_
                  refine s_no rfl rfl ?_
                  refine s_val rfl rfl (r_pickF rfl rfl rfl) ?_
                  refine s_val rfl rfl (r_as rfl rfl) ?_
                  refine s_nil ?_
                  refine q_then ?_
                  refine c_env [(4, .bool false)] ⟨rfl, trivial⟩ ?_
                  refine c_ret ?_
                  refine q_ret1 rfl rfl ?_
                  replace H := H.keep 0
                  exact fin ⟨congrArg Value.bool (decide_eq_false (by unfold goodI; omega)).symm, rfl⟩ H
              · skip
                refine s_no rfl rfl ?_
                refine s_no rfl rfl ?_
                refine s_no rfl rfl ?_
                refine s_val rfl rfl (r_pickF rfl rfl rfl) ?_
                refine s_val rfl rfl (r_mv rfl rfl) ?_
                refine s_no rfl rfl ?_
                refine s_no rfl rfl ?_
                refine s_no rfl rfl ?_
                refine s_no rfl rfl ?_
                refine s_val rfl rfl (r_pickF rfl rfl rfl) ?_
                refine s_val rfl rfl (r_mv rfl rfl) ?_
                refine s_no rfl rfl ?_
                refine s_no rfl rfl ?_
                refine s_no rfl rfl ?_
                refine s_no rfl rfl ?_
                refine s_val rfl rfl (r_pickF rfl rfl rfl) ?_
                refine s_val rfl rfl (r_mv rfl rfl) ?_
                refine s_no rfl rfl ?_
                refine s_no rfl rfl ?_
                refine s_no rfl rfl ?_
                refine s_no rfl rfl ?_
                refine s_no rfl rfl ?_
                refine s_val rfl rfl (r_pickF rfl rfl rfl) ?_
                refine s_val rfl rfl (r_as rfl rfl) ?_
                refine s_nil ?_
                refine q_then ?_
                refine c_env [(4, .bool false)] ⟨rfl, trivial⟩ ?_
                refine c_ret ?_
                refine q_ret1 rfl rfl ?_
                replace H := H.keep 0
                exact fin ⟨congrArg Value.bool (decide_eq_false (by unfold goodI; omega)).symm, rfl⟩ H
          · skip
            refine c_reg ?_
            refine s_val rfl rfl (r_eq rfl rfl rfl) ?_
            refine s_val rfl rfl (r_as rfl rfl) ?_
            refine s_nil ?_
            refine q_then ?_
            refine c_env [(2, .pointer (some ⟨b1, 0, none⟩)), (4, .bool false), (5, .int .i64 0), (6, .int .i64 0), (7, .int .i64 0), (21, .bool (decide (p.op = 22)))] ⟨rfl, rfl, rfl, rfl, rfl, rfl, trivial⟩ ?_
            refine c_dec (p := p.op = 22) rfl (fun h24 => ?_) (fun h24 => ?_)
            · skip
              refine c_reg ?_
              refine s_val rfl rfl (r_as rfl rfl) ?_
              refine s_nil ?_
              refine q_blockN ?_
              refine q_then ?_
              refine c_env [(2, .pointer (some ⟨b1, 0, none⟩)), (4, .bool false), (5, .int .i64 0), (6, .int .i64 7), (7, .int .i64 0)] ⟨rfl, rfl, rfl, rfl, rfl, trivial⟩ ?_
              refine c_seq ?_
              refine c_reg ?_
              refine s_val rfl rfl (r_fa rfl fo29_0 rfl) ?_
              refine s_val rfl rfl (r_ld rfl ty3 rfl (H.cellI 0 rfl rfl)) ?_
              refine s_val rfl rfl (r_ge rfl rfl rfl) ?_
              refine s_val rfl rfl (r_mv rfl rfl) ?_
              refine s_dec (d := 27) (p := (0 : Int) ≤ p.op) rfl (fun h25 => ?_) (fun h25 => ?_)
              · skip
                refine s_val rfl rfl (r_fa rfl fo29_0 rfl) ?_
                refine s_val rfl rfl (r_ld rfl ty3 rfl (H.cellI 0 rfl rfl)) ?_
                refine s_val rfl rfl (r_le rfl rfl rfl) ?_
                refine s_val rfl rfl (r_pickT rfl rfl rfl) ?_
                refine s_val rfl rfl (r_mv rfl rfl) ?_
                refine s_dec (d := 32) (p := p.op ≤ 23) rfl (fun h26 => ?_) (fun h26 => ?_)
                · skip
                  refine s_val rfl rfl (r_fa rfl fo29_1 rfl) ?_
                  refine s_val rfl rfl (r_ld rfl ty3 rfl (H.cellI 0 rfl rfl)) ?_
                  refine s_val rfl rfl (r_mv rfl rfl) ?_
                  refine s_val rfl rfl (r_ge rfl rfl rfl) ?_
                  refine s_val rfl rfl (r_pickT rfl rfl rfl) ?_
                  refine s_val rfl rfl (r_mv rfl rfl) ?_
                  refine s_dec (d := 38) (p := (0 : Int) ≤ p.a) rfl (fun h27 => ?_) (fun h27 => ?_)
                  · skip
                    refine s_val rfl rfl (r_fa rfl fo29_1 rfl) ?_
                    refine s_val rfl rfl (r_ld rfl ty3 rfl (H.cellI 0 rfl rfl)) ?_
                    refine s_val rfl rfl (r_mv rfl rfl) ?_
                    refine s_val rfl rfl (r_le rfl rfl rfl) ?_
                    refine s_val rfl rfl (r_pickT rfl rfl rfl) ?_
                    refine s_val rfl rfl (r_mv rfl rfl) ?_
                    refine s_dec (d := 44) (p := p.a ≤ 7) rfl (fun h28 => ?_) (fun h28 => ?_)
                    · skip
                      refine s_val rfl rfl (r_fa rfl fo29_2 rfl) ?_
                      refine s_val rfl rfl (r_ld rfl ty9 rfl (H.cellI 0 rfl rfl)) ?_
                      refine s_val rfl rfl (r_lenS rfl un9 rfl) ?_
                      refine s_val rfl rfl (r_mv rfl rfl) ?_
                      refine s_val rfl rfl (r_le rfl rfl rfl) ?_
                      refine s_val rfl rfl (r_pickT rfl rfl rfl) ?_
                      refine s_val rfl rfl (r_as rfl rfl) ?_
                      refine s_nil ?_
                      refine q_then ?_
                      refine c_env [(4, .bool (decide (((p.s.size : Nat) : Int) ≤ 0)))] ⟨rfl, trivial⟩ ?_
                      refine c_ret ?_
                      refine q_ret1 rfl rfl ?_
                      replace H := H.keep 0
                      exact fin ⟨congrArg Value.bool (decide_eq_decide.2 (by unfold goodI; omega)), rfl⟩ H
                    · skip
                      refine s_no rfl rfl ?_
                      refine s_no rfl rfl ?_
                      refine s_no rfl rfl ?_
                      refine s_no rfl rfl ?_
                      refine s_no rfl rfl ?_
                      refine s_val rfl rfl (r_pickF rfl rfl rfl) ?_
                      refine s_val rfl rfl (r_as rfl rfl) ?_
                      refine s_nil ?_
                      refine q_then ?_
                      refine c_env [(4, .bool false)] ⟨rfl, trivial⟩ ?_
                      refine c_ret ?_
                      refine q_ret1 rfl rfl ?_
                      replace H := H.keep 0
                      exact fin ⟨congrArg Value.bool (decide_eq_false (by unfold goodI; omega)).symm, rfl⟩ H
                  · skip
                    refine s_no rfl rfl ?_
                    refine s_no rfl rfl ?_
                    refine s_no rfl rfl ?_
                    refine s_no rfl rfl ?_
                    refine s_val rfl rfl (r_pickF rfl rfl rfl) ?_
                    refine s_val rfl rfl (r_mv rfl rfl) ?_
                    refine s_no rfl rfl ?_
                    refine s_no rfl rfl ?_
                    refine s_no rfl rfl ?_
                    refine s_no rfl rfl ?_
                    refine s_no rfl rfl ?_
                    refine s_val rfl rfl (r_pickF rfl rfl rfl) ?_
                    refine s_val rfl rfl (r_as rfl rfl) ?_
                    refine s_nil ?_
                    refine q_then ?_
                    refine c_env [(4, .bool false)] ⟨rfl, trivial⟩ ?_
                    refine c_ret ?_
                    refine q_ret1 rfl rfl ?_
                    replace H := H.keep 0
                    exact fin ⟨congrArg Value.bool (decide_eq_false (by unfold goodI; omega)).symm, rfl⟩ H
                · skip
                  refine s_no rfl rfl ?_
                  refine s_no rfl rfl ?_
                  refine s_no rfl rfl ?_
                  refine s_no rfl rfl ?_
                  refine s_val rfl rfl (r_pickF rfl rfl rfl) ?_
                  refine s_val rfl rfl (r_mv rfl rfl) ?_
                  refine s_no rfl rfl ?_
                  refine s_no rfl rfl ?_
                  refine s_no rfl rfl ?_
                  refine s_no rfl rfl ?_
                  refine s_val rfl rfl (r_pickF rfl rfl rfl) ?_
                  refine s_val rfl rfl (r_mv rfl rfl) ?_
                  refine s_no rfl rfl ?_
                  refine s_no rfl rfl ?_
                  refine s_no rfl rfl ?_
                  refine s_no rfl rfl ?_
                  refine s_no rfl rfl ?_
                  refine s_val rfl rfl (r_pickF rfl rfl rfl) ?_
                  refine s_val rfl rfl (r_as rfl rfl) ?_
                  refine s_nil ?_
                  refine q_then ?_
                  refine c_env [(4, .bool false)] ⟨rfl, trivial⟩ ?_
                  refine c_ret ?_
                  refine q_ret1 rfl rfl ?_
                  replace H := H.keep 0
                  exact fin ⟨congrArg Value.bool (decide_eq_false (by unfold goodI; omega)).symm, rfl⟩ H
              · skip
                refine s_no rfl rfl ?_
                refine s_no rfl rfl ?_
                refine s_no rfl rfl ?_
                refine s_val rfl rfl (r_pickF rfl rfl rfl) ?_
                refine s_val rfl rfl (r_mv rfl rfl) ?_
                refine s_no rfl rfl ?_
                refine s_no rfl rfl ?_
                refine s_no rfl rfl ?_
                refine s_no rfl rfl ?_
                refine s_val rfl rfl (r_pickF rfl rfl rfl) ?_
                refine s_val rfl rfl (r_mv rfl rfl) ?_
                refine s_no rfl rfl ?_
                refine s_no rfl rfl ?_
                refine s_no rfl rfl ?_
                refine s_no rfl rfl ?_
                refine s_val rfl rfl (r_pickF rfl rfl rfl) ?_
                refine s_val rfl rfl (r_mv rfl rfl) ?_
                refine s_no rfl rfl ?_
                refine s_no rfl rfl ?_
                refine s_no rfl rfl ?_
                refine s_no rfl rfl ?_
                refine s_no rfl rfl ?_
                refine s_val rfl rfl (r_pickF rfl rfl rfl) ?_
                refine s_val rfl rfl (r_as rfl rfl) ?_
                refine s_nil ?_
                refine q_then ?_
                refine c_env [(4, .bool false)] ⟨rfl, trivial⟩ ?_
                refine c_ret ?_
                refine q_ret1 rfl rfl ?_
                replace H := H.keep 0
                exact fin ⟨congrArg Value.bool (decide_eq_false (by unfold goodI; omega)).symm, rfl⟩ H
            · skip
              refine c_skip ?_
              refine q_blockN ?_
              refine q_then ?_
              refine c_env [(2, .pointer (some ⟨b1, 0, none⟩)), (4, .bool false), (5, .int .i64 0), (6, .int .i64 0), (7, .int .i64 0)] ⟨rfl, rfl, rfl, rfl, rfl, trivial⟩ ?_
              refine c_seq ?_
              refine c_reg ?_
              refine s_val rfl rfl (r_fa rfl fo29_0 rfl) ?_
              refine s_val rfl rfl (r_ld rfl ty3 rfl (H.cellI 0 rfl rfl)) ?_
              refine s_val rfl rfl (r_ge rfl rfl rfl) ?_
              refine s_val rfl rfl (r_mv rfl rfl) ?_
              refine s_dec (d := 27) (p := (0 : Int) ≤ p.op) rfl (fun h29 => ?_) (fun h29 => ?_)
              · skip
                refine s_val rfl rfl (r_fa rfl fo29_0 rfl) ?_
                refine s_val rfl rfl (r_ld rfl ty3 rfl (H.cellI 0 rfl rfl)) ?_
                refine s_val rfl rfl (r_le rfl rfl rfl) ?_
                refine s_val rfl rfl (r_pickT rfl rfl rfl) ?_
                refine s_val rfl rfl (r_mv rfl rfl) ?_
                refine s_dec (d := 32) (p := p.op ≤ 23) rfl (fun h30 => ?_) (fun h30 => ?_)
                · skip
                  refine s_val rfl rfl (r_fa rfl fo29_1 rfl) ?_
                  refine s_val rfl rfl (r_ld rfl ty3 rfl (H.cellI 0 rfl rfl)) ?_
                  refine s_val rfl rfl (r_mv rfl rfl) ?_
                  refine s_val rfl rfl (r_ge rfl rfl rfl) ?_
                  refine s_val rfl rfl (r_pickT rfl rfl rfl) ?_
                  refine s_val rfl rfl (r_mv rfl rfl) ?_
                  refine s_dec (d := 38) (p := (0 : Int) ≤ p.a) rfl (fun h31 => ?_) (fun h31 => ?_)
                  · skip
                    refine s_val rfl rfl (r_fa rfl fo29_1 rfl) ?_
                    refine s_val rfl rfl (r_ld rfl ty3 rfl (H.cellI 0 rfl rfl)) ?_
                    refine s_val rfl rfl (r_mv rfl rfl) ?_
                    refine s_val rfl rfl (r_le rfl rfl rfl) ?_
                    refine s_val rfl rfl (r_pickT rfl rfl rfl) ?_
                    refine s_val rfl rfl (r_mv rfl rfl) ?_
                    refine s_dec (d := 44) (p := p.a ≤ 0) rfl (fun h32 => ?_) (fun h32 => ?_)
                    · skip
                      refine s_val rfl rfl (r_fa rfl fo29_2 rfl) ?_
                      refine s_val rfl rfl (r_ld rfl ty9 rfl (H.cellI 0 rfl rfl)) ?_
                      refine s_val rfl rfl (r_lenS rfl un9 rfl) ?_
                      refine s_val rfl rfl (r_mv rfl rfl) ?_
                      refine s_val rfl rfl (r_le rfl rfl rfl) ?_
                      refine s_val rfl rfl (r_pickT rfl rfl rfl) ?_
                      refine s_val rfl rfl (r_as rfl rfl) ?_
                      refine s_nil ?_
                      refine q_then ?_
                      refine c_env [(4, .bool (decide (((p.s.size : Nat) : Int) ≤ 0)))] ⟨rfl, trivial⟩ ?_
                      refine c_ret ?_
                      refine q_ret1 rfl rfl ?_
                      replace H := H.keep 0
                      exact fin ⟨congrArg Value.bool (decide_eq_decide.2 (by unfold goodI; omega)), rfl⟩ H
                    · skip
                      refine s_no rfl rfl ?_
                      refine s_no rfl rfl ?_
                      refine s_no rfl rfl ?_
                      refine s_no rfl rfl ?_
                      refine s_no rfl rfl ?_
                      refine s_val rfl rfl (r_pickF rfl rfl rfl) ?_
                      refine s_val rfl rfl (r_as rfl rfl) ?_
                      refine s_nil ?_
                      refine q_then ?_
                      refine c_env [(4, .bool false)] ⟨rfl, trivial⟩ ?_
                      refine c_ret ?_
                      refine q_ret1 rfl rfl ?_
                      replace H := H.keep 0
                      exact fin ⟨congrArg Value.bool (decide_eq_false (by unfold goodI; omega)).symm, rfl⟩ H
                  · skip
                    refine s_no rfl rfl ?_
                    refine s_no rfl rfl ?_
                    refine s_no rfl rfl ?_
                    refine s_no rfl rfl ?_
                    refine s_val rfl rfl (r_pickF rfl rfl rfl) ?_
                    refine s_val rfl rfl (r_mv rfl rfl) ?_
                    refine s_no rfl rfl ?_
                    refine s_no rfl rfl ?_
                    refine s_no rfl rfl ?_
                    refine s_no rfl rfl ?_
                    refine s_no rfl rfl ?_
                    refine s_val rfl rfl (r_pickF rfl rfl rfl) ?_
                    refine s_val rfl rfl (r_as rfl rfl) ?_
                    refine s_nil ?_
                    refine q_then ?_
                    refine c_env [(4, .bool false)] ⟨rfl, trivial⟩ ?_
                    refine c_ret ?_
                    refine q_ret1 rfl rfl ?_
                    replace H := H.keep 0
                    exact fin ⟨congrArg Value.bool (decide_eq_false (by unfold goodI; omega)).symm, rfl⟩ H
                · skip
                  refine s_no rfl rfl ?_
                  refine s_no rfl rfl ?_
                  refine s_no rfl rfl ?_
                  refine s_no rfl rfl ?_
                  refine s_val rfl rfl (r_pickF rfl rfl rfl) ?_
                  refine s_val rfl rfl (r_mv rfl rfl) ?_
                  refine s_no rfl rfl ?_
                  refine s_no rfl rfl ?_
                  refine s_no rfl rfl ?_
                  refine s_no rfl rfl ?_
                  refine s_val rfl rfl (r_pickF rfl rfl rfl) ?_
                  refine s_val rfl rfl (r_mv rfl rfl) ?_
                  refine s_no rfl rfl ?_
                  refine s_no rfl rfl ?_
                  refine s_no rfl rfl ?_
                  refine s_no rfl rfl ?_
                  refine s_no rfl rfl ?_
                  refine s_val rfl rfl (r_pickF rfl rfl rfl) ?_
                  refine s_val rfl rfl (r_as rfl rfl) ?_
                  refine s_nil ?_
                  refine q_then ?_
                  refine c_env [(4, .bool false)] ⟨rfl, trivial⟩ ?_
                  refine c_ret ?_
                  refine q_ret1 rfl rfl ?_
                  replace H := H.keep 0
                  exact fin ⟨congrArg Value.bool (decide_eq_false (by unfold goodI; omega)).symm, rfl⟩ H
              · skip
                refine s_no rfl rfl ?_
                refine s_no rfl rfl ?_
                refine s_no rfl rfl ?_
                refine s_val rfl rfl (r_pickF rfl rfl rfl) ?_
                refine s_val rfl rfl (r_mv rfl rfl) ?_
                refine s_no rfl rfl ?_
                refine s_no rfl rfl ?_
                refine s_no rfl rfl ?_
                refine s_no rfl rfl ?_
                refine s_val rfl rfl (r_pickF rfl rfl rfl) ?_
                refine s_val rfl rfl (r_mv rfl rfl) ?_
                refine s_no rfl rfl ?_
                refine s_no rfl rfl ?_
                refine s_no rfl rfl ?_
                refine s_no rfl rfl ?_
                refine s_val rfl rfl (r_pickF rfl rfl rfl) ?_
                refine s_val rfl rfl (r_mv rfl rfl) ?_
                refine s_no rfl rfl ?_
                refine s_no rfl rfl ?_
                refine s_no rfl rfl ?_
                refine s_no rfl rfl ?_
                refine s_no rfl rfl ?_
                refine s_val rfl rfl (r_pickF rfl rfl rfl) ?_
                refine s_val rfl rfl (r_as rfl rfl) ?_
                refine s_nil ?_
                refine q_then ?_
                refine c_env [(4, .bool false)] ⟨rfl, trivial⟩ ?_
                refine c_ret ?_
                refine q_ret1 rfl rfl ?_
                replace H := H.keep 0
                exact fin ⟨congrArg Value.bool (decide_eq_false (by unfold goodI; omega)).symm, rfl⟩ H
      · skip
        refine c_reg ?_
        refine s_val rfl rfl (r_eq rfl rfl rfl) ?_
        refine s_val rfl rfl (r_as rfl rfl) ?_
        refine s_nil ?_
        refine q_then ?_
        refine c_env [(1, .int .i64 n), (2, .pointer (some ⟨b1, 0, none⟩)), (4, .bool false), (5, .int .i64 0), (6, .int .i64 0), (7, .int .i64 0), (9, .int .i64 p.op), (17, .bool (decide (p.op = 20)))] ⟨rfl, rfl, rfl, rfl, rfl, rfl, rfl, rfl, trivial⟩ ?_
        refine c_dec (p := p.op = 20) rfl (fun h33 => ?_) (fun h33 => ?_)
        · skip
          refine c_reg ?_
          refine s_val rfl rfl (r_mv rfl rfl) ?_
          refine s_val rfl rfl (r_as rfl rfl) ?_
          refine s_nil ?_
          refine q_blockN ?_
          refine q_then ?_
          refine c_env [(2, .pointer (some ⟨b1, 0, none⟩)), (4, .bool false), (5, .int .i64 0), (6, .int .i64 n), (7, .int .i64 0)] ⟨rfl, rfl, rfl, rfl, rfl, trivial⟩ ?_
          refine c_seq ?_
          refine c_reg ?_
          refine s_val rfl rfl (r_fa rfl fo29_0 rfl) ?_
          refine s_val rfl rfl (r_ld rfl ty3 rfl (H.cellI 0 rfl rfl)) ?_
          refine s_val rfl rfl (r_ge rfl rfl rfl) ?_
          refine s_val rfl rfl (r_mv rfl rfl) ?_
          refine s_dec (d := 27) (p := (0 : Int) ≤ p.op) rfl (fun h34 => ?_) (fun h34 => ?_)
          · skip
            refine s_val rfl rfl (r_fa rfl fo29_0 rfl) ?_
            refine s_val rfl rfl (r_ld rfl ty3 rfl (H.cellI 0 rfl rfl)) ?_
            refine s_val rfl rfl (r_le rfl rfl rfl) ?_
            refine s_val rfl rfl (r_pickT rfl rfl rfl) ?_
            refine s_val rfl rfl (r_mv rfl rfl) ?_
            refine s_dec (d := 32) (p := p.op ≤ 23) rfl (fun h35 => ?_) (fun h35 => ?_)
            · skip
              refine s_val rfl rfl (r_fa rfl fo29_1 rfl) ?_
              refine s_val rfl rfl (r_ld rfl ty3 rfl (H.cellI 0 rfl rfl)) ?_
              refine s_val rfl rfl (r_mv rfl rfl) ?_
              refine s_val rfl rfl (r_ge rfl rfl rfl) ?_
              refine s_val rfl rfl (r_pickT rfl rfl rfl) ?_
              refine s_val rfl rfl (r_mv rfl rfl) ?_
              refine s_dec (d := 38) (p := (0 : Int) ≤ p.a) rfl (fun h36 => ?_) (fun h36 => ?_)
              · skip
                refine s_val rfl rfl (r_fa rfl fo29_1 rfl) ?_
                refine s_val rfl rfl (r_ld rfl ty3 rfl (H.cellI 0 rfl rfl)) ?_
                refine s_val rfl rfl (r_mv rfl rfl) ?_
                refine s_val rfl rfl (r_le rfl rfl rfl) ?_
                refine s_val rfl rfl (r_pickT rfl rfl rfl) ?_
                refine s_val rfl rfl (r_mv rfl rfl) ?_
                refine s_dec (d := 44) (p := p.a ≤ n) rfl (fun h37 => ?_) (fun h37 => ?_)
                · skip
                  refine s_val rfl rfl (r_fa rfl fo29_2 rfl) ?_
                  refine s_val rfl rfl (r_ld rfl ty9 rfl (H.cellI 0 rfl rfl)) ?_
                  refine s_val rfl rfl (r_lenS rfl un9 rfl) ?_
                  refine s_val rfl rfl (r_mv rfl rfl) ?_
                  refine s_val rfl rfl (r_le rfl rfl rfl) ?_
                  refine s_val rfl rfl (r_pickT rfl rfl rfl) ?_
                  refine s_val rfl rfl (r_as rfl rfl) ?_
                  refine s_nil ?_
                  refine q_then ?_
                  refine c_env [(4, .bool (decide (((p.s.size : Nat) : Int) ≤ 0)))] ⟨rfl, trivial⟩ ?_
                  refine c_ret ?_
                  refine q_ret1 rfl rfl ?_
                  replace H := H.keep 0
                  exact fin ⟨congrArg Value.bool (decide_eq_decide.2 (by unfold goodI; omega)), rfl⟩ H
                · skip
                  refine s_no rfl rfl ?_
                  refine s_no rfl rfl ?_
                  refine s_no rfl rfl ?_
                  refine s_no rfl rfl ?_
                  refine s_no rfl rfl ?_
                  refine s_val rfl rfl (r_pickF rfl rfl rfl) ?_
                  refine s_val rfl rfl (r_as rfl rfl) ?_
                  refine s_nil ?_
                  refine q_then ?_
                  refine c_env [(4, .bool false)] ⟨rfl, trivial⟩ ?_
                  refine c_ret ?_
                  refine q_ret1 rfl rfl ?_
                  replace H := H.keep 0
                  exact fin ⟨congrArg Value.bool (decide_eq_false (by unfold goodI; omega)).symm, rfl⟩ H
              · skip
                refine s_no rfl rfl ?_
                refine s_no rfl rfl ?_
                refine s_no rfl rfl ?_
                refine s_no rfl rfl ?_
                refine s_val rfl rfl (r_pickF rfl rfl rfl) ?_
                refine s_val rfl rfl (r_mv rfl rfl) ?_
                refine s_no rfl rfl ?_
                refine s_no rfl rfl ?_
                refine s_no rfl rfl ?_
                refine s_no rfl rfl ?_
                refine s_no rfl rfl ?_
                refine s_val rfl rfl (r_pickF rfl rfl rfl) ?_
                refine s_val rfl rfl (r_as rfl rfl) ?_
                refine s_nil ?_
                refine q_then ?_
                refine c_env [(4, .bool false)] ⟨rfl, trivial⟩ ?_
                refine c_ret ?_
                refine q_ret1 rfl rfl ?_
                replace H := H.keep 0
                exact fin ⟨congrArg Value.bool (decide_eq_false (by unfold goodI; omega)).symm, rfl⟩ H
            · skip
              refine s_no rfl rfl ?_
              refine s_no rfl rfl ?_
              refine s_no rfl rfl ?_
              refine s_no rfl rfl ?_
              refine s_val rfl rfl (r_pickF rfl rfl rfl) ?_
              refine s_val rfl rfl (r_mv rfl rfl) ?_
              refine s_no rfl rfl ?_
              refine s_no rfl rfl ?_
              refine s_no rfl rfl ?_
              refine s_no rfl rfl ?_
              refine s_val rfl rfl (r_pickF rfl rfl rfl) ?_
              refine s_val rfl rfl (r_mv rfl rfl) ?_
              refine s_no rfl rfl ?_
              refine s_no rfl rfl ?_
              refine s_no rfl rfl ?_
              refine s_no rfl rfl ?_
              refine s_no rfl rfl ?_
              refine s_val rfl rfl (r_pickF rfl rfl rfl) ?_
              refine s_val rfl rfl (r_as rfl rfl) ?_
              refine s_nil ?_
              refine q_then ?_
              refine c_env [(4, .bool false)] ⟨rfl, trivial⟩ ?_
              refine c_ret ?_
              refine q_ret1 rfl rfl ?_
              replace H := H.keep 0
              exact fin ⟨congrArg Value.bool (decide_eq_false (by unfold goodI; omega)).symm, rfl⟩ H
          · skip
            refine s_no rfl rfl ?_
            refine s_no rfl rfl ?_
            refine s_no rfl rfl ?_
            refine s_val rfl rfl (r_pickF rfl rfl rfl) ?_
            refine s_val rfl rfl (r_mv rfl rfl) ?_
            refine s_no rfl rfl ?_
            refine s_no rfl rfl ?_
            refine s_no rfl rfl ?_
            refine s_no rfl rfl ?_
            refine s_val rfl rfl (r_pickF rfl rfl rfl) ?_
            refine s_val rfl rfl (r_mv rfl rfl) ?_
            refine s_no rfl rfl ?_
            refine s_no rfl rfl ?_
            refine s_no rfl rfl ?_
            refine s_no rfl rfl ?_
            refine s_val rfl rfl (r_pickF rfl rfl rfl) ?_
            refine s_val rfl rfl (r_mv rfl rfl) ?_
            refine s_no rfl rfl ?_
            refine s_no rfl rfl ?_
            refine s_no rfl rfl ?_
            refine s_no rfl rfl ?_
            refine s_no rfl rfl ?_
            refine s_val rfl rfl (r_pickF rfl rfl rfl) ?_
            refine s_val rfl rfl (r_as rfl rfl) ?_
            refine s_nil ?_
            refine q_then ?_
            refine c_env [(4, .bool false)] ⟨rfl, trivial⟩ ?_
            refine c_ret ?_
            refine q_ret1 rfl rfl ?_
            replace H := H.keep 0
            exact fin ⟨congrArg Value.bool (decide_eq_false (by unfold goodI; omega)).symm, rfl⟩ H
        · skip
          refine c_seq ?_
          refine c_seq ?_
          refine c_reg ?_
          refine s_val rfl rfl (r_eq rfl rfl rfl) ?_
          refine s_val rfl rfl (r_as rfl rfl) ?_
          refine s_nil ?_
          refine q_then ?_
          refine c_env [(2, .pointer (some ⟨b1, 0, none⟩)), (4, .bool false), (5, .int .i64 0), (6, .int .i64 0), (7, .int .i64 0), (9, .int .i64 p.op), (21, .bool (decide (p.op = 21)))] ⟨rfl, rfl, rfl, rfl, rfl, rfl, rfl, trivial⟩ ?_
          refine c_dec (p := p.op = 21) rfl (fun h38 => ?_) (fun h38 => ?_)
          · skip
            refine c_skip ?_
            refine q_then ?_
            refine c_env [(2, .pointer (some ⟨b1, 0, none⟩)), (4, .bool false), (5, .int .i64 0), (6, .int .i64 0), (7, .int .i64 0), (21, .bool (decide (p.op = 21)))] ⟨rfl, rfl, rfl, rfl, rfl, rfl, trivial⟩ ?_
            refine c_dec (p := p.op = 21) rfl (fun h39 => ?_) (fun h39 => ?_)
            · skip
              refine c_reg ?_
              refine s_val rfl rfl (r_as rfl rfl) ?_
              refine s_nil ?_
              refine q_blockN ?_
              refine q_then ?_
              refine c_env [(2, .pointer (some ⟨b1, 0, none⟩)), (4, .bool false), (5, .int .i64 0), (6, .int .i64 7), (7, .int .i64 0)] ⟨rfl, rfl, rfl, rfl, rfl, trivial⟩ ?_
              refine c_seq ?_
              refine c_reg ?_
              refine s_val rfl rfl (r_fa rfl fo29_0 rfl) ?_
              refine s_val rfl rfl (r_ld rfl ty3 rfl (H.cellI 0 rfl rfl)) ?_
              refine s_val rfl rfl (r_ge rfl rfl rfl) ?_
              refine s_val rfl rfl (r_mv rfl rfl) ?_
              refine s_dec (d := 27) (p := (0 : Int) ≤ p.op) rfl (fun h40 => ?_) (fun h40 => ?_)
              · skip
                refine s_val rfl rfl (r_fa rfl fo29_0 rfl) ?_
                refine s_val rfl rfl (r_ld rfl ty3 rfl (H.cellI 0 rfl rfl)) ?_
                refine s_val rfl rfl (r_le rfl rfl rfl) ?_
                refine s_val rfl rfl (r_pickT rfl rfl rfl) ?_
                refine s_val rfl rfl (r_mv rfl rfl) ?_
                refine s_dec (d := 32) (p := p.op ≤ 23) rfl (fun h41 => ?_) (fun h41 => ?_)
                · skip
                  refine s_val rfl rfl (r_fa rfl fo29_1 rfl) ?_
                  refine s_val rfl rfl (r_ld rfl ty3 rfl (H.cellI 0 rfl rfl)) ?_
                  refine s_val rfl rfl (r_mv rfl rfl) ?_
                  refine s_val rfl rfl (r_ge rfl rfl rfl) ?_
                  refine s_val rfl rfl (r_pickT rfl rfl rfl) ?_
                  refine s_val rfl rfl (r_mv rfl rfl) ?_
                  refine s_dec (d := 38) (p := (0 : Int) ≤ p.a) rfl (fun h42 => ?_) (fun h42 => ?_)
                  · skip
                    refine s_val rfl rfl (r_fa rfl fo29_1 rfl) ?_
                    refine s_val rfl rfl (r_ld rfl ty3 rfl (H.cellI 0 rfl rfl)) ?_
                    refine s_val rfl rfl (r_mv rfl rfl) ?_
                    refine s_val rfl rfl (r_le rfl rfl rfl) ?_
                    refine s_val rfl rfl (r_pickT rfl rfl rfl) ?_
                    refine s_val rfl rfl (r_mv rfl rfl) ?_
                    refine s_dec (d := 44) (p := p.a ≤ 7) rfl (fun h43 => ?_) (fun h43 => ?_)
                    · skip
                      refine s_val rfl rfl (r_fa rfl fo29_2 rfl) ?_
                      refine s_val rfl rfl (r_ld rfl ty9 rfl (H.cellI 0 rfl rfl)) ?_
                      refine s_val rfl rfl (r_lenS rfl un9 rfl) ?_
                      refine s_val rfl rfl (r_mv rfl rfl) ?_
                      refine s_val rfl rfl (r_le rfl rfl rfl) ?_
                      refine s_val rfl rfl (r_pickT rfl rfl rfl) ?_
                      refine s_val rfl rfl (r_as rfl rfl) ?_
                      refine s_nil ?_
                      refine q_then ?_
                      refine c_env [(4, .bool (decide (((p.s.size : Nat) : Int) ≤ 0)))] ⟨rfl, trivial⟩ ?_
                      refine c_ret ?_
                      refine q_ret1 rfl rfl ?_
                      replace H := H.keep 0
                      exact fin ⟨congrArg Value.bool (decide_eq_decide.2 (by unfold goodI; omega)), rfl⟩ H
                    · skip
                      refine s_no rfl rfl ?_
                      refine s_no rfl rfl ?_
                      refine s_no rfl rfl ?_
                      refine s_no rfl rfl ?_
                      refine s_no rfl rfl ?_
                      refine s_val rfl rfl (r_pickF rfl rfl rfl) ?_
                      refine s_val rfl rfl (r_as rfl rfl) ?_
                      refine s_nil ?_
                      refine q_then ?_
                      refine c_env [(4, .bool false)] ⟨rfl, trivial⟩ ?_
                      refine c_ret ?_
                      refine q_ret1 rfl rfl ?_
                      replace H := H.keep 0
                      exact fin ⟨congrArg Value.bool (decide_eq_false (by unfold goodI; omega)).symm, rfl⟩ H
                  · skip
                    refine s_no rfl rfl ?_
                    refine s_no rfl rfl ?_
                    refine s_no rfl rfl ?_
                    refine s_no rfl rfl ?_
                    refine s_val rfl rfl (r_pickF rfl rfl rfl) ?_
                    refine s_val rfl rfl (r_mv rfl rfl) ?_
                    refine s_no rfl rfl ?_
                    refine s_no rfl rfl ?_
                    refine s_no rfl rfl ?_
                    refine s_no rfl rfl ?_
                    refine s_no rfl rfl ?_
                    refine s_val rfl rfl (r_pickF rfl rfl rfl) ?_
                    refine s_val rfl rfl (r_as rfl rfl) ?_
                    refine s_nil ?_
                    refine q_then ?_
                    refine c_env [(4, .bool false)] ⟨rfl, trivial⟩ ?_
                    refine c_ret ?_
                    refine q_ret1 rfl rfl ?_
                    replace H := H.keep 0
                    exact fin ⟨congrArg Value.bool (decide_eq_false (by unfold goodI; omega)).symm, rfl⟩ H
                · skip
                  refine s_no rfl rfl ?_
                  refine s_no rfl rfl ?_
                  refine s_no rfl rfl ?_
                  refine s_no rfl rfl ?_
                  refine s_val rfl rfl (r_pickF rfl rfl rfl) ?_
                  refine s_val rfl rfl (r_mv rfl rfl) ?_
                  refine s_no rfl rfl ?_
                  refine s_no rfl rfl ?_
                  refine s_no rfl rfl ?_
                  refine s_no rfl rfl ?_
                  refine s_val rfl rfl (r_pickF rfl rfl rfl) ?_
                  refine s_val rfl rfl (r_mv rfl rfl) ?_
                  refine s_no rfl rfl ?_
                  refine s_no rfl rfl ?_
                  refine s_no rfl rfl ?_
                  refine s_no rfl rfl ?_
                  refine s_no rfl rfl ?_
                  refine s_val rfl rfl (r_pickF rfl rfl rfl) ?_
                  refine s_val rfl rfl (r_as rfl rfl) ?_
                  refine s_nil ?_
                  refine q_then ?_
                  refine c_env [(4, .bool false)] ⟨rfl, trivial⟩ ?_
                  refine c_ret ?_
                  refine q_ret1 rfl rfl ?_
                  replace H := H.keep 0
                  exact fin ⟨congrArg Value.bool (decide_eq_false (by unfold goodI; omega)).symm, rfl⟩ H
              · skip
                refine s_no rfl rfl ?_
                refine s_no rfl rfl ?_
                refine s_no rfl rfl ?_
                refine s_val rfl rfl (r_pickF rfl rfl rfl) ?_
                refine s_val rfl rfl (r_mv rfl rfl) ?_
                refine s_no rfl rfl ?_
                refine s_no rfl rfl ?_
                refine s_no rfl rfl ?_
                refine s_no rfl rfl ?_
                refine s_val rfl rfl (r_pickF rfl rfl rfl) ?_
                refine s_val rfl rfl (r_mv rfl rfl) ?_
                refine s_no rfl rfl ?_
                refine s_no rfl rfl ?_
                refine s_no rfl rfl ?_
                refine s_no rfl rfl ?_
                refine s_val rfl rfl (r_pickF rfl rfl rfl) ?_
                refine s_val rfl rfl (r_mv rfl rfl) ?_
                refine s_no rfl rfl ?_
                refine s_no rfl rfl ?_
                refine s_no rfl rfl ?_
                refine s_no rfl rfl ?_
                refine s_no rfl rfl ?_
                refine s_val rfl rfl (r_pickF rfl rfl rfl) ?_
                refine s_val rfl rfl (r_as rfl rfl) ?_
                refine s_nil ?_
                refine q_then ?_
                refine c_env [(4, .bool false)] ⟨rfl, trivial⟩ ?_
                refine c_ret ?_
                refine q_ret1 rfl rfl ?_
                replace H := H.keep 0
                exact fin ⟨congrArg Value.bool (decide_eq_false (by unfold goodI; omega)).symm, rfl⟩ H
            · skip
              refine c_skip ?_
              refine q_blockN ?_
              refine q_then ?_
              refine c_env [(2, .pointer (some ⟨b1, 0, none⟩)), (4, .bool false), (5, .int .i64 0), (6, .int .i64 0), (7, .int .i64 0)] ⟨rfl, rfl, rfl, rfl, rfl, trivial⟩ ?_
              refine c_seq ?_
              refine c_reg ?_
              refine s_val rfl rfl (r_fa rfl fo29_0 rfl) ?_
              refine s_val rfl rfl (r_ld rfl ty3 rfl (H.cellI 0 rfl rfl)) ?_
              refine s_val rfl rfl (r_ge rfl rfl rfl) ?_
              refine s_val rfl rfl (r_mv rfl rfl) ?_
              refine s_dec (d := 27) (p := (0 : Int) ≤ p.op) rfl (fun h44 => ?_) (fun h44 => ?_)
              · skip
                refine s_val rfl rfl (r_fa rfl fo29_0 rfl) ?_
                refine s_val rfl rfl (r_ld rfl ty3 rfl (H.cellI 0 rfl rfl)) ?_
                refine s_val rfl rfl (r_le rfl rfl rfl) ?_
                refine s_val rfl rfl (r_pickT rfl rfl rfl) ?_
                refine s_val rfl rfl (r_mv rfl rfl) ?_
                refine s_dec (d := 32) (p := p.op ≤ 23) rfl (fun h45 => ?_) (fun h45 => ?_)
                · skip
                  refine s_val rfl rfl (r_fa rfl fo29_1 rfl) ?_
                  refine s_val rfl rfl (r_ld rfl ty3 rfl (H.cellI 0 rfl rfl)) ?_
                  refine s_val rfl rfl (r_mv rfl rfl) ?_
                  refine s_val rfl rfl (r_ge rfl rfl rfl) ?_
                  refine s_val rfl rfl (r_pickT rfl rfl rfl) ?_
                  refine s_val rfl rfl (r_mv rfl rfl) ?_
                  refine s_dec (d := 38) (p := (0 : Int) ≤ p.a) rfl (fun h46 => ?_) (fun h46 => ?_)
                  · skip
                    refine s_val rfl rfl (r_fa rfl fo29_1 rfl) ?_
                    refine s_val rfl rfl (r_ld rfl ty3 rfl (H.cellI 0 rfl rfl)) ?_
                    refine s_val rfl rfl (r_mv rfl rfl) ?_
                    refine s_val rfl rfl (r_le rfl rfl rfl) ?_
                    refine s_val rfl rfl (r_pickT rfl rfl rfl) ?_
                    refine s_val rfl rfl (r_mv rfl rfl) ?_
                    refine s_dec (d := 44) (p := p.a ≤ 0) rfl (fun h47 => ?_) (fun h47 => ?_)
                    · skip
                      refine s_val rfl rfl (r_fa rfl fo29_2 rfl) ?_
                      refine s_val rfl rfl (r_ld rfl ty9 rfl (H.cellI 0 rfl rfl)) ?_
                      refine s_val rfl rfl (r_lenS rfl un9 rfl) ?_
                      refine s_val rfl rfl (r_mv rfl rfl) ?_
                      refine s_val rfl rfl (r_le rfl rfl rfl) ?_
                      refine s_val rfl rfl (r_pickT rfl rfl rfl) ?_
                      refine s_val rfl rfl (r_as rfl rfl) ?_
                      refine s_nil ?_
                      refine q_then ?_
                      refine c_env [(4, .bool (decide (((p.s.size : Nat) : Int) ≤ 0)))] ⟨rfl, trivial⟩ ?_
                      refine c_ret ?_
                      refine q_ret1 rfl rfl ?_
                      replace H := H.keep 0
                      exact fin ⟨congrArg Value.bool (decide_eq_decide.2 (by unfold goodI; omega)), rfl⟩ H
                    · skip
                      refine s_no rfl rfl ?_
                      refine s_no rfl rfl ?_
                      refine s_no rfl rfl ?_
                      refine s_no rfl rfl ?_
                      refine s_no rfl rfl ?_
                      refine s_val rfl rfl (r_pickF rfl rfl rfl) ?_
                      refine s_val rfl rfl (r_as rfl rfl) ?_
                      refine s_nil ?_
                      refine q_then ?_
                      refine c_env [(4, .bool false)] ⟨rfl, trivial⟩ ?_
                      refine c_ret ?_
                      refine q_ret1 rfl rfl ?_
                      replace H := H.keep 0
                      exact fin ⟨congrArg Value.bool (decide_eq_false (by unfold goodI; omega)).symm, rfl⟩ H
                  · skip
                    refine s_no rfl rfl ?_
                    refine s_no rfl rfl ?_
                    refine s_no rfl rfl ?_
                    refine s_no rfl rfl ?_
                    refine s_val rfl rfl (r_pickF rfl rfl rfl) ?_
                    refine s_val rfl rfl (r_mv rfl rfl) ?_
                    refine s_no rfl rfl ?_
                    refine s_no rfl rfl ?_
                    refine s_no rfl rfl ?_
                    refine s_no rfl rfl ?_
                    refine s_no rfl rfl ?_
                    refine s_val rfl rfl (r_pickF rfl rfl rfl) ?_
                    refine s_val rfl rfl (r_as rfl rfl) ?_
                    refine s_nil ?_
                    refine q_then ?_
                    refine c_env [(4, .bool false)] ⟨rfl, trivial⟩ ?_
                    refine c_ret ?_
                    refine q_ret1 rfl rfl ?_
                    replace H := H.keep 0
                    exact fin ⟨congrArg Value.bool (decide_eq_false (by unfold goodI; omega)).symm, rfl⟩ H
                · skip
                  refine s_no rfl rfl ?_
                  refine s_no rfl rfl ?_
                  refine s_no rfl rfl ?_
                  refine s_no rfl rfl ?_
                  refine s_val rfl rfl (r_pickF rfl rfl rfl) ?_
                  refine s_val rfl rfl (r_mv rfl rfl) ?_
                  refine s_no rfl rfl ?_
                  refine s_no rfl rfl ?_
                  refine s_no rfl rfl ?_
                  refine s_no rfl rfl ?_
                  refine s_val rfl rfl (r_pickF rfl rfl rfl) ?_
                  refine s_val rfl rfl (r_mv rfl rfl) ?_
                  refine s_no rfl rfl ?_
                  refine s_no rfl rfl ?_
                  refine s_no rfl rfl ?_
                  refine s_no rfl rfl ?_
                  refine s_no rfl rfl ?_
                  refine s_val rfl rfl (r_pickF rfl rfl rfl) ?_
                  refine s_val rfl rfl (r_as rfl rfl) ?_
                  refine s_nil ?_
                  refine q_then ?_
                  refine c_env [(4, .bool false)] ⟨rfl, trivial⟩ ?_
                  refine c_ret ?_
                  refine q_ret1 rfl rfl ?_
                  replace H := H.keep 0
                  exact fin ⟨congrArg Value.bool (decide_eq_false (by unfold goodI; omega)).symm, rfl⟩ H
              · skip
                refine s_no rfl rfl ?_
                refine s_no rfl rfl ?_
                refine s_no rfl rfl ?_
                refine s_val rfl rfl (r_pickF rfl rfl rfl) ?_
                refine s_val rfl rfl (r_mv rfl rfl) ?_
                refine s_no rfl rfl ?_
                refine s_no rfl rfl ?_
                refine s_no rfl rfl ?_
                refine s_no rfl rfl ?_
                refine s_val rfl rfl (r_pickF rfl rfl rfl) ?_
                refine s_val rfl rfl (r_mv rfl rfl) ?_
                refine s_no rfl rfl ?_
                refine s_no rfl rfl ?_
                refine s_no rfl rfl ?_
                refine s_no rfl rfl ?_
                refine s_val rfl rfl (r_pickF rfl rfl rfl) ?_
                refine s_val rfl rfl (r_mv rfl rfl) ?_
                refine s_no rfl rfl ?_
                refine s_no rfl rfl ?_
                refine s_no rfl rfl ?_
                refine s_no rfl rfl ?_
                refine s_no rfl rfl ?_
                refine s_val rfl rfl (r_pickF rfl rfl rfl) ?_
                refine s_val rfl rfl (r_as rfl rfl) ?_
                refine s_nil ?_
                refine q_then ?_
                refine c_env [(4, .bool false)] ⟨rfl, trivial⟩ ?_
                refine c_ret ?_
                refine q_ret1 rfl rfl ?_
                replace H := H.keep 0
                exact fin ⟨congrArg Value.bool (decide_eq_false (by unfold goodI; omega)).symm, rfl⟩ H
          · skip
            refine c_reg ?_
            refine s_val rfl rfl (r_eq rfl rfl rfl) ?_
            refine s_val rfl rfl (r_as rfl rfl) ?_
            refine s_nil ?_
            refine q_then ?_
            refine c_env [(2, .pointer (some ⟨b1, 0, none⟩)), (4, .bool false), (5, .int .i64 0), (6, .int .i64 0), (7, .int .i64 0), (21, .bool (decide (p.op = 22)))] ⟨rfl, rfl, rfl, rfl, rfl, rfl, trivial⟩ ?_
            refine c_dec (p := p.op = 22) rfl (fun h48 => ?_) (fun h48 => ?_)
            · skip
              refine c_reg ?_
              refine s_val rfl rfl (r_as rfl rfl) ?_
              refine s_nil ?_
              refine q_blockN ?_
              refine q_then ?_
              refine c_env [(2, .pointer (some ⟨b1, 0, none⟩)), (4, .bool false), (5, .int .i64 0), (6, .int .i64 7), (7, .int .i64 0)] ⟨rfl, rfl, rfl, rfl, rfl, trivial⟩ ?_
              refine c_seq ?_
              refine c_reg ?_
              refine s_val rfl rfl (r_fa rfl fo29_0 rfl) ?_
              refine s_val rfl rfl (r_ld rfl ty3 rfl (H.cellI 0 rfl rfl)) ?_
              refine s_val rfl rfl (r_ge rfl rfl rfl) ?_
              refine s_val rfl rfl (r_mv rfl rfl) ?_
              refine s_dec (d := 27) (p := (0 : Int) ≤ p.op) rfl (fun h49 => ?_) (fun h49 => ?_)
              · skip
                refine s_val rfl rfl (r_fa rfl fo29_0 rfl) ?_
                refine s_val rfl rfl (r_ld rfl ty3 rfl (H.cellI 0 rfl rfl)) ?_
                refine s_val rfl rfl (r_le rfl rfl rfl) ?_
                refine s_val rfl rfl (r_pickT rfl rfl rfl) ?_
                refine s_val rfl rfl (r_mv rfl rfl) ?_
                refine s_dec (d := 32) (p := p.op ≤ 23) rfl (fun h50 => ?_) (fun h50 => ?_)
                · skip
                  refine s_val rfl rfl (r_fa rfl fo29_1 rfl) ?_
                  refine s_val rfl rfl (r_ld rfl ty3 rfl (H.cellI 0 rfl rfl)) ?_
                  refine s_val rfl rfl (r_mv rfl rfl) ?_
                  refine s_val rfl rfl (r_ge rfl rfl rfl) ?_
                  refine s_val rfl rfl (r_pickT rfl rfl rfl) ?_
                  refine s_val rfl rfl (r_mv rfl rfl) ?_
                  refine s_dec (d := 38) (p := (0 : Int) ≤ p.a) rfl (fun h51 => ?_) (fun h51 => ?_)
                  · skip
                    refine s_val rfl rfl (r_fa rfl fo29_1 rfl) ?_
                    refine s_val rfl rfl (r_ld rfl ty3 rfl (H.cellI 0 rfl rfl)) ?_
                    refine s_val rfl rfl (r_mv rfl rfl) ?_
                    refine s_val rfl rfl (r_le rfl rfl rfl) ?_
                    refine s_val rfl rfl (r_pickT rfl rfl rfl) ?_
                    refine s_val rfl rfl (r_mv rfl rfl) ?_
                    refine s_dec (d := 44) (p := p.a ≤ 7) rfl (fun h52 => ?_) (fun h52 => ?_)
                    · skip
                      refine s_val rfl rfl (r_fa rfl fo29_2 rfl) ?_
                      refine s_val rfl rfl (r_ld rfl ty9 rfl (H.cellI 0 rfl rfl)) ?_
                      refine s_val rfl rfl (r_lenS rfl un9 rfl) ?_
                      refine s_val rfl rfl (r_mv rfl rfl) ?_
                      refine s_val rfl rfl (r_le rfl rfl rfl) ?_
                      refine s_val rfl rfl (r_pickT rfl rfl rfl) ?_
                      refine s_val rfl rfl (r_as rfl rfl) ?_
                      refine s_nil ?_
                      refine q_then ?_
                      refine c_env [(4, .bool (decide (((p.s.size : Nat) : Int) ≤ 0)))] ⟨rfl, trivial⟩ ?_
                      refine c_ret ?_
                      refine q_ret1 rfl rfl ?_
                      replace H := H.keep 0
                      exact fin ⟨congrArg Value.bool (decide_eq_decide.2 (by unfold goodI; omega)), rfl⟩ H
                    · skip
                      refine s_no rfl rfl ?_
                      refine s_no rfl rfl ?_
                      refine s_no rfl rfl ?_
                      refine s_no rfl rfl ?_
                      refine s_no rfl rfl ?_
                      refine s_val rfl rfl (r_pickF rfl rfl rfl) ?_
                      refine s_val rfl rfl (r_as rfl rfl) ?_
                      refine s_nil ?_
                      refine q_then ?_
                      refine c_env [(4, .bool false)] ⟨rfl, trivial⟩ ?_
                      refine c_ret ?_
                      refine q_ret1 rfl rfl ?_
                      replace H := H.keep 0
                      exact fin ⟨congrArg Value.bool (decide_eq_false (by unfold goodI; omega)).symm, rfl⟩ H
                  · skip
                    refine s_no rfl rfl ?_
                    refine s_no rfl rfl ?_
                    refine s_no rfl rfl ?_
                    refine s_no rfl rfl ?_
                    refine s_val rfl rfl (r_pickF rfl rfl rfl) ?_
                    refine s_val rfl rfl (r_mv rfl rfl) ?_
                    refine s_no rfl rfl ?_
                    refine s_no rfl rfl ?_
                    refine s_no rfl rfl ?_
                    refine s_no rfl rfl ?_
                    refine s_no rfl rfl ?_
                    refine s_val rfl rfl (r_pickF rfl rfl rfl) ?_
                    refine s_val rfl rfl (r_as rfl rfl) ?_
                    refine s_nil ?_
                    refine q_then ?_
                    refine c_env [(4, .bool false)] ⟨rfl, trivial⟩ ?_
                    refine c_ret ?_
                    refine q_ret1 rfl rfl ?_
                    replace H := H.keep 0
                    exact fin ⟨congrArg Value.bool (decide_eq_false (by unfold goodI; omega)).symm, rfl⟩ H
                · skip
                  refine s_no rfl rfl ?_
                  refine s_no rfl rfl ?_
                  refine s_no rfl rfl ?_
                  refine s_no rfl rfl ?_
                  refine s_val rfl rfl (r_pickF rfl rfl rfl) ?_
                  refine s_val rfl rfl (r_mv rfl rfl) ?_
                  refine s_no rfl rfl ?_
                  refine s_no rfl rfl ?_
                  refine s_no rfl rfl ?_
                  refine s_no rfl rfl ?_
                  refine s_val rfl rfl (r_pickF rfl rfl rfl) ?_
                  refine s_val rfl rfl (r_mv rfl rfl) ?_
                  refine s_no rfl rfl ?_
                  refine s_no rfl rfl ?_
                  refine s_no rfl rfl ?_
                  refine s_no rfl rfl ?_
                  refine s_no rfl rfl ?_
                  refine s_val rfl rfl (r_pickF rfl rfl rfl) ?_
                  refine s_val rfl rfl (r_as rfl rfl) ?_
                  refine s_nil ?_
                  refine q_then ?_
                  refine c_env [(4, .bool false)] ⟨rfl, trivial⟩ ?_
                  refine c_ret ?_
                  refine q_ret1 rfl rfl ?_
                  replace H := H.keep 0
                  exact fin ⟨congrArg Value.bool (decide_eq_false (by unfold goodI; omega)).symm, rfl⟩ H
              · skip
                refine s_no rfl rfl ?_
                refine s_no rfl rfl ?_
                refine s_no rfl rfl ?_
                refine s_val rfl rfl (r_pickF rfl rfl rfl) ?_
                refine s_val rfl rfl (r_mv rfl rfl) ?_
                refine s_no rfl rfl ?_
                refine s_no rfl rfl ?_
                refine s_no rfl rfl ?_
                refine s_no rfl rfl ?_
                refine s_val rfl rfl (r_pickF rfl rfl rfl) ?_
                refine s_val rfl rfl (r_mv rfl rfl) ?_
                refine s_no rfl rfl ?_
                refine s_no rfl rfl ?_
                refine s_no rfl rfl ?_
                refine s_no rfl rfl ?_
                refine s_val rfl rfl (r_pickF rfl rfl rfl) ?_
                refine s_val rfl rfl (r_mv rfl rfl) ?_
                refine s_no rfl rfl ?_
                refine s_no rfl rfl ?_
                refine s_no rfl rfl ?_
                refine s_no rfl rfl ?_
                refine s_no rfl rfl ?_
                refine s_val rfl rfl (r_pickF rfl rfl rfl) ?_
                refine s_val rfl rfl (r_as rfl rfl) ?_
                refine s_nil ?_
                refine q_then ?_
                refine c_env [(4, .bool false)] ⟨rfl, trivial⟩ ?_
                refine c_ret ?_
                refine q_ret1 rfl rfl ?_
                replace H := H.keep 0
                exact fin ⟨congrArg Value.bool (decide_eq_false (by unfold goodI; omega)).symm, rfl⟩ H
            · skip
              refine c_skip ?_
              refine q_blockN ?_
              refine q_then ?_
              refine c_env [(2, .pointer (some ⟨b1, 0, none⟩)), (4, .bool false), (5, .int .i64 0), (6, .int .i64 0), (7, .int .i64 0)] ⟨rfl, rfl, rfl, rfl, rfl, trivial⟩ ?_
              refine c_seq ?_
              refine c_reg ?_
              refine s_val rfl rfl (r_fa rfl fo29_0 rfl) ?_
              refine s_val rfl rfl (r_ld rfl ty3 rfl (H.cellI 0 rfl rfl)) ?_
              refine s_val rfl rfl (r_ge rfl rfl rfl) ?_
              refine s_val rfl rfl (r_mv rfl rfl) ?_
              refine s_dec (d := 27) (p := (0 : Int) ≤ p.op) rfl (fun h53 => ?_) (fun h53 => ?_)
              · skip
                refine s_val rfl rfl (r_fa rfl fo29_0 rfl) ?_
                refine s_val rfl rfl (r_ld rfl ty3 rfl (H.cellI 0 rfl rfl)) ?_
                refine s_val rfl rfl (r_le rfl rfl rfl) ?_
                refine s_val rfl rfl (r_pickT rfl rfl rfl) ?_
                refine s_val rfl rfl (r_mv rfl rfl) ?_
                refine s_dec (d := 32) (p := p.op ≤ 23) rfl (fun h54 => ?_) (fun h54 => ?_)
                · skip
                  refine s_val rfl rfl (r_fa rfl fo29_1 rfl) ?_
                  refine s_val rfl rfl (r_ld rfl ty3 rfl (H.cellI 0 rfl rfl)) ?_
                  refine s_val rfl rfl (r_mv rfl rfl) ?_
                  refine s_val rfl rfl (r_ge rfl rfl rfl) ?_
                  refine s_val rfl rfl (r_pickT rfl rfl rfl) ?_
                  refine s_val rfl rfl (r_mv rfl rfl) ?_
                  refine s_dec (d := 38) (p := (0 : Int) ≤ p.a) rfl (fun h55 => ?_) (fun h55 => ?_)
                  · skip
                    refine s_val rfl rfl (r_fa rfl fo29_1 rfl) ?_
                    refine s_val rfl rfl (r_ld rfl ty3 rfl (H.cellI 0 rfl rfl)) ?_
                    refine s_val rfl rfl (r_mv rfl rfl) ?_
                    refine s_val rfl rfl (r_le rfl rfl rfl) ?_
                    refine s_val rfl rfl (r_pickT rfl rfl rfl) ?_
                    refine s_val rfl rfl (r_mv rfl rfl) ?_
                    refine s_dec (d := 44) (p := p.a ≤ 0) rfl (fun h56 => ?_) (fun h56 => ?_)
                    · skip
                      refine s_val rfl rfl (r_fa rfl fo29_2 rfl) ?_
                      refine s_val rfl rfl (r_ld rfl ty9 rfl (H.cellI 0 rfl rfl)) ?_
                      refine s_val rfl rfl (r_lenS rfl un9 rfl) ?_
                      refine s_val rfl rfl (r_mv rfl rfl) ?_
                      refine s_val rfl rfl (r_le rfl rfl rfl) ?_
                      refine s_val rfl rfl (r_pickT rfl rfl rfl) ?_
                      refine s_val rfl rfl (r_as rfl rfl) ?_
                      refine s_nil ?_
                      refine q_then ?_
                      refine c_env [(4, .bool (decide (((p.s.size : Nat) : Int) ≤ 0)))] ⟨rfl, trivial⟩ ?_
                      refine c_ret ?_
                      refine q_ret1 rfl rfl ?_
                      replace H := H.keep 0
                      exact fin ⟨congrArg Value.bool (decide_eq_decide.2 (by unfold goodI; omega)), rfl⟩ H
                    · skip
                      refine s_no rfl rfl ?_
                      refine s_no rfl rfl ?_
                      refine s_no rfl rfl ?_
                      refine s_no rfl rfl ?_
                      refine s_no rfl rfl ?_
                      refine s_val rfl rfl (r_pickF rfl rfl rfl) ?_
                      refine s_val rfl rfl (r_as rfl rfl) ?_
                      refine s_nil ?_
                      refine q_then ?_
                      refine c_env [(4, .bool false)] ⟨rfl, trivial⟩ ?_
                      refine c_ret ?_
                      refine q_ret1 rfl rfl ?_
                      replace H := H.keep 0
                      exact fin ⟨congrArg Value.bool (decide_eq_false (by unfold goodI; omega)).symm, rfl⟩ H
                  · skip
                    refine s_no rfl rfl ?_
                    refine s_no rfl rfl ?_
                    refine s_no rfl rfl ?_
                    refine s_no rfl rfl ?_
                    refine s_val rfl rfl (r_pickF rfl rfl rfl) ?_
                    refine s_val rfl rfl (r_mv rfl rfl) ?_
                    refine s_no rfl rfl ?_
                    refine s_no rfl rfl ?_
                    refine s_no rfl rfl ?_
                    refine s_no rfl rfl ?_
                    refine s_no rfl rfl ?_
                    refine s_val rfl rfl (r_pickF rfl rfl rfl) ?_
                    refine s_val rfl rfl (r_as rfl rfl) ?_
                    refine s_nil ?_
                    refine q_then ?_
                    refine c_env [(4, .bool false)] ⟨rfl, trivial⟩ ?_
                    refine c_ret ?_
                    refine q_ret1 rfl rfl ?_
                    replace H := H.keep 0
                    exact fin ⟨congrArg Value.bool (decide_eq_false (by unfold goodI; omega)).symm, rfl⟩ H
                · skip
                  refine s_no rfl rfl ?_
                  refine s_no rfl rfl ?_
                  refine s_no rfl rfl ?_
                  refine s_no rfl rfl ?_
                  refine s_val rfl rfl (r_pickF rfl rfl rfl) ?_
                  refine s_val rfl rfl (r_mv rfl rfl) ?_
                  refine s_no rfl rfl ?_
                  refine s_no rfl rfl ?_
                  refine s_no rfl rfl ?_
                  refine s_no rfl rfl ?_
                  refine s_val rfl rfl (r_pickF rfl rfl rfl) ?_
                  refine s_val rfl rfl (r_mv rfl rfl) ?_
                  refine s_no rfl rfl ?_
                  refine s_no rfl rfl ?_
                  refine s_no rfl rfl ?_
                  refine s_no rfl rfl ?_
                  refine s_no rfl rfl ?_
                  refine s_val rfl rfl (r_pickF rfl rfl rfl) ?_
                  refine s_val rfl rfl (r_as rfl rfl) ?_
                  refine s_nil ?_
                  refine q_then ?_
                  refine c_env [(4, .bool false)] ⟨rfl, trivial⟩ ?_
                  refine c_ret ?_
                  refine q_ret1 rfl rfl ?_
                  replace H := H.keep 0
                  exact fin ⟨congrArg Value.bool (decide_eq_false (by unfold goodI; omega)).symm, rfl⟩ H
              · skip
                refine s_no rfl rfl ?_
                refine s_no rfl rfl ?_
                refine s_no rfl rfl ?_
                refine s_val rfl rfl (r_pickF rfl rfl rfl) ?_
                refine s_val rfl rfl (r_mv rfl rfl) ?_
                refine s_no rfl rfl ?_
                refine s_no rfl rfl ?_
                refine s_no rfl rfl ?_
                refine s_no rfl rfl ?_
                refine s_val rfl rfl (r_pickF rfl rfl rfl) ?_
                refine s_val rfl rfl (r_mv rfl rfl) ?_
                refine s_no rfl rfl ?_
                refine s_no rfl rfl ?_
                refine s_no rfl rfl ?_
                refine s_no rfl rfl ?_
                refine s_val rfl rfl (r_pickF rfl rfl rfl) ?_
                refine s_val rfl rfl (r_mv rfl rfl) ?_
                refine s_no rfl rfl ?_
                refine s_no rfl rfl ?_
                refine s_no rfl rfl ?_
                refine s_no rfl rfl ?_
                refine s_no rfl rfl ?_
                refine s_val rfl rfl (r_pickF rfl rfl rfl) ?_
                refine s_val rfl rfl (r_as rfl rfl) ?_
                refine s_nil ?_
                refine q_then ?_
                refine c_env [(4, .bool false)] ⟨rfl, trivial⟩ ?_
                refine c_ret ?_
                refine q_ret1 rfl rfl ?_
                replace H := H.keep 0
                exact fin ⟨congrArg Value.bool (decide_eq_false (by unfold goodI; omega)).symm, rfl⟩ H

set_option maxHeartbeats 1000000 in
theorem pgood_ok (p : Ins) (n : Int) :
    Cn Tryz.prog 132 [.agg #[.int .i64 p.op, .int .i64 p.a, .string p.s], .int .i64 n] [] [] (fun v Bs => v = .bool (decide (goodI p n)) ∧ Bs = []) := by
  intro w0 F0 H
  refine enter (args := [.agg #[.int .i64 p.op, .int .i64 p.a, .string p.s], .int .i64 n]) Tryz.func132 rfl rfl (Nat.le_of_ble_eq_true rfl) ?_
  refine c_seq ?_
  refine c_reg ?_
  refine s_box rfl rfl rfl rfl H (fun b1 w H => ?_)
  refine s_val rfl rfl (r_as rfl rfl) ?_
  refine s_nil ?_
  refine q_then ?_
  replace H : Hd _ _ _ [blk b1 [.int .i64 p.op, .int .i64 p.a, .string p.s] 29] [] := H
  refine c_env [(1, .int .i64 n), (2, .pointer (some ⟨b1, 0, none⟩)), (4, .bool false)] ⟨rfl, rfl, rfl, trivial⟩ ?_
  refine c_seq ?_
  refine c_block ?_
  refine c_seq ?_
  refine c_reg ?_
  refine s_val rfl rfl (r_fa rfl fo29_0 rfl) ?_
  refine s_val rfl rfl (r_ld rfl ty3 rfl (H.cellI 0 rfl rfl)) ?_
  refine s_val rfl rfl (r_lt rfl rfl rfl) ?_
  refine s_val rfl rfl (r_mv rfl rfl) ?_
  refine s_dec (d := 9) (p := p.op < 0) rfl (fun h2 => ?_) (fun h2 => ?_)
  · skip
    refine s_no rfl rfl ?_
    refine s_no rfl rfl ?_
    refine s_no rfl rfl ?_
    refine s_val rfl rfl (r_pickT rfl rfl rfl) ?_
    refine s_val rfl rfl (r_as rfl rfl) ?_
    refine s_nil ?_
    refine q_then ?_
    refine c_env [(1, .int .i64 n), (2, .pointer (some ⟨b1, 0, none⟩)), (4, .bool false), (5, .bool true)] ⟨rfl, rfl, rfl, rfl, trivial⟩ ?_
    refine c_yes rfl ?_
    refine c_seq ?_
    refine c_reg ?_
    refine s_val rfl rfl (r_as rfl rfl) ?_
    refine s_nil ?_
    refine q_then ?_
    refine c_env [(2, .pointer (some ⟨b1, 0, none⟩)), (4, .bool false)] ⟨rfl, rfl, trivial⟩ ?_
    refine c_ret ?_
    refine q_blockR ?_
    refine q_thenR ?_
    refine q_ret1 rfl rfl ?_
    replace H := H.keep 0
    exact fin ⟨congrArg Value.bool (decide_eq_false (by unfold goodI; omega)).symm, rfl⟩ H
  · skip
    refine s_val rfl rfl (r_fa rfl fo29_0 rfl) ?_
    refine s_val rfl rfl (r_ld rfl ty3 rfl (H.cellI 0 rfl rfl)) ?_
    refine s_val rfl rfl (r_gt rfl rfl rfl) ?_
    refine s_val rfl rfl (r_pickF rfl rfl rfl) ?_
    refine s_val rfl rfl (r_as rfl rfl) ?_
    refine s_nil ?_
    refine q_then ?_
    refine c_env [(1, .int .i64 n), (2, .pointer (some ⟨b1, 0, none⟩)), (4, .bool false), (5, .bool (decide ((23 : Int) < p.op)))] ⟨rfl, rfl, rfl, rfl, trivial⟩ ?_
    refine c_dec (p := (23 : Int) < p.op) rfl (fun h3 => ?_) (fun h3 => ?_)
    · skip
      refine c_seq ?_
      refine c_reg ?_
      refine s_val rfl rfl (r_as rfl rfl) ?_
      refine s_nil ?_
      refine q_then ?_
      refine c_env [(2, .pointer (some ⟨b1, 0, none⟩)), (4, .bool false)] ⟨rfl, rfl, trivial⟩ ?_
      refine c_ret ?_
      refine q_blockR ?_
      refine q_thenR ?_
      refine q_ret1 rfl rfl ?_
      replace H := H.keep 0
      exact fin ⟨congrArg Value.bool (decide_eq_false (by unfold goodI; omega)).symm, rfl⟩ H
    · skip
      refine c_seq ?_
      refine c_reg ?_
      refine s_val rfl rfl (r_fa rfl fo29_0 rfl) ?_
      refine s_val rfl rfl (r_ld rfl ty3 rfl (H.cellI 0 rfl rfl)) ?_
      refine s_val rfl rfl (r_eq rfl rfl rfl) ?_
      refine s_val rfl rfl (r_as rfl rfl) ?_
      refine s_nil ?_
      refine q_then ?_
      refine c_env [(1, .int .i64 n), (2, .pointer (some ⟨b1, 0, none⟩)), (4, .bool false), (14, .bool (decide (p.op = 1)))] ⟨rfl, rfl, rfl, rfl, trivial⟩ ?_
      refine c_dec (p := p.op = 1) rfl (fun h4 => ?_) (fun h4 => ?_)
      · skip
        refine c_seq ?_
        refine c_reg ?_
        refine s_val rfl rfl (r_fa rfl fo29_2 rfl) ?_
        refine s_val rfl rfl (r_ld rfl ty9 rfl (H.cellI 0 rfl rfl)) ?_
        refine s_val rfl rfl (r_eqS rfl rfl rfl) ?_
        refine s_val rfl rfl (r_as rfl rfl) ?_
        refine s_nil ?_
        refine q_then ?_
        refine c_env [(2, .pointer (some ⟨b1, 0, none⟩)), (4, .bool (decide (p.s = (⟨#[]⟩ : ByteArray))))] ⟨rfl, rfl, trivial⟩ ?_
        refine c_ret ?_
        refine q_blockR ?_
        refine q_thenR ?_
        refine q_ret1 rfl rfl ?_
        replace H := H.keep 0
        exact fin ⟨congrArg Value.bool (decide_eq_decide.2 (by rw [nil_size]; unfold goodI; omega)), rfl⟩ H
      · skip
        refine c_seq ?_
        refine c_reg ?_
        refine s_val rfl rfl (r_fa rfl fo29_0 rfl) ?_
        refine s_val rfl rfl (r_ld rfl ty3 rfl (H.cellI 0 rfl rfl)) ?_
        refine s_val rfl rfl (r_eq rfl rfl rfl) ?_
        refine s_val rfl rfl (r_as rfl rfl) ?_
        refine s_nil ?_
        refine q_then ?_
        refine c_env [(1, .int .i64 n), (2, .pointer (some ⟨b1, 0, none⟩)), (4, .bool false), (21, .bool (decide (p.op = 2)))] ⟨rfl, rfl, rfl, rfl, trivial⟩ ?_
        refine c_dec (p := p.op = 2) rfl (fun h5 => ?_) (fun h5 => ?_)
        · skip
          refine c_seq ?_
          refine c_reg ?_
          refine s_val rfl rfl (r_fa rfl fo29_1 rfl) ?_
          refine s_val rfl rfl (r_ld rfl ty3 rfl (H.cellI 0 rfl rfl)) ?_
          refine s_val rfl rfl (r_eq rfl rfl rfl) ?_
          refine s_val rfl rfl (r_mv rfl rfl) ?_
          refine s_dec (d := 28) (p := p.a = 0) rfl (fun h6 => ?_) (fun h6 => ?_)
          · skip
            refine s_val rfl rfl (r_fa rfl fo29_2 rfl) ?_
            refine s_val rfl rfl (r_ld rfl ty9 rfl (H.cellI 0 rfl rfl)) ?_
            refine s_val rfl rfl (r_lenS rfl un9 rfl) ?_
            refine s_val rfl rfl (r_le rfl rfl rfl) ?_
            refine s_val rfl rfl (r_pickT rfl rfl rfl) ?_
            refine s_val rfl rfl (r_as rfl rfl) ?_
            refine s_nil ?_
            refine q_then ?_
            refine c_env [(2, .pointer (some ⟨b1, 0, none⟩)), (4, .bool (decide (((p.s.size : Nat) : Int) ≤ 64)))] ⟨rfl, rfl, trivial⟩ ?_
            refine c_ret ?_
            refine q_blockR ?_
            refine q_thenR ?_
            refine q_ret1 rfl rfl ?_
            replace H := H.keep 0
            exact fin ⟨congrArg Value.bool (decide_eq_decide.2 (by unfold goodI; omega)), rfl⟩ H
          · skip
            refine s_no rfl rfl ?_
            refine s_no rfl rfl ?_
            refine s_no rfl rfl ?_
            refine s_no rfl rfl ?_
            refine s_val rfl rfl (r_pickF rfl rfl rfl) ?_
            refine s_val rfl rfl (r_as rfl rfl) ?_
            refine s_nil ?_
            refine q_then ?_
            refine c_env [(2, .pointer (some ⟨b1, 0, none⟩)), (4, .bool false)] ⟨rfl, rfl, trivial⟩ ?_
            refine c_ret ?_
            refine q_blockR ?_
            refine q_thenR ?_
            refine q_ret1 rfl rfl ?_
            replace H := H.keep 0
            exact fin ⟨congrArg Value.bool (decide_eq_false (by unfold goodI; omega)).symm, rfl⟩ H
        · skip
          refine c_seq ?_
          refine c_reg ?_
          refine s_val rfl rfl (r_fa rfl fo29_0 rfl) ?_
          refine s_val rfl rfl (r_ld rfl ty3 rfl (H.cellI 0 rfl rfl)) ?_
          refine s_val rfl rfl (r_eq rfl rfl rfl) ?_
          refine s_val rfl rfl (r_mv rfl rfl) ?_
          refine s_dec (d := 38) (p := p.op = 19) rfl (fun h7 => ?_) (fun h7 => ?_)
          · skip
            refine s_no rfl rfl ?_
            refine s_no rfl rfl ?_
            refine s_no rfl rfl ?_
            refine s_val rfl rfl (r_pickT rfl rfl rfl) ?_
            refine s_val rfl rfl (r_as rfl rfl) ?_
            refine s_nil ?_
            refine q_then ?_
            refine c_env [(1, .int .i64 n), (2, .pointer (some ⟨b1, 0, none⟩)), (4, .bool false), (34, .bool true)] ⟨rfl, rfl, rfl, rfl, trivial⟩ ?_
            refine c_yes rfl ?_
            refine c_seq ?_
            refine c_reg ?_
            refine s_val rfl rfl (r_fa rfl fo29_1 rfl) ?_
            refine s_val rfl rfl (r_ld rfl ty3 rfl (H.cellI 0 rfl rfl)) ?_
            refine s_val rfl rfl (r_ge rfl rfl rfl) ?_
            refine s_val rfl rfl (r_mv rfl rfl) ?_
            refine s_dec (d := 46) (p := (0 : Int) ≤ p.a) rfl (fun h8 => ?_) (fun h8 => ?_)
            · skip
              refine s_val rfl rfl (r_fa rfl fo29_1 rfl) ?_
              refine s_val rfl rfl (r_ld rfl ty3 rfl (H.cellI 0 rfl rfl)) ?_
              refine s_val rfl rfl (r_mv rfl rfl) ?_
              refine s_val rfl rfl (r_le rfl rfl rfl) ?_
              refine s_val rfl rfl (r_pickT rfl rfl rfl) ?_
              refine s_val rfl rfl (r_mv rfl rfl) ?_
              refine s_dec (d := 52) (p := p.a ≤ n) rfl (fun h9 => ?_) (fun h9 => ?_)
              · skip
                refine s_val rfl rfl (r_fa rfl fo29_2 rfl) ?_
                refine s_val rfl rfl (r_ld rfl ty9 rfl (H.cellI 0 rfl rfl)) ?_
                refine s_val rfl rfl (r_eqS rfl rfl rfl) ?_
                refine s_val rfl rfl (r_pickT rfl rfl rfl) ?_
                refine s_val rfl rfl (r_as rfl rfl) ?_
                refine s_nil ?_
                refine q_then ?_
                refine c_env [(2, .pointer (some ⟨b1, 0, none⟩)), (4, .bool (decide (p.s = (⟨#[]⟩ : ByteArray))))] ⟨rfl, rfl, trivial⟩ ?_
                refine c_ret ?_
                refine q_blockR ?_
                refine q_thenR ?_
                refine q_ret1 rfl rfl ?_
                replace H := H.keep 0
                exact fin ⟨congrArg Value.bool (decide_eq_decide.2 (by rw [nil_size]; unfold goodI; omega)), rfl⟩ H
              · skip
                refine s_no rfl rfl ?_
                refine s_no rfl rfl ?_
                refine s_no rfl rfl ?_
                refine s_val rfl rfl (r_pickF rfl rfl rfl) ?_
                refine s_val rfl rfl (r_as rfl rfl) ?_
                refine s_nil ?_
                refine q_then ?_
                refine c_env [(2, .pointer (some ⟨b1, 0, none⟩)), (4, .bool false)] ⟨rfl, rfl, trivial⟩ ?_
                refine c_ret ?_
                refine q_blockR ?_
                refine q_thenR ?_
                refine q_ret1 rfl rfl ?_
                replace H := H.keep 0
                exact fin ⟨congrArg Value.bool (decide_eq_false (by unfold goodI; omega)).symm, rfl⟩ H
            · skip
              refine s_no rfl rfl ?_
              refine s_no rfl rfl ?_
              refine s_no rfl rfl ?_
              refine s_no rfl rfl ?_
              refine s_val rfl rfl (r_pickF rfl rfl rfl) ?_
              refine s_val rfl rfl (r_mv rfl rfl) ?_
              refine s_no rfl rfl ?_
              refine s_no rfl rfl ?_
              refine s_no rfl rfl ?_
              refine s_val rfl rfl (r_pickF rfl rfl rfl) ?_
              refine s_val rfl rfl (r_as rfl rfl) ?_
              refine s_nil ?_
              refine q_then ?_
              refine c_env [(2, .pointer (some ⟨b1, 0, none⟩)), (4, .bool false)] ⟨rfl, rfl, trivial⟩ ?_
              refine c_ret ?_
              refine q_blockR ?_
              refine q_thenR ?_
              refine q_ret1 rfl rfl ?_
              replace H := H.keep 0
              exact fin ⟨congrArg Value.bool (decide_eq_false (by unfold goodI; omega)).symm, rfl⟩ H
          · skip
            refine s_val rfl rfl (r_fa rfl fo29_0 rfl) ?_
            refine s_val rfl rfl (r_ld rfl ty3 rfl (H.cellI 0 rfl rfl)) ?_
            refine s_val rfl rfl (r_eq rfl rfl rfl) ?_
            refine s_val rfl rfl (r_pickF rfl rfl rfl) ?_
            refine s_val rfl rfl (r_as rfl rfl) ?_
            refine s_nil ?_
            refine q_then ?_
            refine c_env [(1, .int .i64 n), (2, .pointer (some ⟨b1, 0, none⟩)), (4, .bool false), (34, .bool (decide (p.op = 20)))] ⟨rfl, rfl, rfl, rfl, trivial⟩ ?_
            refine c_dec (p := p.op = 20) rfl (fun h10 => ?_) (fun h10 => ?_)
            · skip
              refine c_seq ?_
              refine c_reg ?_
              refine s_val rfl rfl (r_fa rfl fo29_1 rfl) ?_
              refine s_val rfl rfl (r_ld rfl ty3 rfl (H.cellI 0 rfl rfl)) ?_
              refine s_val rfl rfl (r_ge rfl rfl rfl) ?_
              refine s_val rfl rfl (r_mv rfl rfl) ?_
              refine s_dec (d := 46) (p := (0 : Int) ≤ p.a) rfl (fun h11 => ?_) (fun h11 => ?_)
              · skip
                refine s_val rfl rfl (r_fa rfl fo29_1 rfl) ?_
                refine s_val rfl rfl (r_ld rfl ty3 rfl (H.cellI 0 rfl rfl)) ?_
                refine s_val rfl rfl (r_mv rfl rfl) ?_
                refine s_val rfl rfl (r_le rfl rfl rfl) ?_
                refine s_val rfl rfl (r_pickT rfl rfl rfl) ?_
                refine s_val rfl rfl (r_mv rfl rfl) ?_
                refine s_dec (d := 52) (p := p.a ≤ n) rfl (fun h12 => ?_) (fun h12 => ?_)
                · skip
                  refine s_val rfl rfl (r_fa rfl fo29_2 rfl) ?_
                  refine s_val rfl rfl (r_ld rfl ty9 rfl (H.cellI 0 rfl rfl)) ?_
                  refine s_val rfl rfl (r_eqS rfl rfl rfl) ?_
                  refine s_val rfl rfl (r_pickT rfl rfl rfl) ?_
                  refine s_val rfl rfl (r_as rfl rfl) ?_
                  refine s_nil ?_
                  refine q_then ?_
                  refine c_env [(2, .pointer (some ⟨b1, 0, none⟩)), (4, .bool (decide (p.s = (⟨#[]⟩ : ByteArray))))] ⟨rfl, rfl, trivial⟩ ?_
                  refine c_ret ?_
                  refine q_blockR ?_
                  refine q_thenR ?_
                  refine q_ret1 rfl rfl ?_
                  replace H := H.keep 0
                  exact fin ⟨congrArg Value.bool (decide_eq_decide.2 (by rw [nil_size]; unfold goodI; omega)), rfl⟩ H
                · skip
                  refine s_no rfl rfl ?_
                  refine s_no rfl rfl ?_
                  refine s_no rfl rfl ?_
                  refine s_val rfl rfl (r_pickF rfl rfl rfl) ?_
                  refine s_val rfl rfl (r_as rfl rfl) ?_
                  refine s_nil ?_
                  refine q_then ?_
                  refine c_env [(2, .pointer (some ⟨b1, 0, none⟩)), (4, .bool false)] ⟨rfl, rfl, trivial⟩ ?_
                  refine c_ret ?_
                  refine q_blockR ?_
                  refine q_thenR ?_
                  refine q_ret1 rfl rfl ?_
                  replace H := H.keep 0
                  exact fin ⟨congrArg Value.bool (decide_eq_false (by unfold goodI; omega)).symm, rfl⟩ H
              · skip
                refine s_no rfl rfl ?_
                refine s_no rfl rfl ?_
                refine s_no rfl rfl ?_
                refine s_no rfl rfl ?_
                refine s_val rfl rfl (r_pickF rfl rfl rfl) ?_
                refine s_val rfl rfl (r_mv rfl rfl) ?_
                refine s_no rfl rfl ?_
                refine s_no rfl rfl ?_
                refine s_no rfl rfl ?_
                refine s_val rfl rfl (r_pickF rfl rfl rfl) ?_
                refine s_val rfl rfl (r_as rfl rfl) ?_
                refine s_nil ?_
                refine q_then ?_
                refine c_env [(2, .pointer (some ⟨b1, 0, none⟩)), (4, .bool false)] ⟨rfl, rfl, trivial⟩ ?_
                refine c_ret ?_
                refine q_blockR ?_
                refine q_thenR ?_
                refine q_ret1 rfl rfl ?_
                replace H := H.keep 0
                exact fin ⟨congrArg Value.bool (decide_eq_false (by unfold goodI; omega)).symm, rfl⟩ H
            · skip
              refine c_seq ?_
              refine c_reg ?_
              refine s_val rfl rfl (r_fa rfl fo29_0 rfl) ?_
              refine s_val rfl rfl (r_ld rfl ty3 rfl (H.cellI 0 rfl rfl)) ?_
              refine s_val rfl rfl (r_eq rfl rfl rfl) ?_
              refine s_val rfl rfl (r_mv rfl rfl) ?_
              refine s_dec (d := 61) (p := p.op = 21) rfl (fun h13 => ?_) (fun h13 => ?_)
              · skip
                refine s_no rfl rfl ?_
                refine s_no rfl rfl ?_
                refine s_no rfl rfl ?_
                refine s_val rfl rfl (r_pickT rfl rfl rfl) ?_
                refine s_val rfl rfl (r_as rfl rfl) ?_
                refine s_nil ?_
                refine q_then ?_
                refine c_env [(2, .pointer (some ⟨b1, 0, none⟩)), (4, .bool false), (57, .bool true)] ⟨rfl, rfl, rfl, trivial⟩ ?_
                refine c_yes rfl ?_
                refine c_seq ?_
                refine c_reg ?_
                refine s_val rfl rfl (r_fa rfl fo29_1 rfl) ?_
                refine s_val rfl rfl (r_ld rfl ty3 rfl (H.cellI 0 rfl rfl)) ?_
                refine s_val rfl rfl (r_ge rfl rfl rfl) ?_
                refine s_val rfl rfl (r_mv rfl rfl) ?_
                refine s_dec (d := 69) (p := (0 : Int) ≤ p.a) rfl (fun h14 => ?_) (fun h14 => ?_)
                · skip
                  refine s_val rfl rfl (r_fa rfl fo29_1 rfl) ?_
                  refine s_val rfl rfl (r_ld rfl ty3 rfl (H.cellI 0 rfl rfl)) ?_
                  refine s_val rfl rfl (r_le rfl rfl rfl) ?_
                  refine s_val rfl rfl (r_pickT rfl rfl rfl) ?_
                  refine s_val rfl rfl (r_mv rfl rfl) ?_
                  refine s_dec (d := 74) (p := p.a ≤ 7) rfl (fun h15 => ?_) (fun h15 => ?_)
                  · skip
                    refine s_val rfl rfl (r_fa rfl fo29_2 rfl) ?_
                    refine s_val rfl rfl (r_ld rfl ty9 rfl (H.cellI 0 rfl rfl)) ?_
                    refine s_val rfl rfl (r_eqS rfl rfl rfl) ?_
                    refine s_val rfl rfl (r_pickT rfl rfl rfl) ?_
                    refine s_val rfl rfl (r_as rfl rfl) ?_
                    refine s_nil ?_
                    refine q_then ?_
                    refine c_env [(2, .pointer (some ⟨b1, 0, none⟩)), (4, .bool (decide (p.s = (⟨#[]⟩ : ByteArray))))] ⟨rfl, rfl, trivial⟩ ?_
                    refine c_ret ?_
                    refine q_blockR ?_
                    refine q_thenR ?_
                    refine q_ret1 rfl rfl ?_
                    replace H := H.keep 0
                    exact fin ⟨congrArg Value.bool (decide_eq_decide.2 (by rw [nil_size]; unfold goodI; omega)), rfl⟩ H
                  · skip
                    refine s_no rfl rfl ?_
                    refine s_no rfl rfl ?_
                    refine s_no rfl rfl ?_
                    refine s_val rfl rfl (r_pickF rfl rfl rfl) ?_
                    refine s_val rfl rfl (r_as rfl rfl) ?_
                    refine s_nil ?_
                    refine q_then ?_
                    refine c_env [(2, .pointer (some ⟨b1, 0, none⟩)), (4, .bool false)] ⟨rfl, rfl, trivial⟩ ?_
                    refine c_ret ?_
                    refine q_blockR ?_
                    refine q_thenR ?_
                    refine q_ret1 rfl rfl ?_
                    replace H := H.keep 0
                    exact fin ⟨congrArg Value.bool (decide_eq_false (by unfold goodI; omega)).symm, rfl⟩ H
                · skip
                  refine s_no rfl rfl ?_
                  refine s_no rfl rfl ?_
                  refine s_no rfl rfl ?_
                  refine s_val rfl rfl (r_pickF rfl rfl rfl) ?_
                  refine s_val rfl rfl (r_mv rfl rfl) ?_
                  refine s_no rfl rfl ?_
                  refine s_no rfl rfl ?_
                  refine s_no rfl rfl ?_
                  refine s_val rfl rfl (r_pickF rfl rfl rfl) ?_
                  refine s_val rfl rfl (r_as rfl rfl) ?_
                  refine s_nil ?_
                  refine q_then ?_
                  refine c_env [(2, .pointer (some ⟨b1, 0, none⟩)), (4, .bool false)] ⟨rfl, rfl, trivial⟩ ?_
                  refine c_ret ?_
                  refine q_blockR ?_
                  refine q_thenR ?_
                  refine q_ret1 rfl rfl ?_
                  replace H := H.keep 0
                  exact fin ⟨congrArg Value.bool (decide_eq_false (by unfold goodI; omega)).symm, rfl⟩ H
              · skip
                refine s_val rfl rfl (r_fa rfl fo29_0 rfl) ?_
                refine s_val rfl rfl (r_ld rfl ty3 rfl (H.cellI 0 rfl rfl)) ?_
                refine s_val rfl rfl (r_eq rfl rfl rfl) ?_
                refine s_val rfl rfl (r_pickF rfl rfl rfl) ?_
                refine s_val rfl rfl (r_as rfl rfl) ?_
                refine s_nil ?_
                refine q_then ?_
                refine c_env [(2, .pointer (some ⟨b1, 0, none⟩)), (4, .bool false), (57, .bool (decide (p.op = 22)))] ⟨rfl, rfl, rfl, trivial⟩ ?_
                refine c_dec (p := p.op = 22) rfl (fun h16 => ?_) (fun h16 => ?_)
                · skip
                  refine c_seq ?_
                  refine c_reg ?_
                  refine s_val rfl rfl (r_fa rfl fo29_1 rfl) ?_
                  refine s_val rfl rfl (r_ld rfl ty3 rfl (H.cellI 0 rfl rfl)) ?_
                  refine s_val rfl rfl (r_ge rfl rfl rfl) ?_
                  refine s_val rfl rfl (r_mv rfl rfl) ?_
                  refine s_dec (d := 69) (p := (0 : Int) ≤ p.a) rfl (fun h17 => ?_) (fun h17 => ?_)
                  · skip
                    refine s_val rfl rfl (r_fa rfl fo29_1 rfl) ?_
                    refine s_val rfl rfl (r_ld rfl ty3 rfl (H.cellI 0 rfl rfl)) ?_
                    refine s_val rfl rfl (r_le rfl rfl rfl) ?_
                    refine s_val rfl rfl (r_pickT rfl rfl rfl) ?_
                    refine s_val rfl rfl (r_mv rfl rfl) ?_
                    refine s_dec (d := 74) (p := p.a ≤ 7) rfl (fun h18 => ?_) (fun h18 => ?_)
                    · skip
                      refine s_val rfl rfl (r_fa rfl fo29_2 rfl) ?_
                      refine s_val rfl rfl (r_ld rfl ty9 rfl (H.cellI 0 rfl rfl)) ?_
                      refine s_val rfl rfl (r_eqS rfl rfl rfl) ?_
                      refine s_val rfl rfl (r_pickT rfl rfl rfl) ?_
                      refine s_val rfl rfl (r_as rfl rfl) ?_
                      refine s_nil ?_
                      refine q_then ?_
                      refine c_env [(2, .pointer (some ⟨b1, 0, none⟩)), (4, .bool (decide (p.s = (⟨#[]⟩ : ByteArray))))] ⟨rfl, rfl, trivial⟩ ?_
                      refine c_ret ?_
                      refine q_blockR ?_
                      refine q_thenR ?_
                      refine q_ret1 rfl rfl ?_
                      replace H := H.keep 0
                      exact fin ⟨congrArg Value.bool (decide_eq_decide.2 (by rw [nil_size]; unfold goodI; omega)), rfl⟩ H
                    · skip
                      refine s_no rfl rfl ?_
                      refine s_no rfl rfl ?_
                      refine s_no rfl rfl ?_
                      refine s_val rfl rfl (r_pickF rfl rfl rfl) ?_
                      refine s_val rfl rfl (r_as rfl rfl) ?_
                      refine s_nil ?_
                      refine q_then ?_
                      refine c_env [(2, .pointer (some ⟨b1, 0, none⟩)), (4, .bool false)] ⟨rfl, rfl, trivial⟩ ?_
                      refine c_ret ?_
                      refine q_blockR ?_
                      refine q_thenR ?_
                      refine q_ret1 rfl rfl ?_
                      replace H := H.keep 0
                      exact fin ⟨congrArg Value.bool (decide_eq_false (by unfold goodI; omega)).symm, rfl⟩ H
                  · skip
                    refine s_no rfl rfl ?_
                    refine s_no rfl rfl ?_
                    refine s_no rfl rfl ?_
                    refine s_val rfl rfl (r_pickF rfl rfl rfl) ?_
                    refine s_val rfl rfl (r_mv rfl rfl) ?_
                    refine s_no rfl rfl ?_
                    refine s_no rfl rfl ?_
                    refine s_no rfl rfl ?_
                    refine s_val rfl rfl (r_pickF rfl rfl rfl) ?_
                    refine s_val rfl rfl (r_as rfl rfl) ?_
                    refine s_nil ?_
                    refine q_then ?_
                    refine c_env [(2, .pointer (some ⟨b1, 0, none⟩)), (4, .bool false)] ⟨rfl, rfl, trivial⟩ ?_
                    refine c_ret ?_
                    refine q_blockR ?_
                    refine q_thenR ?_
                    refine q_ret1 rfl rfl ?_
                    replace H := H.keep 0
                    exact fin ⟨congrArg Value.bool (decide_eq_false (by unfold goodI; omega)).symm, rfl⟩ H
                · skip
                  refine c_skip ?_
                  refine q_blockN ?_
                  refine q_then ?_
                  refine c_env [(2, .pointer (some ⟨b1, 0, none⟩)), (4, .bool false)] ⟨rfl, rfl, trivial⟩ ?_
                  refine c_seq ?_
                  refine c_reg ?_
                  refine s_val rfl rfl (r_fa rfl fo29_1 rfl) ?_
                  refine s_val rfl rfl (r_ld rfl ty3 rfl (H.cellI 0 rfl rfl)) ?_
                  refine s_val rfl rfl (r_eq rfl rfl rfl) ?_
                  refine s_val rfl rfl (r_mv rfl rfl) ?_
                  refine s_dec (d := 82) (p := p.a = 0) rfl (fun h19 => ?_) (fun h19 => ?_)
                  · skip
                    refine s_val rfl rfl (r_fa rfl fo29_2 rfl) ?_
                    refine s_val rfl rfl (r_ld rfl ty9 rfl (H.cellI 0 rfl rfl)) ?_
                    refine s_val rfl rfl (r_eqS rfl rfl rfl) ?_
                    refine s_val rfl rfl (r_pickT rfl rfl rfl) ?_
                    refine s_val rfl rfl (r_as rfl rfl) ?_
                    refine s_nil ?_
                    refine q_then ?_
                    refine c_env [(4, .bool (decide (p.s = (⟨#[]⟩ : ByteArray))))] ⟨rfl, trivial⟩ ?_
                    refine c_ret ?_
                    refine q_ret1 rfl rfl ?_
                    replace H := H.keep 0
                    exact fin ⟨congrArg Value.bool (decide_eq_decide.2 (by rw [nil_size]; unfold goodI; omega)), rfl⟩ H
                  · skip
                    refine s_no rfl rfl ?_
                    refine s_no rfl rfl ?_
                    refine s_no rfl rfl ?_
                    refine s_val rfl rfl (r_pickF rfl rfl rfl) ?_
                    refine s_val rfl rfl (r_as rfl rfl) ?_
                    refine s_nil ?_
                    refine q_then ?_
                    refine c_env [(4, .bool false)] ⟨rfl, trivial⟩ ?_
                    refine c_ret ?_
                    refine q_ret1 rfl rfl ?_
                    replace H := H.keep 0
                    exact fin ⟨congrArg Value.bool (decide_eq_false (by unfold goodI; omega)).symm, rfl⟩ H

set_option maxHeartbeats 1000000 in
theorem pbad_ok (vxs : Value) (xs : List Ins) :
    Cn Tryz.prog 67 [vxs] [] [rsl kIns vxs xs] (fun v Bs => v = .int .i64 (badI xs) ∧ Bs = []) := by
  intro w0 F0 H
  obtain ⟨A1, c2, rfl, hc3, hm4, hp5⟩ := H.fR 0 rfl
  refine enter (args := [.slice A1 xs.length c2]) Tryz.func67 rfl rfl (Nat.le_of_ble_eq_true rfl) ?_
  refine c_seq ?_
  refine c_reg ?_
  refine s_val rfl rfl (r_as rfl rfl) ?_
  refine s_nil ?_
  refine q_then ?_
  replace H : Hd _ _ _ [] [rsl kIns (.slice A1 xs.length c2) xs] := H
  refine c_env [(0, .slice A1 xs.length c2), (2, .int .i64 0)] ⟨rfl, rfl, trivial⟩ ?_
  refine c_seq ?_
  refine c_seq ?_
  refine c_reg ?_
  refine s_val rfl rfl (r_mv rfl rfl) ?_
  refine s_val rfl rfl (r_mv rfl rfl) ?_
  refine s_val rfl rfl (r_lenL rfl un22 rfl) ?_
  refine s_val rfl rfl (r_min (z := min ((xs.length : Nat) : Int) 40) rfl rfl rfl rfl) ?_
  refine s_val rfl rfl (r_cutP rfl sl22 rfl rfl (by omega) (by omega) rfl) ?_
  refine s_val rfl rfl (r_lenL rfl un22 rfl) ?_
  refine s_val rfl rfl (r_mv rfl rfl) ?_
  refine s_nil ?_
  refine q_then ?_
  refine c_env [(0, .slice A1 xs.length c2), (2, .int .i64 0), (9, .slice A1 ((min ((xs.length : Nat) : Int) 40).toNat) c2), (10, .int .i64 (((min ((xs.length : Nat) : Int) 40).toNat : Nat) : Int)), (11, .int .i64 0)] ⟨rfl, rfl, rfl, rfl, rfl, trivial⟩ ?_
  refine c_block ?_
  refine c_loop (σ := Nat) (fun k => [(0, .slice A1 xs.length c2), (9, .slice A1 ((min ((xs.length : Nat) : Int) 40).toNat) c2), (10, .int .i64 (((min ((xs.length : Nat) : Int) 40).toNat : Nat) : Int)), (11, .int .i64 ((k : Nat) : Int))]) (fun k w => (Hd w0 F0 w [] [rsl kIns (.slice A1 xs.length c2) xs]) ∧ (k ≤ xs.length ∧ k ≤ 40) ∧ (∀ y ∈ xs.take k, badT xs.length y = false)) (fun k => xs.length - k) 0 ⟨rfl, rfl, rfl, rfl, trivial⟩ ⟨H, by omega, by simp⟩ ?_
  rintro k w ⟨H, hk, hn⟩
  refine c_seq ?_
  refine c_reg ?_
  refine s_val rfl rfl (r_lt rfl rfl rfl) ?_
  refine s_nil ?_
  refine q_then ?_
  refine c_env [(0, .slice A1 xs.length c2), (9, .slice A1 ((min ((xs.length : Nat) : Int) 40).toNat) c2), (10, .int .i64 (((min ((xs.length : Nat) : Int) 40).toNat : Nat) : Int)), (11, .int .i64 ((k : Nat) : Int)), (12, .bool (decide (((k : Nat) : Int) < (((min ((xs.length : Nat) : Int) 40).toNat : Nat) : Int))))] ⟨rfl, rfl, rfl, rfl, rfl, trivial⟩ ?_
  refine c_seq ?_
  refine c_dec (p := ((k : Nat) : Int) < (((min ((xs.length : Nat) : Int) 40).toNat : Nat) : Int)) rfl (fun h6 => ?_) (fun h6 => ?_)
  · skip
    refine c_skip ?_
    refine q_then ?_
    refine c_env [(0, .slice A1 xs.length c2), (9, .slice A1 ((min ((xs.length : Nat) : Int) 40).toNat) c2), (10, .int .i64 (((min ((xs.length : Nat) : Int) 40).toNat : Nat) : Int)), (11, .int .i64 ((k : Nat) : Int))] ⟨rfl, rfl, rfl, rfl, trivial⟩ ?_
    refine c_seq ?_
    refine c_block ?_
    refine c_seq ?_
    refine c_reg ?_
    refine s_val rfl rfl (r_mv rfl rfl) ?_
    obtain ⟨x7, hx8⟩ : ∃ z9, xs[k]? = some z9 := ⟨_, List.getElem?_eq_getElem (show k < xs.length by omega)⟩
    have th9 := H.thR 0 rfl hx8
    refine s_val rfl rfl (r_iaE (p := oOf A1 + k * 3) rfl sl22 rfl rfl (by omega) (by omega) th9 rfl) ?_
    refine s_val rfl rfl (r_ldA (cs := [.int .i64 x7.op, .int .i64 x7.a, .string x7.s]) rfl ty29 rfl rfl (H.elsR 0 rfl hx8 rfl)) ?_
    refine s_alloc rfl rfl rfl zr29 H (fun b10 w H => ?_)
    refine s_val rfl rfl (r_as rfl rfl) ?_
    refine s_st rfl rfl rfl ty29 rfl rfl H rfl (Nat.le_of_ble_eq_true rfl) (fun u hu => by simp [Value.cells] at hu; rcases hu with rfl | rfl | rfl <;> rfl) (fun w H => ?_)
    replace H : Hd _ _ _ [blk b10 [.int .i64 x7.op, .int .i64 x7.a, .string x7.s] 29] [rsl kIns (.slice A1 xs.length c2) xs] := H
    refine s_nil ?_
    refine q_then ?_
    refine c_env [(0, .slice A1 xs.length c2), (3, .int .i64 ((k : Nat) : Int)), (4, .pointer (some ⟨b10, 0, none⟩)), (9, .slice A1 ((min ((xs.length : Nat) : Int) 40).toNat) c2), (10, .int .i64 (((min ((xs.length : Nat) : Int) 40).toNat : Nat) : Int)), (11, .int .i64 ((k : Nat) : Int))] ⟨rfl, rfl, rfl, rfl, rfl, rfl, trivial⟩ ?_
    refine c_seq ?_
    refine c_reg ?_
    refine s_val rfl rfl (r_ldA (cs := [.int .i64 x7.op, .int .i64 x7.a, .string x7.s]) rfl ty29 rfl rfl (H.cellsI 0 rfl rfl)) ?_
    refine s_val rfl rfl (r_mv rfl rfl) ?_
    refine s_val rfl rfl (r_lenL rfl un22 rfl) ?_
    refine sc (pmay_ok x7 ((xs.length : Nat) : Int)) H l0 rfl rfl (e_fn kn84 rfl rfl) ?_
    rintro _ _ w ⟨rfl, rfl⟩ H
    refine s_val rfl rfl (r_notP rfl rfl) ?_
    refine s_nil ?_
    refine q_then ?_
    refine c_env [(0, .slice A1 xs.length c2), (3, .int .i64 ((k : Nat) : Int)), (9, .slice A1 ((min ((xs.length : Nat) : Int) 40).toNat) c2), (10, .int .i64 (((min ((xs.length : Nat) : Int) 40).toNat : Nat) : Int)), (11, .int .i64 ((k : Nat) : Int)), (20, .bool (decide (¬ (goodI x7 ((xs.length : Nat) : Int)))))] ⟨rfl, rfl, rfl, rfl, rfl, rfl, trivial⟩ ?_
    refine c_dec (p := ¬ (goodI x7 ((xs.length : Nat) : Int))) rfl (fun h11 => ?_) (fun h11 => ?_)
    · skip
      refine c_seq ?_
      refine c_reg ?_
      refine s_val rfl rfl (r_mv rfl rfl) ?_
      refine s_val rfl rfl (r_as rfl rfl) ?_
      refine s_nil ?_
      refine q_then ?_
      refine c_env [(0, .slice A1 xs.length c2), (2, .int .i64 ((k : Nat) : Int)), (9, .slice A1 ((min ((xs.length : Nat) : Int) 40).toNat) c2), (10, .int .i64 (((min ((xs.length : Nat) : Int) 40).toNat : Nat) : Int)), (11, .int .i64 ((k : Nat) : Int))] ⟨rfl, rfl, rfl, rfl, rfl, trivial⟩ ?_
      refine c_ret ?_
      refine q_blockR ?_
      refine q_thenR ?_
      refine q_thenR ?_
      refine q_blockR ?_
      refine q_thenR ?_
      refine q_ret1 rfl rfl ?_
      replace H := H.keep 0
      exact fin ⟨by rw [badI_hit (by omega) hn hx8 (by simpa using h11)], rfl⟩ H
    · skip
      refine c_skip ?_
      refine q_blockN ?_
      refine q_then ?_
      refine c_env [(0, .slice A1 xs.length c2), (9, .slice A1 ((min ((xs.length : Nat) : Int) 40).toNat) c2), (10, .int .i64 (((min ((xs.length : Nat) : Int) 40).toNat : Nat) : Int)), (11, .int .i64 ((k : Nat) : Int))] ⟨rfl, rfl, rfl, rfl, trivial⟩ ?_
      refine c_reg ?_
      refine s_val rfl rfl (r_add (z := ((k + 1 : Nat) : Int)) rfl rfl rfl (by rw [w64 (by omega) (by omega)]; omega)) ?_
      refine s_val rfl rfl (r_mv rfl rfl) ?_
      refine s_nil ?_
      replace H := H.keep 0
      exact q_round (s := k) (k + 1) ⟨rfl, rfl, rfl, rfl, trivial⟩ ⟨H, by omega, badT_good hn hx8 (by simpa using h11)⟩ (by (try dsimp only); omega)
  · skip
    refine c_exit ?_
    refine q_thenE ?_
    refine q_thenE ?_
    refine q_blockE ?_
    refine q_then ?_
    refine c_env [(0, .slice A1 xs.length c2)] ⟨rfl, trivial⟩ ?_
    refine c_seq ?_
    refine c_seq ?_
    refine c_reg ?_
    refine s_val rfl rfl (r_mv rfl rfl) ?_
    refine s_val rfl rfl (r_lenL rfl un22 rfl) ?_
    refine s_val rfl rfl (r_gt rfl rfl rfl) ?_
    refine s_nil ?_
    refine q_then ?_
    refine c_env [(25, .bool (decide ((40 : Int) < ((xs.length : Nat) : Int))))] ⟨rfl, trivial⟩ ?_
    refine c_dec (p := (40 : Int) < ((xs.length : Nat) : Int)) rfl (fun h12 => ?_) (fun h12 => ?_)
    · skip
      refine c_seq ?_
      refine c_reg ?_
      refine s_val rfl rfl (r_as rfl rfl) ?_
      refine s_nil ?_
      refine q_then ?_
      refine c_env [(2, .int .i64 40)] ⟨rfl, trivial⟩ ?_
      refine c_ret ?_
      refine q_thenR ?_
      refine q_ret1 rfl rfl ?_
      exact fin ⟨by rw [badI_none (k := k) (by omega) hn, if_pos (by omega)], rfl⟩ H
    · skip
      refine c_skip ?_
      refine q_then ?_
      refine c_env [] trivial ?_
      refine c_seq ?_
      refine c_reg ?_
      refine s_val rfl rfl (r_as rfl rfl) ?_
      refine s_nil ?_
      refine q_then ?_
      refine c_env [(2, .int .i64 (-1))] ⟨rfl, trivial⟩ ?_
      refine c_ret ?_
      refine q_ret1 rfl rfl ?_
      exact fin ⟨by rw [badI_none (k := k) (by omega) hn, if_neg (by omega)], rfl⟩ H

set_option maxHeartbeats 1000000 in
theorem rbad_ok (vxs : Value) (xs : List Ins) :
    Cn Tryz.prog 119 [vxs] [] [rsl kIns vxs xs] (fun v Bs => v = .int .i64 (badI xs) ∧ Bs = []) := by
  intro w0 F0 H
  obtain ⟨A1, c2, rfl, hc3, hm4, hp5⟩ := H.fR 0 rfl
  refine enter (args := [.slice A1 xs.length c2]) Tryz.func119 rfl rfl (Nat.le_of_ble_eq_true rfl) ?_
  refine c_seq ?_
  refine c_reg ?_
  refine s_val rfl rfl (r_as rfl rfl) ?_
  refine s_nil ?_
  refine q_then ?_
  replace H : Hd _ _ _ [] [rsl kIns (.slice A1 xs.length c2) xs] := H
  refine c_env [(0, .slice A1 xs.length c2), (2, .int .i64 0)] ⟨rfl, rfl, trivial⟩ ?_
  refine c_seq ?_
  refine c_seq ?_
  refine c_reg ?_
  refine s_val rfl rfl (r_as rfl rfl) ?_
  refine s_nil ?_
  refine q_then ?_
  refine c_env [(0, .slice A1 xs.length c2), (2, .int .i64 0), (3, .int .i64 0)] ⟨rfl, rfl, rfl, trivial⟩ ?_
  refine c_block ?_
  refine c_loop (σ := Nat) (fun k => [(0, .slice A1 xs.length c2), (3, .int .i64 ((k : Nat) : Int))]) (fun k w => (Hd w0 F0 w [] [rsl kIns (.slice A1 xs.length c2) xs]) ∧ (k ≤ xs.length ∧ k ≤ 40) ∧ (∀ y ∈ xs.take k, badT xs.length y = false)) (fun k => xs.length - k) 0 ⟨rfl, rfl, trivial⟩ ⟨H, by omega, by simp⟩ ?_
  rintro k w ⟨H, hk, hn⟩
  refine c_seq ?_
  refine c_seq ?_
  refine c_reg ?_
  refine s_val rfl rfl (r_mv rfl rfl) ?_
  refine s_val rfl rfl (r_mv rfl rfl) ?_
  refine s_val rfl rfl (r_lenL rfl un22 rfl) ?_
  refine s_val rfl rfl (r_lt rfl rfl rfl) ?_
  refine s_val rfl rfl (r_mv rfl rfl) ?_
  refine s_dec (d := 8) (p := ((k : Nat) : Int) < ((xs.length : Nat) : Int)) rfl (fun h6 => ?_) (fun h6 => ?_)
  · skip
    refine s_val rfl rfl (r_mv rfl rfl) ?_
    refine s_val rfl rfl (r_lt rfl rfl rfl) ?_
    refine s_val rfl rfl (r_pickT rfl rfl rfl) ?_
    refine s_nil ?_
    refine q_then ?_
    refine c_env [(0, .slice A1 xs.length c2), (3, .int .i64 ((k : Nat) : Int)), (11, .bool (decide (((k : Nat) : Int) < 40)))] ⟨rfl, rfl, rfl, trivial⟩ ?_
    refine c_dec (p := ((k : Nat) : Int) < 40) rfl (fun h7 => ?_) (fun h7 => ?_)
    · skip
      refine c_skip ?_
      refine q_then ?_
      refine c_env [(0, .slice A1 xs.length c2), (3, .int .i64 ((k : Nat) : Int))] ⟨rfl, rfl, trivial⟩ ?_
      refine c_seq ?_
      refine c_block ?_
      refine c_seq ?_
      refine c_reg ?_
      refine s_val rfl rfl (r_mv rfl rfl) ?_
      refine s_val rfl rfl (r_mv rfl rfl) ?_
      obtain ⟨x8, hx9⟩ : ∃ z9, xs[k]? = some z9 := ⟨_, List.getElem?_eq_getElem (show k < xs.length by omega)⟩
      have th10 := H.thR 0 rfl hx9
      refine s_val rfl rfl (r_iaE (p := oOf A1 + k * 3) rfl sl22 rfl rfl (by omega) (by omega) th10 rfl) ?_
      refine s_val rfl rfl (r_ldA (cs := [.int .i64 x8.op, .int .i64 x8.a, .string x8.s]) rfl ty29 rfl rfl (H.elsR 0 rfl hx9 rfl)) ?_
      refine s_val rfl rfl (r_mv rfl rfl) ?_
      refine s_val rfl rfl (r_lenL rfl un22 rfl) ?_
      refine sc (pgood_ok x8 ((xs.length : Nat) : Int)) H l0 rfl rfl (e_fn kn132 rfl rfl) ?_
      rintro _ _ w ⟨rfl, rfl⟩ H
      refine s_val rfl rfl (r_notP rfl rfl) ?_
      refine s_nil ?_
      refine q_then ?_
      refine c_env [(0, .slice A1 xs.length c2), (3, .int .i64 ((k : Nat) : Int)), (21, .bool (decide (¬ (goodI x8 ((xs.length : Nat) : Int)))))] ⟨rfl, rfl, rfl, trivial⟩ ?_
      refine c_dec (p := ¬ (goodI x8 ((xs.length : Nat) : Int))) rfl (fun h11 => ?_) (fun h11 => ?_)
      · skip
        refine c_seq ?_
        refine c_reg ?_
        refine s_val rfl rfl (r_mv rfl rfl) ?_
        refine s_val rfl rfl (r_as rfl rfl) ?_
        refine s_nil ?_
        refine q_then ?_
        refine c_env [(0, .slice A1 xs.length c2), (2, .int .i64 ((k : Nat) : Int)), (3, .int .i64 ((k : Nat) : Int))] ⟨rfl, rfl, rfl, trivial⟩ ?_
        refine c_ret ?_
        refine q_blockR ?_
        refine q_thenR ?_
        refine q_thenR ?_
        refine q_blockR ?_
        refine q_thenR ?_
        refine q_ret1 rfl rfl ?_
        exact fin ⟨by rw [badI_hit (by omega) hn hx9 (by simpa using h11)], rfl⟩ H
      · skip
        refine c_skip ?_
        refine q_blockN ?_
        refine q_then ?_
        refine c_env [(0, .slice A1 xs.length c2), (3, .int .i64 ((k : Nat) : Int))] ⟨rfl, rfl, trivial⟩ ?_
        refine c_reg ?_
        refine s_val rfl rfl (r_mv rfl rfl) ?_
        refine s_val rfl rfl (r_add (z := ((k + 1 : Nat) : Int)) rfl rfl rfl (by rw [w64 (by omega) (by omega)]; omega)) ?_
        refine s_val rfl rfl (r_as rfl rfl) ?_
        refine s_nil ?_
        exact q_round (s := k) (k + 1) ⟨rfl, rfl, trivial⟩ ⟨H, by omega, badT_good hn hx9 (by simpa using h11)⟩ (by (try dsimp only); omega)
    · skip
      refine c_exit ?_
      refine q_thenE ?_
      refine q_thenE ?_
      refine q_blockE ?_
      refine q_then ?_
      refine c_env [(0, .slice A1 xs.length c2)] ⟨rfl, trivial⟩ ?_
      refine c_seq ?_
      refine c_seq ?_
      refine c_reg ?_
      refine s_val rfl rfl (r_mv rfl rfl) ?_
      refine s_val rfl rfl (r_lenL rfl un22 rfl) ?_
      refine s_val rfl rfl (r_gt rfl rfl rfl) ?_
      refine s_nil ?_
      refine q_then ?_
      refine c_env [(25, .bool (decide ((40 : Int) < ((xs.length : Nat) : Int))))] ⟨rfl, trivial⟩ ?_
      refine c_dec (p := (40 : Int) < ((xs.length : Nat) : Int)) rfl (fun h12 => ?_) (fun h12 => ?_)
      · skip
        refine c_seq ?_
        refine c_reg ?_
        refine s_val rfl rfl (r_as rfl rfl) ?_
        refine s_nil ?_
        refine q_then ?_
        refine c_env [(2, .int .i64 40)] ⟨rfl, trivial⟩ ?_
        refine c_ret ?_
        refine q_thenR ?_
        refine q_ret1 rfl rfl ?_
        exact fin ⟨by rw [badI_none (k := k) (by omega) hn, if_pos (by omega)], rfl⟩ H
      · skip
        refine c_skip ?_
        refine q_then ?_
        refine c_env [] trivial ?_
        refine c_seq ?_
        refine c_reg ?_
        refine s_val rfl rfl (r_as rfl rfl) ?_
        refine s_nil ?_
        refine q_then ?_
        refine c_env [(2, .int .i64 (-1))] ⟨rfl, trivial⟩ ?_
        refine c_ret ?_
        refine q_ret1 rfl rfl ?_
        exact fin ⟨by rw [badI_none (k := k) (by omega) hn, if_neg (by omega)], rfl⟩ H
  · skip
    refine s_no rfl rfl ?_
    refine s_no rfl rfl ?_
    refine s_val rfl rfl (r_pickF rfl rfl rfl) ?_
    refine s_nil ?_
    refine q_then ?_
    refine c_env [(0, .slice A1 xs.length c2), (3, .int .i64 ((k : Nat) : Int)), (11, .bool false)] ⟨rfl, rfl, rfl, trivial⟩ ?_
    refine c_no rfl ?_
    refine c_exit ?_
    refine q_thenE ?_
    refine q_thenE ?_
    refine q_blockE ?_
    refine q_then ?_
    refine c_env [(0, .slice A1 xs.length c2)] ⟨rfl, trivial⟩ ?_
    refine c_seq ?_
    refine c_seq ?_
    refine c_reg ?_
    refine s_val rfl rfl (r_mv rfl rfl) ?_
    refine s_val rfl rfl (r_lenL rfl un22 rfl) ?_
    refine s_val rfl rfl (r_gt rfl rfl rfl) ?_
    refine s_nil ?_
    refine q_then ?_
    refine c_env [(25, .bool (decide ((40 : Int) < ((xs.length : Nat) : Int))))] ⟨rfl, trivial⟩ ?_
    refine c_dec (p := (40 : Int) < ((xs.length : Nat) : Int)) rfl (fun h13 => ?_) (fun h13 => ?_)
    · skip
      refine c_seq ?_
      refine c_reg ?_
      refine s_val rfl rfl (r_as rfl rfl) ?_
      refine s_nil ?_
      refine q_then ?_
      refine c_env [(2, .int .i64 40)] ⟨rfl, trivial⟩ ?_
      refine c_ret ?_
      refine q_thenR ?_
      refine q_ret1 rfl rfl ?_
      exact fin ⟨by rw [badI_none (k := k) (by omega) hn, if_pos (by omega)], rfl⟩ H
    · skip
      refine c_skip ?_
      refine q_then ?_
      refine c_env [] trivial ?_
      refine c_seq ?_
      refine c_reg ?_
      refine s_val rfl rfl (r_as rfl rfl) ?_
      refine s_nil ?_
      refine q_then ?_
      refine c_env [(2, .int .i64 (-1))] ⟨rfl, trivial⟩ ?_
      refine c_ret ?_
      refine q_ret1 rfl rfl ?_
      exact fin ⟨by rw [badI_none (k := k) (by omega) hn, if_neg (by omega)], rfl⟩ H

set_option maxHeartbeats 1000000 in
theorem pMay_ok (vxs : Value) (xs : List Ins) :
    Cn Tryz.prog 45 [vxs] [] [rsl kIns vxs xs] (fun v Bs => v = .bool (decide (badI xs < 0)) ∧ Bs = []) := by
  intro w0 F0 H
  obtain ⟨A1, c2, rfl, hc3, hm4, hp5⟩ := H.fR 0 rfl
  refine enter (args := [.slice A1 xs.length c2]) Tryz.func45 rfl rfl (Nat.le_of_ble_eq_true rfl) ?_
  refine c_seq ?_
  refine c_reg ?_
  refine s_val rfl rfl (r_as rfl rfl) ?_
  refine s_nil ?_
  refine q_then ?_
  replace H : Hd _ _ _ [] [rsl kIns (.slice A1 xs.length c2) xs] := H
  refine c_env [(0, .slice A1 xs.length c2), (2, .bool false)] ⟨rfl, rfl, trivial⟩ ?_
  refine c_seq ?_
  refine c_reg ?_
  refine s_val rfl rfl (r_mv rfl rfl) ?_
  refine sc (pbad_ok (.slice A1 xs.length c2) xs) H (lR 0 rfl l0) rfl rfl (e_fn kn67 rfl rfl) ?_
  rintro _ _ w ⟨rfl, rfl⟩ H
  refine s_val rfl rfl (r_lt rfl rfl rfl) ?_
  refine s_val rfl rfl (r_as rfl rfl) ?_
  refine s_nil ?_
  refine q_then ?_
  refine c_env [(2, .bool (decide ((badI xs) < 0)))] ⟨rfl, trivial⟩ ?_
  refine c_ret ?_
  refine q_ret1 rfl rfl ?_
  exact fin ⟨rfl, rfl⟩ H

end Go.Proofs.YtlpgdkbokakniaaGreatDoor.X
