/- Counters. -/
import Derived.Test.YtlpgdkbokakniaaGreatDoorXF
import Derived.Test.YtlpgdkbokakniaaGreatDoorXSy
import Derived.Test.YtlpgdkbokakniaaGreatDoorXV2
set_option linter.unusedVariables false
set_option linter.unusedSimpArgs false
namespace Go.Proofs.YtlpgdkbokakniaaGreatDoor.X
open Go
set_option maxHeartbeats 1000000 in
theorem tallyNew_ok  :
    Cn Tryz.prog 52 [] [] [] (fun v Bs => ∃ b, v = .pointer (some ⟨b, 0, none⟩) ∧ Bs = [blk b [.int .i64 0, .int .i64 0, .int .i64 0, .int .i64 0, .int .i64 0, .int .i64 0, .int .i64 0, .int .i64 0] 96]) := by
  intro w0 F0 H
  refine enter (args := []) Tryz.func52 rfl rfl (Nat.le_of_ble_eq_true rfl) ?_
  refine c_seq ?_
  refine c_reg ?_
  refine s_val rfl rfl (r_as rfl rfl) ?_
  refine s_nil ?_
  refine q_then ?_
  refine c_env [(0, .pointer none)] ⟨rfl, trivial⟩ ?_
  refine c_seq ?_
  refine c_reg ?_
  refine s_val rfl rfl (r_bd (parts := []) (vs := []) (cs := [.int .i64 0, .int .i64 0, .int .i64 0, .int .i64 0, .int .i64 0, .int .i64 0, .int .i64 0, .int .i64 0]) rfl bd96 rfl rfl) ?_
  refine s_box rfl rfl rfl rfl H (fun b1 w H => ?_)
  refine s_val rfl rfl (r_as rfl rfl) ?_
  refine s_nil ?_
  refine q_then ?_
  replace H : Hd _ _ _ [blk b1 [.int .i64 0, .int .i64 0, .int .i64 0, .int .i64 0, .int .i64 0, .int .i64 0, .int .i64 0, .int .i64 0] 96] [] := H
  refine c_env [(0, .pointer (some ⟨b1, 0, none⟩))] ⟨rfl, trivial⟩ ?_
  refine c_ret ?_
  refine q_ret1 rfl rfl ?_
  replace H : Hd _ _ _ [blk b1 [.int .i64 0, .int .i64 0, .int .i64 0, .int .i64 0, .int .i64 0, .int .i64 0, .int .i64 0, .int .i64 0] 96] [] := H
  exact fin ⟨_, rfl, rfl⟩ H

set_option maxHeartbeats 1000000 in
theorem tallyAt0_ok (t : Nat) :
    Cn Tryz.prog 74 [.pointer (some ⟨t, 0, none⟩), .int .i64 0] [] [] (fun v Bs => v = .pointer (some ⟨t, 0, none⟩) ∧ Bs = []) := by
  intro w0 F0 H
  refine enter (args := [.pointer (some ⟨t, 0, none⟩), .int .i64 0]) Tryz.func74 rfl rfl (Nat.le_of_ble_eq_true rfl) ?_
  refine c_seq ?_
  refine c_reg ?_
  refine s_val rfl rfl (r_as rfl rfl) ?_
  refine s_nil ?_
  refine q_then ?_
  refine c_env [(0, .pointer (some ⟨t, 0, none⟩)), (1, .int .i64 0), (4, .pointer none)] ⟨rfl, rfl, rfl, trivial⟩ ?_
  refine c_seq ?_
  refine c_seq ?_
  refine c_reg ?_
  refine s_val rfl rfl (r_mv rfl rfl) ?_
  refine s_val rfl rfl (r_peq rfl un73 rfl rfl) ?_
  refine s_val rfl rfl (r_mv rfl rfl) ?_
  refine s_val rfl rfl (r_mv rfl rfl) ?_
  refine s_val rfl rfl (r_lt rfl rfl rfl) ?_
  refine s_val rfl rfl (r_pickF rfl rfl rfl) ?_
  refine s_val rfl rfl (r_mv rfl rfl) ?_
  refine s_val rfl rfl (r_mv rfl rfl) ?_
  refine s_val rfl rfl (r_ge rfl rfl rfl) ?_
  refine s_val rfl rfl (r_pickF rfl rfl rfl) ?_
  refine s_nil ?_
  refine q_then ?_
  refine c_env [(0, .pointer (some ⟨t, 0, none⟩)), (1, .int .i64 0), (4, .pointer none), (14, .bool false)] ⟨rfl, rfl, rfl, rfl, trivial⟩ ?_
  refine c_no rfl ?_
  refine c_skip ?_
  refine q_then ?_
  refine c_env [(0, .pointer (some ⟨t, 0, none⟩)), (1, .int .i64 0), (4, .pointer none)] ⟨rfl, rfl, rfl, trivial⟩ ?_
  refine c_seq ?_
  refine c_reg ?_
  refine s_val rfl rfl (r_mv rfl rfl) ?_
  refine s_val rfl rfl (r_mv rfl rfl) ?_
  refine s_val rfl rfl (r_nilP rfl rfl) ?_
  refine s_val rfl rfl (r_fa rfl fo96_0 rfl) ?_
  refine s_val rfl rfl (r_iaB (p := 0) rfl un94 is93 rfl rfl (by omega) (by omega) rfl) ?_
  refine s_val rfl rfl (r_as rfl rfl) ?_
  refine s_nil ?_
  refine q_then ?_
  refine c_env [(4, .pointer (some ⟨t, 0, none⟩))] ⟨rfl, trivial⟩ ?_
  refine c_ret ?_
  refine q_ret1 rfl rfl ?_
  replace H : Hd _ _ _ [] [] := H
  exact fin ⟨rfl, rfl⟩ H

set_option maxHeartbeats 1000000 in
theorem addF_ok (nb : Nat) (n o : Int) (hn : 0 ≤ n ∧ n ≤ 1099511627776) (ho : 0 ≤ o ∧ o ≤ 1099511627776) :
    Cn Tryz.prog 75 [.int .i64 o, .pointer (some ⟨nb, 0, none⟩)] [] [blk nb [.int .i64 n] 3] (fun v Bs => v = .int .i64 (min (o + n) 1099511627776) ∧ Bs = []) := by
  intro w0 F0 H
  refine enter (args := [.int .i64 o, .pointer (some ⟨nb, 0, none⟩)]) Tryz.func75 rfl rfl (Nat.le_of_ble_eq_true rfl) ?_
  refine c_seq ?_
  refine c_reg ?_
  refine s_val rfl rfl (r_as rfl rfl) ?_
  refine s_nil ?_
  refine q_then ?_
  refine c_env [(0, .int .i64 o), (1, .pointer (some ⟨nb, 0, none⟩)), (3, .int .i64 0)] ⟨rfl, rfl, rfl, trivial⟩ ?_
  refine c_seq ?_
  refine c_reg ?_
  refine s_val rfl rfl (r_mv rfl rfl) ?_
  refine s_val rfl rfl (r_ld rfl ty3 rfl (H.cellRI 0 rfl rfl)) ?_
  refine s_val rfl rfl (r_add (z := o + n) rfl rfl rfl (w64 (by omega) (by omega))) ?_
  refine s_val rfl rfl (r_min (z := min (o + n) 1099511627776) rfl rfl rfl rfl) ?_
  refine s_val rfl rfl (r_as rfl rfl) ?_
  refine s_nil ?_
  refine q_then ?_
  refine c_env [(3, .int .i64 (min (o + n) 1099511627776))] ⟨rfl, trivial⟩ ?_
  refine c_ret ?_
  refine q_ret1 rfl rfl ?_
  replace H : Hd _ _ _ [] [blk nb [.int .i64 n] 3] := H
  exact fin ⟨rfl, rfl⟩ H

set_option maxHeartbeats 1000000 in
theorem load64_ok (t : Nat) (c0 c1 c2 c3 c4 c5 c6 c7 : Int) :
    Cn Tryz.prog 88 [.pointer (some ⟨t, 0, none⟩)] [] [blk t [.int .i64 c0, .int .i64 c1, .int .i64 c2, .int .i64 c3, .int .i64 c4, .int .i64 c5, .int .i64 c6, .int .i64 c7] 96] (fun v Bs => v = .int .i64 c0 ∧ Bs = []) := by
  intro w0 F0 H
  refine enter (args := [.pointer (some ⟨t, 0, none⟩)]) Tryz.func88 rfl rfl (Nat.le_of_ble_eq_true rfl) ?_
  refine c_seq ?_
  refine c_reg ?_
  refine s_val rfl rfl (r_as rfl rfl) ?_
  refine s_nil ?_
  refine q_then ?_
  refine c_env [(0, .pointer (some ⟨t, 0, none⟩)), (2, .int .i64 0)] ⟨rfl, rfl, trivial⟩ ?_
  refine c_seq ?_
  refine c_reg ?_
  refine s_val rfl rfl (r_mv rfl rfl) ?_
  refine s_val rfl rfl (r_nilP rfl rfl) ?_
  refine s_val rfl rfl (r_fa rfl fo93_2 rfl) ?_
  refine s_val rfl rfl (r_aload ex116 rfl rfl (H.cellRI 0 rfl rfl)) ?_
  refine s_val rfl rfl (r_as rfl rfl) ?_
  refine s_nil ?_
  refine q_then ?_
  refine c_env [(2, .int .i64 c0)] ⟨rfl, trivial⟩ ?_
  refine c_ret ?_
  refine q_ret1 rfl rfl ?_
  replace H : Hd _ _ _ [] [blk t [.int .i64 c0, .int .i64 c1, .int .i64 c2, .int .i64 c3, .int .i64 c4, .int .i64 c5, .int .i64 c6, .int .i64 c7] 96] := H
  exact fin ⟨rfl, rfl⟩ H

set_option maxHeartbeats 1000000 in
theorem cas64_ok (t : Nat) (c0 c1 c2 c3 c4 c5 c6 c7 : Int) (n : Int) :
    Cn Tryz.prog 89 [.pointer (some ⟨t, 0, none⟩), .int .i64 c0, .int .i64 n] [blk t [.int .i64 c0, .int .i64 c1, .int .i64 c2, .int .i64 c3, .int .i64 c4, .int .i64 c5, .int .i64 c6, .int .i64 c7] 96] [] (fun v Bs => v = .bool true ∧ Bs = [blk t [.int .i64 n, .int .i64 c1, .int .i64 c2, .int .i64 c3, .int .i64 c4, .int .i64 c5, .int .i64 c6, .int .i64 c7] 96]) := by
  intro w0 F0 H
  refine enter (args := [.pointer (some ⟨t, 0, none⟩), .int .i64 c0, .int .i64 n]) Tryz.func89 rfl rfl (Nat.le_of_ble_eq_true rfl) ?_
  refine c_seq ?_
  refine c_reg ?_
  refine s_val rfl rfl (r_as rfl rfl) ?_
  refine s_nil ?_
  refine q_then ?_
  refine c_env [(0, .pointer (some ⟨t, 0, none⟩)), (1, .int .i64 c0), (2, .int .i64 n), (6, .bool false)] ⟨rfl, rfl, rfl, rfl, trivial⟩ ?_
  refine c_seq ?_
  refine c_reg ?_
  refine s_val rfl rfl (r_mv rfl rfl) ?_
  refine s_val rfl rfl (r_nilP rfl rfl) ?_
  refine s_val rfl rfl (r_fa rfl fo93_2 rfl) ?_
  refine s_val rfl rfl (r_mv rfl rfl) ?_
  refine s_val rfl rfl (r_mv rfl rfl) ?_
  refine s_acas ex117 rfl rfl rfl rfl H rfl (fun w H => ?_)
  replace H : Hd _ _ _ [blk t [.int .i64 n, .int .i64 c1, .int .i64 c2, .int .i64 c3, .int .i64 c4, .int .i64 c5, .int .i64 c6, .int .i64 c7] 96] [] := H
  refine s_val rfl rfl (r_as rfl rfl) ?_
  refine s_nil ?_
  refine q_then ?_
  refine c_env [(6, .bool true)] ⟨rfl, trivial⟩ ?_
  refine c_ret ?_
  refine q_ret1 rfl rfl ?_
  replace H : Hd _ _ _ [blk t [.int .i64 n, .int .i64 c1, .int .i64 c2, .int .i64 c3, .int .i64 c4, .int .i64 c5, .int .i64 c6, .int .i64 c7] 96] [] := H
  exact fin ⟨rfl, rfl⟩ H

set_option maxHeartbeats 1000000 in
theorem change_ok (t : Nat) (c0 c1 c2 c3 c4 c5 c6 c7 : Int) (nb : Nat) (n : Int) (hn : 0 ≤ n ∧ n ≤ 1099511627776) (ho : 0 ≤ c0 ∧ c0 ≤ 1099511627776) :
    Cn Tryz.prog 73 [.pointer (some ⟨t, 0, none⟩), .func (.func 75) #[] #[.pointer (some ⟨nb, 0, none⟩)]] [blk t [.int .i64 c0, .int .i64 c1, .int .i64 c2, .int .i64 c3, .int .i64 c4, .int .i64 c5, .int .i64 c6, .int .i64 c7] 96] [blk nb [.int .i64 n] 3] (fun v Bs => v = .int .i64 (min (c0 + n) 1099511627776) ∧ Bs = [blk t [.int .i64 (min (c0 + n) 1099511627776), .int .i64 c1, .int .i64 c2, .int .i64 c3, .int .i64 c4, .int .i64 c5, .int .i64 c6, .int .i64 c7] 96]) := by
  intro w0 F0 H
  refine enter (args := [.pointer (some ⟨t, 0, none⟩), .func (.func 75) #[] #[.pointer (some ⟨nb, 0, none⟩)]]) Tryz.func73 rfl rfl (Nat.le_of_ble_eq_true rfl) ?_
  refine c_seq ?_
  refine c_reg ?_
  refine s_val rfl rfl (r_as rfl rfl) ?_
  refine s_nil ?_
  refine q_then ?_
  refine c_env [(0, .pointer (some ⟨t, 0, none⟩)), (1, .func (.func 75) #[] #[.pointer (some ⟨nb, 0, none⟩)]), (4, .int .i64 0)] ⟨rfl, rfl, rfl, trivial⟩ ?_
  refine c_seq ?_
  refine c_seq ?_
  refine c_reg ?_
  refine s_val rfl rfl (r_mv rfl rfl) ?_
  refine s_val rfl rfl (r_peq rfl un111 rfl rfl) ?_
  refine s_nil ?_
  refine q_then ?_
  refine c_env [(0, .pointer (some ⟨t, 0, none⟩)), (1, .func (.func 75) #[] #[.pointer (some ⟨nb, 0, none⟩)]), (4, .int .i64 0), (8, .bool false)] ⟨rfl, rfl, rfl, rfl, trivial⟩ ?_
  refine c_no rfl ?_
  refine c_skip ?_
  refine q_then ?_
  refine c_env [(0, .pointer (some ⟨t, 0, none⟩)), (1, .func (.func 75) #[] #[.pointer (some ⟨nb, 0, none⟩)]), (4, .int .i64 0)] ⟨rfl, rfl, rfl, trivial⟩ ?_
  refine c_block ?_
  refine c_loop (σ := Unit) (fun u => [(0, .pointer (some ⟨t, 0, none⟩)), (1, .func (.func 75) #[] #[.pointer (some ⟨nb, 0, none⟩)])]) (fun u w => (Hd w0 F0 w [blk t [.int .i64 c0, .int .i64 c1, .int .i64 c2, .int .i64 c3, .int .i64 c4, .int .i64 c5, .int .i64 c6, .int .i64 c7] 96] [blk nb [.int .i64 n] 3])) (fun u => 0) () ⟨rfl, rfl, trivial⟩ H ?_
  rintro u w H
  refine c_block ?_
  refine c_seq ?_
  refine c_reg ?_
  refine s_val rfl rfl (r_mv rfl rfl) ?_
  refine sc (load64_ok t c0 c1 c2 c3 c4 c5 c6 c7) H (lA 0 rfl (fun _ h => h) l0) rfl rfl (e_fn kn88 rfl rfl) ?_
  rintro _ _ w ⟨rfl, rfl⟩ H
  refine s_val rfl rfl (r_as rfl rfl) ?_
  refine s_nil ?_
  refine q_then ?_
  refine c_env [(0, .pointer (some ⟨t, 0, none⟩)), (1, .func (.func 75) #[] #[.pointer (some ⟨nb, 0, none⟩)]), (5, .int .i64 c0)] ⟨rfl, rfl, rfl, trivial⟩ ?_
  refine c_seq ?_
  refine c_reg ?_
  refine s_val rfl rfl (r_mv rfl rfl) ?_
  refine s_val rfl rfl (r_mv rfl rfl) ?_
  refine sc (addF_ok nb n c0 hn ho) H (lR 0 rfl l0) rfl rfl (e_val (vs := [.int .i64 c0]) (fs := #[]) (cs := #[.pointer (some ⟨nb, 0, none⟩)]) kn75 rfl rfl rfl) ?_
  rintro _ _ w ⟨rfl, rfl⟩ H
  refine s_val rfl rfl (r_as rfl rfl) ?_
  refine s_nil ?_
  refine q_then ?_
  refine c_env [(0, .pointer (some ⟨t, 0, none⟩)), (1, .func (.func 75) #[] #[.pointer (some ⟨nb, 0, none⟩)]), (5, .int .i64 c0), (6, .int .i64 (min (c0 + n) 1099511627776))] ⟨rfl, rfl, rfl, rfl, trivial⟩ ?_
  refine c_seq ?_
  refine c_reg ?_
  refine s_val rfl rfl (r_mv rfl rfl) ?_
  refine s_val rfl rfl (r_mv rfl rfl) ?_
  refine s_val rfl rfl (r_eq rfl rfl rfl) ?_
  refine s_val rfl rfl (r_mv rfl rfl) ?_
  refine s_dec (d := 17) (p := (min (c0 + n) 1099511627776) = c0) rfl (fun h1 => ?_) (fun h1 => ?_)
  · skip
    refine s_no rfl rfl ?_
    refine s_no rfl rfl ?_
    refine s_no rfl rfl ?_
    refine s_no rfl rfl ?_
    refine s_val rfl rfl (r_pickT rfl rfl rfl) ?_
    refine s_nil ?_
    refine q_then ?_
    refine c_env [(0, .pointer (some ⟨t, 0, none⟩)), (1, .func (.func 75) #[] #[.pointer (some ⟨nb, 0, none⟩)]), (6, .int .i64 (min (c0 + n) 1099511627776)), (22, .bool true)] ⟨rfl, rfl, rfl, rfl, trivial⟩ ?_
    refine c_yes rfl ?_
    refine c_seq ?_
    refine c_reg ?_
    refine s_val rfl rfl (r_mv rfl rfl) ?_
    refine s_val rfl rfl (r_as rfl rfl) ?_
    refine s_nil ?_
    refine q_then ?_
    refine c_env [(0, .pointer (some ⟨t, 0, none⟩)), (1, .func (.func 75) #[] #[.pointer (some ⟨nb, 0, none⟩)]), (4, .int .i64 (min (c0 + n) 1099511627776))] ⟨rfl, rfl, rfl, trivial⟩ ?_
    refine c_ret ?_
    refine q_blockR ?_
    refine q_thenR ?_
    refine q_blockR ?_
    refine q_ret1 rfl rfl ?_
    replace H : Hd w0 F0 w [blk t [.int .i64 (min (c0 + n) 1099511627776), .int .i64 c1, .int .i64 c2, .int .i64 c3, .int .i64 c4, .int .i64 c5, .int .i64 c6, .int .i64 c7] 96] [blk nb [.int .i64 n] 3] := by rw [h1]; exact H
    replace H : Hd _ _ _ [blk t [.int .i64 (min (c0 + n) 1099511627776), .int .i64 c1, .int .i64 c2, .int .i64 c3, .int .i64 c4, .int .i64 c5, .int .i64 c6, .int .i64 c7] 96] [blk nb [.int .i64 n] 3] := H
    exact fin ⟨rfl, rfl⟩ H
  · skip
    refine s_val rfl rfl (r_mv rfl rfl) ?_
    refine s_val rfl rfl (r_mv rfl rfl) ?_
    refine s_val rfl rfl (r_mv rfl rfl) ?_
    refine sc (cas64_ok t c0 c1 c2 c3 c4 c5 c6 c7 (min (c0 + n) 1099511627776)) H l0 rfl rfl (e_fn kn89 rfl rfl) ?_
    rintro _ _ w ⟨rfl, rfl⟩ H
    refine s_val rfl rfl (r_pickF rfl rfl rfl) ?_
    refine s_nil ?_
    refine q_then ?_
    replace H : Hd _ _ _ [blk t [.int .i64 (min (c0 + n) 1099511627776), .int .i64 c1, .int .i64 c2, .int .i64 c3, .int .i64 c4, .int .i64 c5, .int .i64 c6, .int .i64 c7] 96] [blk nb [.int .i64 n] 3] := H
    refine c_env [(0, .pointer (some ⟨t, 0, none⟩)), (1, .func (.func 75) #[] #[.pointer (some ⟨nb, 0, none⟩)]), (6, .int .i64 (min (c0 + n) 1099511627776)), (22, .bool true)] ⟨rfl, rfl, rfl, rfl, trivial⟩ ?_
    refine c_yes rfl ?_
    refine c_seq ?_
    refine c_reg ?_
    refine s_val rfl rfl (r_mv rfl rfl) ?_
    refine s_val rfl rfl (r_as rfl rfl) ?_
    refine s_nil ?_
    refine q_then ?_
    refine c_env [(0, .pointer (some ⟨t, 0, none⟩)), (1, .func (.func 75) #[] #[.pointer (some ⟨nb, 0, none⟩)]), (4, .int .i64 (min (c0 + n) 1099511627776))] ⟨rfl, rfl, rfl, trivial⟩ ?_
    refine c_ret ?_
    refine q_blockR ?_
    refine q_thenR ?_
    refine q_blockR ?_
    refine q_ret1 rfl rfl ?_
    replace H : Hd _ _ _ [blk t [.int .i64 (min (c0 + n) 1099511627776), .int .i64 c1, .int .i64 c2, .int .i64 c3, .int .i64 c4, .int .i64 c5, .int .i64 c6, .int .i64 c7] 96] [blk nb [.int .i64 n] 3] := H
    exact fin ⟨rfl, rfl⟩ H

set_option maxHeartbeats 1000000 in
theorem tallyAdd_ok (t : Nat) (c0 c1 c2 c3 c4 c5 c6 c7 : Int) (n : Int) (hn : 0 ≤ n ∧ n ≤ 1099511627776) (ho : 0 ≤ c0 ∧ c0 ≤ 1099511627776) :
    Cn Tryz.prog 58 [.pointer (some ⟨t, 0, none⟩), .int .i64 0, .int .i64 n] [blk t [.int .i64 c0, .int .i64 c1, .int .i64 c2, .int .i64 c3, .int .i64 c4, .int .i64 c5, .int .i64 c6, .int .i64 c7] 96] [] (fun v Bs => v = .int .i64 (min (c0 + n) 1099511627776) ∧ Bs = [blk t [.int .i64 (min (c0 + n) 1099511627776), .int .i64 c1, .int .i64 c2, .int .i64 c3, .int .i64 c4, .int .i64 c5, .int .i64 c6, .int .i64 c7] 96]) := by
  intro w0 F0 H
  refine enter (args := [.pointer (some ⟨t, 0, none⟩), .int .i64 0, .int .i64 n]) Tryz.func58 rfl rfl (Nat.le_of_ble_eq_true rfl) ?_
  refine c_seq ?_
  refine c_reg ?_
  refine s_box rfl rfl rfl rfl H (fun b1 w H => ?_)
  refine s_val rfl rfl (r_as rfl rfl) ?_
  refine s_nil ?_
  refine q_then ?_
  replace H : Hd _ _ _ [blk b1 [.int .i64 n] 3, blk t [.int .i64 c0, .int .i64 c1, .int .i64 c2, .int .i64 c3, .int .i64 c4, .int .i64 c5, .int .i64 c6, .int .i64 c7] 96] [] := H
  refine c_env [(0, .pointer (some ⟨t, 0, none⟩)), (1, .int .i64 0), (5, .pointer (some ⟨b1, 0, none⟩)), (6, .int .i64 0)] ⟨rfl, rfl, rfl, rfl, trivial⟩ ?_
  refine c_seq ?_
  refine c_seq ?_
  refine c_reg ?_
  refine s_val rfl rfl (r_ld rfl ty3 rfl (H.cellI 0 rfl rfl)) ?_
  refine s_val rfl rfl (r_lt rfl rfl rfl) ?_
  refine s_val rfl rfl (r_mv rfl rfl) ?_
  refine s_dec (d := 9) (p := n < 0) rfl (fun h2 => ?_) (fun h2 => ?_)
  · exfalso; omega
  · skip
    refine s_val rfl rfl (r_ld rfl ty3 rfl (H.cellI 0 rfl rfl)) ?_
    refine s_val rfl rfl (r_gt rfl rfl rfl) ?_
    refine s_val rfl rfl (r_pickF rfl rfl rfl) ?_
    refine s_nil ?_
    refine q_then ?_
    refine c_env [(0, .pointer (some ⟨t, 0, none⟩)), (1, .int .i64 0), (5, .pointer (some ⟨b1, 0, none⟩)), (6, .int .i64 0), (12, .bool (decide ((1099511627776 : Int) < n)))] ⟨rfl, rfl, rfl, rfl, rfl, trivial⟩ ?_
    refine c_dec (p := (1099511627776 : Int) < n) rfl (fun h3 => ?_) (fun h3 => ?_)
    · exfalso; omega
    · skip
      refine c_skip ?_
      refine q_then ?_
      refine c_env [(0, .pointer (some ⟨t, 0, none⟩)), (1, .int .i64 0), (5, .pointer (some ⟨b1, 0, none⟩)), (6, .int .i64 0)] ⟨rfl, rfl, rfl, rfl, trivial⟩ ?_
      refine c_seq ?_
      refine c_reg ?_
      refine s_val rfl rfl (r_mv rfl rfl) ?_
      refine s_val rfl rfl (r_mv rfl rfl) ?_
      refine sc (tallyAt0_ok t) H l0 rfl rfl (e_fn kn74 rfl rfl) ?_
      rintro _ _ w ⟨rfl, rfl⟩ H
      refine s_val rfl rfl (r_fn (fs := #[]) (cs := #[.pointer (some ⟨b1, 0, none⟩)]) rfl rfl rfl) ?_
      replace H := H.pick 1 rfl
      replace H : Hd _ _ _ [blk t [.int .i64 c0, .int .i64 c1, .int .i64 c2, .int .i64 c3, .int .i64 c4, .int .i64 c5, .int .i64 c6, .int .i64 c7] 96, blk b1 [.int .i64 n] 3] [] := H
      refine sc (change_ok t c0 c1 c2 c3 c4 c5 c6 c7 b1 n hn ho) H (lA 0 rfl (fun _ h => h) l0) rfl rfl (e_fn kn73 rfl rfl) ?_
      rintro _ _ w ⟨rfl, rfl⟩ H
      refine s_val rfl rfl (r_as rfl rfl) ?_
      refine s_nil ?_
      refine q_then ?_
      replace H : Hd _ _ _ [blk t [.int .i64 (min (c0 + n) 1099511627776), .int .i64 c1, .int .i64 c2, .int .i64 c3, .int .i64 c4, .int .i64 c5, .int .i64 c6, .int .i64 c7] 96, blk b1 [.int .i64 n] 3] [] := H
      refine c_env [(6, .int .i64 (min (c0 + n) 1099511627776))] ⟨rfl, trivial⟩ ?_
      refine c_ret ?_
      refine q_ret1 rfl rfl ?_
      replace H := H.keep 1
      replace H : Hd _ _ _ [blk t [.int .i64 (min (c0 + n) 1099511627776), .int .i64 c1, .int .i64 c2, .int .i64 c3, .int .i64 c4, .int .i64 c5, .int .i64 c6, .int .i64 c7] 96] [] := H
      exact fin ⟨rfl, rfl⟩ H

end Go.Proofs.YtlpgdkbokakniaaGreatDoor.X
