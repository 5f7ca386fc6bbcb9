/- ModelPlain: texts P2, P3, XE, joined by a program of ours; what nothing names is left out. -/
import Derived.Test.YtlpgdkbokakniaaGreatDoorModelPlainQ5
import Derived.Test.YtlpgdkbokakniaaGreatDoorShelf
import Derived.KernelRfl
set_option linter.unusedVariables false
set_option linter.unusedSimpArgs false
namespace Go.Proofs.YtlpgdkbokakniaaGreatDoor.X
open Go
set_option maxHeartbeats 1000000 in
theorem nanS_ok (s : ByteArray) :
    Cn Tryz.prog 80 [.string s] [] [] (fun v Bs => v = .bool false ∧ Bs = []) := by
  intro w0 F0 H
  refine enter (args := [.string s]) Tryz.func80 rfl rfl (Nat.le_of_ble_eq_true rfl) ?_
  refine c_seq ?_
  refine c_reg ?_
  refine s_val rfl rfl (r_as rfl rfl) ?_
  refine s_nil ?_
  refine q_then ?_
  refine c_env [(0, .string s), (2, .bool false)] ⟨rfl, rfl, trivial⟩ ?_
  refine c_seq ?_
  refine c_reg ?_
  refine s_val rfl rfl (r_mv rfl rfl) ?_
  refine s_val rfl rfl (r_mv rfl rfl) ?_
  refine s_val rfl rfl (r_neS rfl rfl rfl) ?_
  refine s_val rfl rfl (r_as rfl rfl) ?_
  refine s_nil ?_
  refine q_then ?_
  refine c_env [(2, .bool (decide (s ≠ s)))] ⟨rfl, trivial⟩ ?_
  refine c_ret ?_
  refine q_ret1 rfl rfl ?_
  exact fin ⟨congrArg Value.bool (decide_eq_false (fun h => h rfl)), rfl⟩ H

set_option maxHeartbeats 1000000 in
theorem cmpS_ok (a : ByteArray) (b : ByteArray) :
    Cn Tryz.prog 63 [.string a, .string b] [] [] (fun v Bs => v = .int .i64 (cmpK a b) ∧ Bs = []) := by
  intro w0 F0 H
  refine enter (args := [.string a, .string b]) Tryz.func63 rfl rfl (Nat.le_of_ble_eq_true rfl) ?_
  refine c_seq ?_
  refine c_reg ?_
  refine s_val rfl rfl (r_as rfl rfl) ?_
  refine s_nil ?_
  refine q_then ?_
  refine c_env [(0, .string a), (1, .string b), (4, .int .i64 0)] ⟨rfl, rfl, rfl, trivial⟩ ?_
  refine c_seq ?_
  refine c_reg ?_
  refine s_val rfl rfl (r_mv rfl rfl) ?_
  refine sc (nanS_ok a) H l0 rfl rfl (e_fn kn80 rfl rfl) ?_
  rintro _ _ w ⟨rfl, rfl⟩ H
  refine s_val rfl rfl (r_as rfl rfl) ?_
  refine s_nil ?_
  refine q_then ?_
  refine c_env [(0, .string a), (1, .string b), (4, .int .i64 0), (5, .bool false)] ⟨rfl, rfl, rfl, rfl, trivial⟩ ?_
  refine c_seq ?_
  refine c_reg ?_
  refine s_val rfl rfl (r_mv rfl rfl) ?_
  refine sc (nanS_ok b) H l0 rfl rfl (e_fn kn80 rfl rfl) ?_
  rintro _ _ w ⟨rfl, rfl⟩ H
  refine s_val rfl rfl (r_as rfl rfl) ?_
  refine s_nil ?_
  refine q_then ?_
  refine c_env [(0, .string a), (1, .string b), (4, .int .i64 0), (5, .bool false), (6, .bool false)] ⟨rfl, rfl, rfl, rfl, rfl, trivial⟩ ?_
  refine c_seq ?_
  refine c_seq ?_
  refine c_reg ?_
  refine s_val rfl rfl (r_mv rfl rfl) ?_
  refine s_nil ?_
  refine q_then ?_
  refine c_env [(0, .string a), (1, .string b), (4, .int .i64 0), (6, .bool false), (11, .bool false)] ⟨rfl, rfl, rfl, rfl, rfl, trivial⟩ ?_
  refine c_no rfl ?_
  refine c_skip ?_
  refine q_then ?_
  refine c_env [(0, .string a), (1, .string b), (4, .int .i64 0), (6, .bool false)] ⟨rfl, rfl, rfl, rfl, trivial⟩ ?_
  refine c_seq ?_
  refine c_seq ?_
  refine c_reg ?_
  refine s_val rfl rfl (r_mv rfl rfl) ?_
  refine s_nil ?_
  refine q_then ?_
  refine c_env [(0, .string a), (1, .string b), (4, .int .i64 0), (13, .bool false)] ⟨rfl, rfl, rfl, rfl, trivial⟩ ?_
  refine c_no rfl ?_
  refine c_skip ?_
  refine q_then ?_
  refine c_env [(0, .string a), (1, .string b), (4, .int .i64 0)] ⟨rfl, rfl, rfl, trivial⟩ ?_
  refine c_seq ?_
  refine c_seq ?_
  refine c_reg ?_
  refine s_val rfl rfl (r_mv rfl rfl) ?_
  refine s_val rfl rfl (r_mv rfl rfl) ?_
  refine s_val rfl rfl (r_ltS rfl rfl rfl) ?_
  refine s_nil ?_
  refine q_then ?_
  refine c_env [(0, .string a), (1, .string b), (4, .int .i64 0), (16, .bool (decide (ltS a b = true)))] ⟨rfl, rfl, rfl, rfl, trivial⟩ ?_
  refine c_dec (p := ltS a b = true) rfl (fun h1 => ?_) (fun h1 => ?_)
  · skip
    refine c_seq ?_
    refine c_reg ?_
    refine s_val rfl rfl (r_as rfl rfl) ?_
    refine s_nil ?_
    refine q_then ?_
    refine c_env [(0, .string a), (1, .string b), (4, .int .i64 (-1))] ⟨rfl, rfl, rfl, trivial⟩ ?_
    refine c_ret ?_
    refine q_thenR ?_
    refine q_ret1 rfl rfl ?_
    exact fin ⟨by rw [cmpK_lt h1], rfl⟩ H
  · skip
    refine c_skip ?_
    refine q_then ?_
    refine c_env [(0, .string a), (1, .string b), (4, .int .i64 0)] ⟨rfl, rfl, rfl, trivial⟩ ?_
    refine c_seq ?_
    refine c_seq ?_
    refine c_reg ?_
    refine s_val rfl rfl (r_mv rfl rfl) ?_
    refine s_val rfl rfl (r_mv rfl rfl) ?_
    refine s_val rfl rfl (r_gtS rfl rfl rfl) ?_
    refine s_nil ?_
    refine q_then ?_
    refine c_env [(4, .int .i64 0), (19, .bool (!(ltS a b || decide (a = b))))] ⟨rfl, rfl, trivial⟩ ?_
    refine c_cond (b := !(ltS a b || decide (a = b))) rfl (fun h2 => ?_) (fun h2 => ?_)
    · skip
      refine c_seq ?_
      refine c_reg ?_
      refine s_val rfl rfl (r_as rfl rfl) ?_
      refine s_nil ?_
      refine q_then ?_
      refine c_env [(4, .int .i64 1)] ⟨rfl, trivial⟩ ?_
      refine c_ret ?_
      refine q_thenR ?_
      refine q_ret1 rfl rfl ?_
      exact fin ⟨by rw [cmpK_gt h1 h2], rfl⟩ H
    · skip
      refine c_skip ?_
      refine q_then ?_
      refine c_env [(4, .int .i64 0)] ⟨rfl, trivial⟩ ?_
      refine c_seq ?_
      refine c_reg ?_
      refine s_val rfl rfl (r_as rfl rfl) ?_
      refine s_nil ?_
      refine q_then ?_
      refine c_env [(4, .int .i64 0)] ⟨rfl, trivial⟩ ?_
      refine c_ret ?_
      refine q_ret1 rfl rfl ?_
      exact fin ⟨by rw [cmpK_eq h1 h2], rfl⟩ H

set_option maxHeartbeats 1000000 in
theorem order_ok (p q : Pair) :
    Cn Tryz.prog 38 [.agg #[.string p.key, .string p.val], .agg #[.string q.key, .string q.val]] [] [] (fun v Bs => v = .int .i64 (cmpK p.key q.key) ∧ Bs = []) := by
  intro w0 F0 H
  refine enter (args := [.agg #[.string p.key, .string p.val], .agg #[.string q.key, .string q.val]]) Tryz.func38 rfl rfl (Nat.le_of_ble_eq_true rfl) ?_
  refine c_seq ?_
  refine c_reg ?_
  refine s_box rfl rfl rfl rfl H (fun b1 w H => ?_)
  refine s_box rfl rfl rfl rfl H (fun b2 w H => ?_)
  refine s_val rfl rfl (r_as rfl rfl) ?_
  refine s_nil ?_
  refine q_then ?_
  replace H : Hd _ _ _ [blk b2 [.string q.key, .string q.val] 56, blk b1 [.string p.key, .string p.val] 56] [] := H
  refine c_env [(2, .pointer (some ⟨b1, 0, none⟩)), (3, .pointer (some ⟨b2, 0, none⟩)), (4, .int .i64 0)] ⟨rfl, rfl, rfl, trivial⟩ ?_
  refine c_seq ?_
  refine c_reg ?_
  refine s_val rfl rfl (r_fa rfl fo56_0 rfl) ?_
  refine s_val rfl rfl (r_ld rfl ty9 rfl (H.cellI 1 rfl rfl)) ?_
  refine s_val rfl rfl (r_fa rfl fo56_0 rfl) ?_
  refine s_val rfl rfl (r_ld rfl ty9 rfl (H.cellI 0 rfl rfl)) ?_
  refine sc (cmpS_ok p.key q.key) H l0 rfl rfl (e_fn kn63 rfl rfl) ?_
  rintro _ _ w ⟨rfl, rfl⟩ H
  refine s_val rfl rfl (r_as rfl rfl) ?_
  refine s_nil ?_
  refine q_then ?_
  refine c_env [(4, .int .i64 (cmpK p.key q.key))] ⟨rfl, trivial⟩ ?_
  refine c_ret ?_
  refine q_ret1 rfl rfl ?_
  replace H := H.keep 0
  exact fin ⟨rfl, rfl⟩ H

set_option maxHeartbeats 1000000 in
theorem swapRange_ok (v : Value) (xs : List Pair) (a : Nat) (b : Nat) (n : Nat) (h1 : a + n ≤ b) (h2 : b + n ≤ xs.length) (hb : xs.length ≤ 1000000) :
    Cn Tryz.prog 118 [v, .int .i64 ((a : Nat) : Int), .int .i64 ((b : Nat) : Int), .int .i64 ((n : Nat) : Int), .func (.func 38) #[] #[]] [osl kPair v xs] [] (fun _ Bs => ∃ ys, Bs = [osl kPair v ys] ∧ Via xs ys (swapI a b n)) := by
  intro w0 F0 H
  obtain ⟨A1, c2, rfl, hc3, hm4, hp5⟩ := H.fA 0 rfl
  refine enter (args := [.slice A1 xs.length c2, .int .i64 ((a : Nat) : Int), .int .i64 ((b : Nat) : Int), .int .i64 ((n : Nat) : Int), .func (.func 38) #[] #[]]) Tryz.func118 rfl rfl (Nat.le_of_ble_eq_true rfl) ?_
  refine c_seq ?_
  refine c_reg ?_
  refine s_val rfl rfl (r_as rfl rfl) ?_
  refine s_nil ?_
  refine q_then ?_
  replace H : Hd _ _ _ [osl kPair (.slice A1 xs.length c2) xs] [] := H
  refine c_env [(0, .slice A1 xs.length c2), (1, .int .i64 ((a : Nat) : Int)), (2, .int .i64 ((b : Nat) : Int)), (3, .int .i64 ((n : Nat) : Int)), (10, .int .i64 0)] ⟨rfl, rfl, rfl, rfl, rfl, trivial⟩ ?_
  refine c_block ?_
  refine c_loop (σ := Nat × List Pair) (fun (k, ys) => [(0, .slice A1 xs.length c2), (1, .int .i64 ((a : Nat) : Int)), (2, .int .i64 ((b : Nat) : Int)), (3, .int .i64 ((n : Nat) : Int)), (10, .int .i64 ((k : Nat) : Int))]) (fun (k, ys) w => (Hd w0 F0 w [osl kPair (.slice A1 xs.length c2) ys] []) ∧ (k ≤ n) ∧ (Via xs ys (swapI a b k))) (fun (k, ys) => n - k) (0, xs) ⟨rfl, rfl, rfl, rfl, rfl, trivial⟩ ⟨H, by omega, via_refl xs (fun t => by unfold swapI; rw [if_neg (by omega), if_neg (by omega)])⟩ ?_
  rintro ⟨k, ys⟩ w ⟨H, hk, hv⟩
  have hl := hv.1
  refine c_seq ?_
  refine c_seq ?_
  refine c_reg ?_
  refine s_val rfl rfl (r_mv rfl rfl) ?_
  refine s_val rfl rfl (r_mv rfl rfl) ?_
  refine s_val rfl rfl (r_lt rfl rfl rfl) ?_
  refine s_nil ?_
  refine q_then ?_
  refine c_env [(0, .slice A1 xs.length c2), (1, .int .i64 ((a : Nat) : Int)), (2, .int .i64 ((b : Nat) : Int)), (3, .int .i64 ((n : Nat) : Int)), (10, .int .i64 ((k : Nat) : Int)), (13, .bool (decide (((k : Nat) : Int) < ((n : Nat) : Int))))] ⟨rfl, rfl, rfl, rfl, rfl, rfl, trivial⟩ ?_
  refine c_dec (p := ((k : Nat) : Int) < ((n : Nat) : Int)) rfl (fun h6 => ?_) (fun h6 => ?_)
  · skip
    refine c_skip ?_
    refine q_then ?_
    refine c_env [(0, .slice A1 xs.length c2), (1, .int .i64 ((a : Nat) : Int)), (2, .int .i64 ((b : Nat) : Int)), (3, .int .i64 ((n : Nat) : Int)), (10, .int .i64 ((k : Nat) : Int))] ⟨rfl, rfl, rfl, rfl, rfl, trivial⟩ ?_
    refine c_seq ?_
    refine c_block ?_
    refine c_ord (.e 0 (.e 1 (.e 2 (.e 3 (.e 4 (.e 5 (.e 6 (.e 7 (.e 8 (.e 9 (.e 10 (.e 11 (.e 12 (.e 14 (.e 15 (.e 16 (.e 17 (.e 18 (.p 13 19 (.e 20 (.m 21 (.e 22 (.m 23 .z))))))))))))))))))))))) (fun w => ∃ Ar, Hd w0 F0 w (Ar) []) mo (by kernel_rfl) (fun w H => ⟨_, H⟩) H (fun w H => ?_)
    refine d_val rfl rfl rfl (fun w ⟨Ar, H⟩ => r_mv rfl rfl) ?_
    refine d_val rfl rfl rfl (fun w ⟨Ar, H⟩ => r_mv rfl rfl) ?_
    refine d_val rfl rfl rfl (fun w ⟨Ar, H⟩ => r_mv rfl rfl) ?_
    refine d_val rfl rfl rfl (fun w ⟨Ar, H⟩ => r_add (z := ((a + k : Nat) : Int)) rfl rfl rfl (by rw [w64 (by omega) (by omega)]; omega)) ?_
    refine d_val rfl rfl rfl (fun w ⟨Ar, H⟩ => r_mv rfl rfl) ?_
    refine d_val rfl rfl rfl (fun w ⟨Ar, H⟩ => r_mv rfl rfl) ?_
    refine d_val rfl rfl rfl (fun w ⟨Ar, H⟩ => r_mv rfl rfl) ?_
    refine d_val rfl rfl rfl (fun w ⟨Ar, H⟩ => r_add (z := ((b + k : Nat) : Int)) rfl rfl rfl (by rw [w64 (by omega) (by omega)]; omega)) ?_
    refine d_val rfl rfl rfl (fun w ⟨Ar, H⟩ => r_mv rfl rfl) ?_
    refine d_val rfl rfl rfl (fun w ⟨Ar, H⟩ => r_mv rfl rfl) ?_
    refine d_val rfl rfl rfl (fun w ⟨Ar, H⟩ => r_mv rfl rfl) ?_
    refine d_val rfl rfl rfl (fun w ⟨Ar, H⟩ => r_add (z := ((b + k : Nat) : Int)) rfl rfl rfl (by rw [w64 (by omega) (by omega)]; omega)) ?_
    obtain ⟨x7, hx8⟩ : ∃ z9, ys[b + k]? = some z9 := ⟨_, List.getElem?_eq_getElem (show b + k < ys.length by omega)⟩
    have th9 := H.thA 0 rfl hx8
    refine d_val rfl rfl rfl (fun w ⟨Ar, H⟩ => r_iaE (p := oOf A1 + (b + k) * 2) rfl sl23 rfl rfl (by omega) (by omega) th9 rfl) ?_
    refine d_val rfl rfl rfl (fun w ⟨Ar, H⟩ => r_mv rfl rfl) ?_
    refine d_val rfl rfl rfl (fun w ⟨Ar, H⟩ => r_mv rfl rfl) ?_
    refine d_val rfl rfl rfl (fun w ⟨Ar, H⟩ => r_mv rfl rfl) ?_
    refine d_val rfl rfl rfl (fun w ⟨Ar, H⟩ => r_add (z := ((a + k : Nat) : Int)) rfl rfl rfl (by rw [w64 (by omega) (by omega)]; omega)) ?_
    obtain ⟨x10, hx11⟩ : ∃ z9, ys[a + k]? = some z9 := ⟨_, List.getElem?_eq_getElem (show a + k < ys.length by omega)⟩
    have th12 := H.thA 0 rfl hx11
    refine d_val rfl rfl rfl (fun w ⟨Ar, H⟩ => r_iaE (p := oOf A1 + (a + k) * 2) rfl sl23 rfl rfl (by omega) (by omega) th12 rfl) ?_
    refine d_pair rfl rfl rfl rfl rfl rfl rfl rfl (by decide) (r_ldA (cs := [.string x7.key, .string x7.val]) rfl ty56 rfl rfl (H.elsA 0 rfl hx8 rfl)) (r_ldA (cs := [.string x10.key, .string x10.val]) rfl ty56 rfl rfl (H.elsA 0 rfl hx11 rfl)) ?_
    have th13 := H.thA 0 rfl hx11
    refine d_val rfl rfl rfl (fun w ⟨Ar, H⟩ => r_iaE (p := oOf A1 + (a + k) * 2) rfl sl23 rfl rfl (by omega) (by omega) th13 rfl) ?_
    refine d_main rfl ?_
    refine s_stO (i := a + k) (a := x7) rfl rfl rfl ty56 rfl rfl rfl H (by omega) rfl (fun w H => ?_)
    replace H : Hd _ _ _ [osl kPair (.slice A1 xs.length c2) (ys.set (a + k) x7)] [] := H
    refine d_back ⟨_, H⟩ ?_
    obtain ⟨x14, hx15⟩ : ∃ z9, (ys.set (a + k) x7)[b + k]? = some z9 := ⟨_, List.getElem?_eq_getElem (show b + k < (ys.set (a + k) x7).length by simp only [List.length_set]; omega)⟩
    have th16 := H.thA 0 rfl hx15
    refine d_val rfl rfl rfl (fun w ⟨Ar, H⟩ => r_iaE (p := oOf A1 + (b + k) * 2) rfl sl23 rfl rfl (by omega) (by omega) th16 rfl) ?_
    refine d_main rfl ?_
    refine s_stO (i := b + k) (a := x10) rfl rfl rfl ty56 rfl rfl rfl H (by simp only [List.length_set]; omega) rfl (fun w H => ?_)
    replace H : Hd _ _ _ [osl kPair (.slice A1 xs.length c2) ((ys.set (a + k) x7).set (b + k) x10)] [] := H
    refine d_back ⟨_, H⟩ ?_
    refine d_nil ?_
    refine q_blockN ?_
    refine q_then ?_
    refine c_env [(0, .slice A1 xs.length c2), (1, .int .i64 ((a : Nat) : Int)), (2, .int .i64 ((b : Nat) : Int)), (3, .int .i64 ((n : Nat) : Int)), (10, .int .i64 ((k : Nat) : Int))] ⟨rfl, rfl, rfl, rfl, rfl, trivial⟩ ?_
    refine c_reg ?_
    refine s_val rfl rfl (r_mv rfl rfl) ?_
    refine s_val rfl rfl (r_add (z := ((k + 1 : Nat) : Int)) rfl rfl rfl (by rw [w64 (by omega) (by omega)]; omega)) ?_
    refine s_val rfl rfl (r_as rfl rfl) ?_
    refine s_nil ?_
    exact q_round (s := (k, ys)) (k + 1, (ys.set (a + k) x7).set (b + k) x10) ⟨rfl, rfl, rfl, rfl, rfl, trivial⟩ ⟨H, by omega, via_set2 (by omega) hv hx11 hx8⟩ (by (try dsimp only); omega)
  · skip
    refine c_exit ?_
    refine q_thenE ?_
    refine q_thenE ?_
    refine q_blockE ?_
    refine q_end rfl ?_
    exact fin ⟨_, rfl, (by omega : k = n) ▸ hv⟩ H

set_option maxHeartbeats 1000000 in
theorem rotate_ok (v : Value) (xs : List Pair) (a : Nat) (m : Nat) (b : Nat) (h1 : a < m) (h2 : m < b) (h3 : b ≤ xs.length) (hb : xs.length ≤ 1000000) :
    Cn Tryz.prog 90 [v, .int .i64 ((a : Nat) : Int), .int .i64 ((m : Nat) : Int), .int .i64 ((b : Nat) : Int), .func (.func 38) #[] #[]] [osl kPair v xs] [] (fun _ Bs => ∃ ys, Bs = [osl kPair v ys] ∧ Via xs ys (rotI a m b)) := by
  intro w0 F0 H
  obtain ⟨A1, c2, rfl, hc3, hm4, hp5⟩ := H.fA 0 rfl
  refine enter (args := [.slice A1 xs.length c2, .int .i64 ((a : Nat) : Int), .int .i64 ((m : Nat) : Int), .int .i64 ((b : Nat) : Int), .func (.func 38) #[] #[]]) Tryz.func90 rfl rfl (Nat.le_of_ble_eq_true rfl) ?_
  refine c_seq ?_
  refine c_reg ?_
  refine s_val rfl rfl (r_mv rfl rfl) ?_
  refine s_val rfl rfl (r_mv rfl rfl) ?_
  refine s_val rfl rfl (r_sub (z := ((m - a : Nat) : Int)) rfl rfl rfl (by rw [w64 (by omega) (by omega)]; omega)) ?_
  refine s_val rfl rfl (r_as rfl rfl) ?_
  refine s_nil ?_
  refine q_then ?_
  replace H : Hd _ _ _ [osl kPair (.slice A1 xs.length c2) xs] [] := H
  refine c_env [(0, .slice A1 xs.length c2), (2, .int .i64 ((m : Nat) : Int)), (3, .int .i64 ((b : Nat) : Int)), (4, .func (.func 38) #[] #[]), (10, .int .i64 ((m - a : Nat) : Int))] ⟨rfl, rfl, rfl, rfl, rfl, trivial⟩ ?_
  refine c_seq ?_
  refine c_reg ?_
  refine s_val rfl rfl (r_mv rfl rfl) ?_
  refine s_val rfl rfl (r_mv rfl rfl) ?_
  refine s_val rfl rfl (r_sub (z := ((b - m : Nat) : Int)) rfl rfl rfl (by rw [w64 (by omega) (by omega)]; omega)) ?_
  refine s_val rfl rfl (r_as rfl rfl) ?_
  refine s_nil ?_
  refine q_then ?_
  refine c_env [(0, .slice A1 xs.length c2), (2, .int .i64 ((m : Nat) : Int)), (4, .func (.func 38) #[] #[]), (10, .int .i64 ((m - a : Nat) : Int)), (11, .int .i64 ((b - m : Nat) : Int))] ⟨rfl, rfl, rfl, rfl, rfl, trivial⟩ ?_
  refine c_seq ?_
  refine c_block ?_
  refine c_loop (σ := Nat × Nat × List Pair) (fun (i, j, ys) => [(0, .slice A1 xs.length c2), (2, .int .i64 ((m : Nat) : Int)), (4, .func (.func 38) #[] #[]), (10, .int .i64 ((i : Nat) : Int)), (11, .int .i64 ((j : Nat) : Int))]) (fun (i, j, ys) w => (Hd w0 F0 w [osl kPair (.slice A1 xs.length c2) ys] []) ∧ (0 < i ∧ i ≤ m ∧ 0 < j ∧ m + j ≤ xs.length) ∧ (ys.length = xs.length) ∧ (∀ t, xs[rotI a m b t]? = ys[rotI (m - i) m (m + j) t]?)) (fun (i, j, ys) => i + j) (m - a, b - m, xs) ⟨rfl, rfl, rfl, rfl, rfl, trivial⟩ ⟨H, by (try dsimp only); omega, rfl, fun t => by (try dsimp only); rw [show m - (m - a) = a by omega, show m + (b - m) = b by omega]⟩ ?_
  rintro ⟨i, j, ys⟩ w ⟨H, hi, hl, hv⟩
  refine c_seq ?_
  refine c_seq ?_
  refine c_reg ?_
  refine s_val rfl rfl (r_mv rfl rfl) ?_
  refine s_val rfl rfl (r_mv rfl rfl) ?_
  refine s_val rfl rfl (r_ne rfl rfl rfl) ?_
  refine s_nil ?_
  refine q_then ?_
  refine c_env [(0, .slice A1 xs.length c2), (2, .int .i64 ((m : Nat) : Int)), (4, .func (.func 38) #[] #[]), (10, .int .i64 ((i : Nat) : Int)), (11, .int .i64 ((j : Nat) : Int)), (20, .bool (decide (((i : Nat) : Int) ≠ ((j : Nat) : Int))))] ⟨rfl, rfl, rfl, rfl, rfl, rfl, trivial⟩ ?_
  refine c_dec (p := ((i : Nat) : Int) ≠ ((j : Nat) : Int)) rfl (fun h6 => ?_) (fun h6 => ?_)
  · skip
    refine c_skip ?_
    refine q_then ?_
    refine c_env [(0, .slice A1 xs.length c2), (2, .int .i64 ((m : Nat) : Int)), (4, .func (.func 38) #[] #[]), (10, .int .i64 ((i : Nat) : Int)), (11, .int .i64 ((j : Nat) : Int))] ⟨rfl, rfl, rfl, rfl, rfl, trivial⟩ ?_
    refine c_block ?_
    refine c_seq ?_
    refine c_reg ?_
    refine s_val rfl rfl (r_mv rfl rfl) ?_
    refine s_val rfl rfl (r_mv rfl rfl) ?_
    refine s_val rfl rfl (r_gt rfl rfl rfl) ?_
    refine s_nil ?_
    refine q_then ?_
    refine c_env [(0, .slice A1 xs.length c2), (2, .int .i64 ((m : Nat) : Int)), (4, .func (.func 38) #[] #[]), (10, .int .i64 ((i : Nat) : Int)), (11, .int .i64 ((j : Nat) : Int)), (23, .bool (decide (((j : Nat) : Int) < ((i : Nat) : Int))))] ⟨rfl, rfl, rfl, rfl, rfl, rfl, trivial⟩ ?_
    refine c_dec (p := ((j : Nat) : Int) < ((i : Nat) : Int)) rfl (fun h7 => ?_) (fun h7 => ?_)
    · skip
      refine c_seq ?_
      refine c_reg ?_
      refine s_val rfl rfl (r_mv rfl rfl) ?_
      refine s_val rfl rfl (r_mv rfl rfl) ?_
      refine s_val rfl rfl (r_mv rfl rfl) ?_
      refine s_val rfl rfl (r_sub (z := ((m - i : Nat) : Int)) rfl rfl rfl (by rw [w64 (by omega) (by omega)]; omega)) ?_
      refine s_val rfl rfl (r_mv rfl rfl) ?_
      refine s_val rfl rfl (r_mv rfl rfl) ?_
      refine s_val rfl rfl (r_mv rfl rfl) ?_
      refine sc (swapRange_ok (.slice A1 xs.length c2) ys (m - i) m j (by omega) (by omega) (by omega)) H l0 rfl rfl (e_fn kn118 rfl rfl) ?_
      rintro _ _ w ⟨ys8, rfl, hv9⟩ H
      refine s_nil ?_
      refine q_then ?_
      replace H : Hd _ _ _ [osl kPair (.slice A1 xs.length c2) ys8] [] := H
      refine c_env [(0, .slice A1 xs.length c2), (2, .int .i64 ((m : Nat) : Int)), (4, .func (.func 38) #[] #[]), (10, .int .i64 ((i : Nat) : Int)), (11, .int .i64 ((j : Nat) : Int))] ⟨rfl, rfl, rfl, rfl, rfl, trivial⟩ ?_
      refine c_reg ?_
      refine s_val rfl rfl (r_mv rfl rfl) ?_
      refine s_val rfl rfl (r_mv rfl rfl) ?_
      refine s_val rfl rfl (r_sub (z := ((i - j : Nat) : Int)) rfl rfl rfl (by rw [w64 (by omega) (by omega)]; omega)) ?_
      refine s_val rfl rfl (r_as rfl rfl) ?_
      refine s_nil ?_
      refine q_blockN ?_
      have hw := rot_gt (m := m) (i := i) (j := j) (by omega) (by omega) hv9
      exact q_round (s := (i, j, ys)) (i - j, j, ys8) ⟨rfl, rfl, rfl, rfl, rfl, trivial⟩ ⟨H, by (try dsimp only); omega, by (try dsimp only); rw [hv9.1]; exact hl, fun t => (hv t).trans (hw t)⟩ (by (try dsimp only); omega)
    · skip
      refine c_seq ?_
      refine c_reg ?_
      refine s_val rfl rfl (r_mv rfl rfl) ?_
      refine s_val rfl rfl (r_mv rfl rfl) ?_
      refine s_val rfl rfl (r_mv rfl rfl) ?_
      refine s_val rfl rfl (r_sub (z := ((m - i : Nat) : Int)) rfl rfl rfl (by rw [w64 (by omega) (by omega)]; omega)) ?_
      refine s_val rfl rfl (r_mv rfl rfl) ?_
      refine s_val rfl rfl (r_mv rfl rfl) ?_
      refine s_val rfl rfl (r_add (z := ((m + j : Nat) : Int)) rfl rfl rfl (by rw [w64 (by omega) (by omega)]; omega)) ?_
      refine s_val rfl rfl (r_mv rfl rfl) ?_
      refine s_val rfl rfl (r_sub (z := ((m + j - i : Nat) : Int)) rfl rfl rfl (by rw [w64 (by omega) (by omega)]; omega)) ?_
      refine s_val rfl rfl (r_mv rfl rfl) ?_
      refine s_val rfl rfl (r_mv rfl rfl) ?_
      refine sc (swapRange_ok (.slice A1 xs.length c2) ys (m - i) (m + j - i) i (by omega) (by omega) (by omega)) H l0 rfl rfl (e_fn kn118 rfl rfl) ?_
      rintro _ _ w ⟨ys10, rfl, hv11⟩ H
      refine s_nil ?_
      refine q_then ?_
      replace H : Hd _ _ _ [osl kPair (.slice A1 xs.length c2) ys10] [] := H
      refine c_env [(0, .slice A1 xs.length c2), (2, .int .i64 ((m : Nat) : Int)), (4, .func (.func 38) #[] #[]), (10, .int .i64 ((i : Nat) : Int)), (11, .int .i64 ((j : Nat) : Int))] ⟨rfl, rfl, rfl, rfl, rfl, trivial⟩ ?_
      refine c_reg ?_
      refine s_val rfl rfl (r_mv rfl rfl) ?_
      refine s_val rfl rfl (r_mv rfl rfl) ?_
      refine s_val rfl rfl (r_sub (z := ((j - i : Nat) : Int)) rfl rfl rfl (by rw [w64 (by omega) (by omega)]; omega)) ?_
      refine s_val rfl rfl (r_as rfl rfl) ?_
      refine s_nil ?_
      refine q_blockN ?_
      have hw := rot_lt (m := m) (i := i) (j := j) (by omega) (by omega) hv11
      exact q_round (s := (i, j, ys)) (i, j - i, ys10) ⟨rfl, rfl, rfl, rfl, rfl, trivial⟩ ⟨H, by (try dsimp only); omega, by (try dsimp only); rw [hv11.1]; exact hl, fun t => (hv t).trans (hw t)⟩ (by (try dsimp only); omega)
  · skip
    refine c_exit ?_
    refine q_thenE ?_
    refine q_thenE ?_
    refine q_blockE ?_
    refine q_then ?_
    refine c_env [(0, .slice A1 xs.length c2), (2, .int .i64 ((m : Nat) : Int)), (4, .func (.func 38) #[] #[]), (10, .int .i64 ((i : Nat) : Int))] ⟨rfl, rfl, rfl, rfl, trivial⟩ ?_
    refine c_reg ?_
    refine s_val rfl rfl (r_mv rfl rfl) ?_
    refine s_val rfl rfl (r_mv rfl rfl) ?_
    refine s_val rfl rfl (r_mv rfl rfl) ?_
    refine s_val rfl rfl (r_sub (z := ((m - i : Nat) : Int)) rfl rfl rfl (by rw [w64 (by omega) (by omega)]; omega)) ?_
    refine s_val rfl rfl (r_mv rfl rfl) ?_
    refine s_val rfl rfl (r_mv rfl rfl) ?_
    refine s_val rfl rfl (r_mv rfl rfl) ?_
    refine sc (swapRange_ok (.slice A1 xs.length c2) ys (m - i) m i (by omega) (by omega) (by omega)) H l0 rfl rfl (e_fn kn118 rfl rfl) ?_
    rintro _ _ w ⟨ys12, rfl, hv13⟩ H
    refine s_nil ?_
    refine q_end rfl ?_
    obtain rfl : i = j := by omega
    exact fin ⟨_, rfl, hv13.1.trans hl, fun t => by rw [hv, hv13.2, rot_eq (by omega)]⟩ H

set_option maxHeartbeats 1000000 in
theorem insSort_ok (v : Value) (xs : List Pair) (a : Nat) (b : Nat) (h1 : a ≤ b) (h2 : b ≤ xs.length) (hb : xs.length ≤ 1000000) :
    Cn Tryz.prog 78 [v, .int .i64 ((a : Nat) : Int), .int .i64 ((b : Nat) : Int), .func (.func 38) #[] #[]] [osl kPair v xs] [] (fun _ Bs => ∃ ys, Bs = [osl kPair v ys] ∧ Sorts xs ys a b) := by
  intro w0 F0 H
  obtain ⟨A1, c2, rfl, hc3, hm4, hp5⟩ := H.fA 0 rfl
  refine enter (args := [.slice A1 xs.length c2, .int .i64 ((a : Nat) : Int), .int .i64 ((b : Nat) : Int), .func (.func 38) #[] #[]]) Tryz.func78 rfl rfl (Nat.le_of_ble_eq_true rfl) ?_
  refine c_seq ?_
  refine c_reg ?_
  refine s_val rfl rfl (r_mv rfl rfl) ?_
  refine s_val rfl rfl (r_add (z := ((a + 1 : Nat) : Int)) rfl rfl rfl (by rw [w64 (by omega) (by omega)]; omega)) ?_
  refine s_val rfl rfl (r_as rfl rfl) ?_
  refine s_nil ?_
  refine q_then ?_
  replace H : Hd _ _ _ [osl kPair (.slice A1 xs.length c2) xs] [] := H
  refine c_env [(0, .slice A1 xs.length c2), (1, .int .i64 ((a : Nat) : Int)), (2, .int .i64 ((b : Nat) : Int)), (3, .func (.func 38) #[] #[]), (8, .int .i64 ((a + 1 : Nat) : Int))] ⟨rfl, rfl, rfl, rfl, rfl, trivial⟩ ?_
  refine c_block ?_
  refine c_loop (σ := Nat × List Pair) (fun (i, ys) => [(0, .slice A1 xs.length c2), (1, .int .i64 ((a : Nat) : Int)), (2, .int .i64 ((b : Nat) : Int)), (3, .func (.func 38) #[] #[]), (8, .int .i64 ((i : Nat) : Int))]) (fun (i, ys) w => (Hd w0 F0 w [osl kPair (.slice A1 xs.length c2) ys] []) ∧ (a + 1 ≤ i ∧ (i ≤ b ∨ i = a + 1)) ∧ (Stab xs ys) ∧ (InI xs ys a b) ∧ (SrtI ys a i)) (fun (i, ys) => b - i) (a + 1, xs) ⟨rfl, rfl, rfl, rfl, rfl, trivial⟩ ⟨H, by (try dsimp only); omega, Stab.refl _, InI.refl _ _ _, SrtI.one xs (Nat.le_refl _)⟩ ?_
  rintro ⟨i, ys⟩ w ⟨H, hi, hst, hin, hso⟩
  have hl := hin.1
  refine c_seq ?_
  refine c_seq ?_
  refine c_reg ?_
  refine s_val rfl rfl (r_mv rfl rfl) ?_
  refine s_val rfl rfl (r_mv rfl rfl) ?_
  refine s_val rfl rfl (r_lt rfl rfl rfl) ?_
  refine s_nil ?_
  refine q_then ?_
  refine c_env [(0, .slice A1 xs.length c2), (1, .int .i64 ((a : Nat) : Int)), (2, .int .i64 ((b : Nat) : Int)), (3, .func (.func 38) #[] #[]), (8, .int .i64 ((i : Nat) : Int)), (14, .bool (decide (((i : Nat) : Int) < ((b : Nat) : Int))))] ⟨rfl, rfl, rfl, rfl, rfl, rfl, trivial⟩ ?_
  refine c_dec (p := ((i : Nat) : Int) < ((b : Nat) : Int)) rfl (fun h6 => ?_) (fun h6 => ?_)
  · skip
    refine c_skip ?_
    refine q_then ?_
    refine c_env [(0, .slice A1 xs.length c2), (1, .int .i64 ((a : Nat) : Int)), (2, .int .i64 ((b : Nat) : Int)), (3, .func (.func 38) #[] #[]), (8, .int .i64 ((i : Nat) : Int))] ⟨rfl, rfl, rfl, rfl, rfl, trivial⟩ ?_
    refine c_seq ?_
    refine c_block ?_
    refine c_seq ?_
    refine c_reg ?_
    refine s_val rfl rfl (r_mv rfl rfl) ?_
    refine s_val rfl rfl (r_as rfl rfl) ?_
    refine s_nil ?_
    refine q_then ?_
    refine c_env [(0, .slice A1 xs.length c2), (1, .int .i64 ((a : Nat) : Int)), (2, .int .i64 ((b : Nat) : Int)), (3, .func (.func 38) #[] #[]), (8, .int .i64 ((i : Nat) : Int)), (9, .int .i64 ((i : Nat) : Int))] ⟨rfl, rfl, rfl, rfl, rfl, rfl, trivial⟩ ?_
    refine c_block ?_
    refine c_loop (σ := Nat × List Pair) (fun (j, zs) => [(0, .slice A1 xs.length c2), (1, .int .i64 ((a : Nat) : Int)), (2, .int .i64 ((b : Nat) : Int)), (3, .func (.func 38) #[] #[]), (8, .int .i64 ((i : Nat) : Int)), (9, .int .i64 ((j : Nat) : Int))]) (fun (j, zs) w => (Hd w0 F0 w [osl kPair (.slice A1 xs.length c2) zs] []) ∧ (a ≤ j ∧ j ≤ i) ∧ (Stab xs zs) ∧ (InI xs zs a b) ∧ (ButI zs a (i + 1) j)) (fun (j, zs) => j) (i, ys) ⟨rfl, rfl, rfl, rfl, rfl, rfl, trivial⟩ ⟨H, by (try dsimp only); omega, hst, hin, but_start hso⟩ ?_
    rintro ⟨j, zs⟩ w ⟨H, hj, hst2, hin2, hbu⟩
    have hl2 := hin2.1
    refine c_seq ?_
    refine c_seq ?_
    refine c_ord (.e 0 (.e 1 (.e 2 (.e 3 (.e 4 (.e 5 (.e 6 (.e 7 (.e 8 (.e 9 (.e 10 (.e 11 (.e 12 (.e 13 (.m 14 (.e 15 (.e 16 .z))))))))))))))))) (fun w => ∃ Ar, Hd w0 F0 w (osl kPair (.slice A1 xs.length c2) zs :: Ar) []) mo (by kernel_rfl) (fun w H => ⟨_, H⟩) H (fun w H => ?_)
    refine d_val rfl rfl rfl (fun w ⟨Ar, H⟩ => r_mv rfl rfl) ?_
    refine d_val rfl rfl rfl (fun w ⟨Ar, H⟩ => r_mv rfl rfl) ?_
    refine d_val rfl rfl rfl (fun w ⟨Ar, H⟩ => r_gt rfl rfl rfl) ?_
    refine d_val rfl rfl rfl (fun w ⟨Ar, H⟩ => r_mv rfl rfl) ?_
    refine d_dec (d := 21) (p := ((a : Nat) : Int) < ((j : Nat) : Int)) rfl (fun h7 => ?_) (fun h7 => ?_)
    · skip
      refine d_val rfl rfl rfl (fun w ⟨Ar, H⟩ => r_mv rfl rfl) ?_
      refine d_val rfl rfl rfl (fun w ⟨Ar, H⟩ => r_mv rfl rfl) ?_
      refine d_val rfl rfl rfl (fun w ⟨Ar, H⟩ => r_mv rfl rfl) ?_
      obtain ⟨x8, hx9⟩ : ∃ z9, zs[j]? = some z9 := ⟨_, List.getElem?_eq_getElem (show j < zs.length by omega)⟩
      have th10 := H.thA 0 rfl hx9
      refine d_val rfl rfl rfl (fun w ⟨Ar, H⟩ => r_iaE (p := oOf A1 + j * 2) rfl sl23 rfl rfl (by omega) (by omega) th10 rfl) ?_
      refine d_val rfl rfl rfl (fun w ⟨Ar, H⟩ => r_ldA (cs := [.string x8.key, .string x8.val]) rfl ty56 rfl rfl (H.elsA 0 rfl hx9 rfl)) ?_
      refine d_val rfl rfl rfl (fun w ⟨Ar, H⟩ => r_mv rfl rfl) ?_
      refine d_val rfl rfl rfl (fun w ⟨Ar, H⟩ => r_mv rfl rfl) ?_
      refine d_val rfl rfl rfl (fun w ⟨Ar, H⟩ => r_sub (z := ((j - 1 : Nat) : Int)) rfl rfl rfl (by rw [w64 (by omega) (by omega)]; omega)) ?_
      obtain ⟨x11, hx12⟩ : ∃ z9, zs[j - 1]? = some z9 := ⟨_, List.getElem?_eq_getElem (show j - 1 < zs.length by omega)⟩
      have th13 := H.thA 0 rfl hx12
      refine d_val rfl rfl rfl (fun w ⟨Ar, H⟩ => r_iaE (p := oOf A1 + (j - 1) * 2) rfl sl23 rfl rfl (by omega) (by omega) th13 rfl) ?_
      refine d_val rfl rfl rfl (fun w ⟨Ar, H⟩ => r_ldA (cs := [.string x11.key, .string x11.val]) rfl ty56 rfl rfl (H.elsA 0 rfl hx12 rfl)) ?_
      refine d_main rfl ?_
      refine sc (order_ok x8 x11) H l0 rfl rfl (e_val (vs := [.agg #[.string x8.key, .string x8.val], .agg #[.string x11.key, .string x11.val]]) (fs := #[]) (cs := #[]) kn38 rfl rfl rfl) ?_
      rintro _ _ w ⟨rfl, rfl⟩ H
      refine d_back ⟨_, H⟩ ?_
      refine d_val rfl rfl rfl (fun w ⟨Ar, H⟩ => r_lt rfl rfl rfl) ?_
      refine d_val rfl rfl rfl (fun w ⟨Ar, H⟩ => r_pickT rfl rfl rfl) ?_
      refine d_nil ?_
      refine q_then ?_
      refine c_env [(0, .slice A1 xs.length c2), (1, .int .i64 ((a : Nat) : Int)), (2, .int .i64 ((b : Nat) : Int)), (3, .func (.func 38) #[] #[]), (8, .int .i64 ((i : Nat) : Int)), (9, .int .i64 ((j : Nat) : Int)), (34, .bool (decide ((cmpK x8.key x11.key) < 0)))] ⟨rfl, rfl, rfl, rfl, rfl, rfl, rfl, trivial⟩ ?_
      refine c_dec (p := (cmpK x8.key x11.key) < 0) rfl (fun h14 => ?_) (fun h14 => ?_)
      · skip
        refine c_skip ?_
        refine q_then ?_
        refine c_env [(0, .slice A1 xs.length c2), (1, .int .i64 ((a : Nat) : Int)), (2, .int .i64 ((b : Nat) : Int)), (3, .func (.func 38) #[] #[]), (8, .int .i64 ((i : Nat) : Int)), (9, .int .i64 ((j : Nat) : Int))] ⟨rfl, rfl, rfl, rfl, rfl, rfl, trivial⟩ ?_
        refine c_seq ?_
        refine c_block ?_
        refine c_ord (.e 0 (.e 1 (.e 2 (.e 3 (.e 4 (.e 5 (.e 6 (.e 7 (.e 8 (.e 10 (.e 11 (.e 12 (.p 9 13 (.e 14 (.m 15 (.e 16 (.m 17 .z))))))))))))))))) (fun w => ∃ Ar, Hd w0 F0 w (Ar) []) mo (by kernel_rfl) (fun w H => ⟨_, H⟩) H (fun w H => ?_)
        refine d_val rfl rfl rfl (fun w ⟨Ar, H⟩ => r_mv rfl rfl) ?_
        refine d_val rfl rfl rfl (fun w ⟨Ar, H⟩ => r_mv rfl rfl) ?_
        refine d_val rfl rfl rfl (fun w ⟨Ar, H⟩ => r_mv rfl rfl) ?_
        refine d_val rfl rfl rfl (fun w ⟨Ar, H⟩ => r_mv rfl rfl) ?_
        refine d_val rfl rfl rfl (fun w ⟨Ar, H⟩ => r_sub (z := ((j - 1 : Nat) : Int)) rfl rfl rfl (by rw [w64 (by omega) (by omega)]; omega)) ?_
        refine d_val rfl rfl rfl (fun w ⟨Ar, H⟩ => r_mv rfl rfl) ?_
        refine d_val rfl rfl rfl (fun w ⟨Ar, H⟩ => r_mv rfl rfl) ?_
        refine d_val rfl rfl rfl (fun w ⟨Ar, H⟩ => r_sub (z := ((j - 1 : Nat) : Int)) rfl rfl rfl (by rw [w64 (by omega) (by omega)]; omega)) ?_
        have th15 := H.thA 0 rfl hx12
        refine d_val rfl rfl rfl (fun w ⟨Ar, H⟩ => r_iaE (p := oOf A1 + (j - 1) * 2) rfl sl23 rfl rfl (by omega) (by omega) th15 rfl) ?_
        refine d_val rfl rfl rfl (fun w ⟨Ar, H⟩ => r_mv rfl rfl) ?_
        refine d_val rfl rfl rfl (fun w ⟨Ar, H⟩ => r_mv rfl rfl) ?_
        have th16 := H.thA 0 rfl hx9
        refine d_val rfl rfl rfl (fun w ⟨Ar, H⟩ => r_iaE (p := oOf A1 + j * 2) rfl sl23 rfl rfl (by omega) (by omega) th16 rfl) ?_
        refine d_pair rfl rfl rfl rfl rfl rfl rfl rfl (by decide) (r_ldA (cs := [.string x11.key, .string x11.val]) rfl ty56 rfl rfl (H.elsA 0 rfl hx12 rfl)) (r_ldA (cs := [.string x8.key, .string x8.val]) rfl ty56 rfl rfl (H.elsA 0 rfl hx9 rfl)) ?_
        have th17 := H.thA 0 rfl hx9
        refine d_val rfl rfl rfl (fun w ⟨Ar, H⟩ => r_iaE (p := oOf A1 + j * 2) rfl sl23 rfl rfl (by omega) (by omega) th17 rfl) ?_
        refine d_main rfl ?_
        refine s_stO (i := j) (a := x11) rfl rfl rfl ty56 rfl rfl rfl H (by omega) rfl (fun w H => ?_)
        replace H : Hd _ _ _ [osl kPair (.slice A1 xs.length c2) (zs.set j x11)] [] := H
        refine d_back ⟨_, H⟩ ?_
        obtain ⟨x18, hx19⟩ : ∃ z9, (zs.set j x11)[j - 1]? = some z9 := ⟨_, List.getElem?_eq_getElem (show j - 1 < (zs.set j x11).length by simp only [List.length_set]; omega)⟩
        have th20 := H.thA 0 rfl hx19
        refine d_val rfl rfl rfl (fun w ⟨Ar, H⟩ => r_iaE (p := oOf A1 + (j - 1) * 2) rfl sl23 rfl rfl (by omega) (by omega) th20 rfl) ?_
        refine d_main rfl ?_
        refine s_stO (i := j - 1) (a := x8) rfl rfl rfl ty56 rfl rfl rfl H (by simp only [List.length_set]; omega) rfl (fun w H => ?_)
        replace H : Hd _ _ _ [osl kPair (.slice A1 xs.length c2) ((zs.set j x11).set (j - 1) x8)] [] := H
        refine d_back ⟨_, H⟩ ?_
        refine d_nil ?_
        refine q_blockN ?_
        refine q_then ?_
        refine c_env [(0, .slice A1 xs.length c2), (1, .int .i64 ((a : Nat) : Int)), (2, .int .i64 ((b : Nat) : Int)), (3, .func (.func 38) #[] #[]), (8, .int .i64 ((i : Nat) : Int)), (9, .int .i64 ((j : Nat) : Int))] ⟨rfl, rfl, rfl, rfl, rfl, rfl, trivial⟩ ?_
        refine c_reg ?_
        refine s_val rfl rfl (r_mv rfl rfl) ?_
        refine s_val rfl rfl (r_sub (z := ((j - 1 : Nat) : Int)) rfl rfl rfl (by rw [w64 (by omega) (by omega)]; omega)) ?_
        refine s_val rfl rfl (r_as rfl rfl) ?_
        refine s_nil ?_
        have hsw := swap_stab' (by omega) hx12 hx9 (cmpK_neg.1 h14)
        exact q_round (s := (j, zs)) (j - 1, (zs.set j x11).set (j - 1) x8) ⟨rfl, rfl, rfl, rfl, rfl, rfl, trivial⟩ ⟨H, by (try dsimp only); omega, hst2.trans hsw.1, hin2.trans (hsw.2.wider (by omega) (by omega)), but_step' hbu (by omega) hx12 hx9 (cmpK_neg.1 h14) (by omega)⟩ (by (try dsimp only); omega)
      · skip
        refine c_exit ?_
        refine q_thenE ?_
        refine q_thenE ?_
        refine q_blockE ?_
        refine q_blockN ?_
        refine q_then ?_
        refine c_env [(0, .slice A1 xs.length c2), (1, .int .i64 ((a : Nat) : Int)), (2, .int .i64 ((b : Nat) : Int)), (3, .func (.func 38) #[] #[]), (8, .int .i64 ((i : Nat) : Int))] ⟨rfl, rfl, rfl, rfl, rfl, trivial⟩ ?_
        refine c_reg ?_
        refine s_val rfl rfl (r_mv rfl rfl) ?_
        refine s_val rfl rfl (r_add (z := ((i + 1 : Nat) : Int)) rfl rfl rfl (by rw [w64 (by omega) (by omega)]; omega)) ?_
        refine s_val rfl rfl (r_as rfl rfl) ?_
        refine s_nil ?_
        exact q_round (s := (i, ys)) (i + 1, zs) ⟨rfl, rfl, rfl, rfl, rfl, trivial⟩ ⟨H, by (try dsimp only); omega, hst2, hin2, but_stop' hbu (by omega) hx12 hx9 (cmpK_nneg h14)⟩ (by (try dsimp only); omega)
    · skip
      refine d_no rfl rfl rfl ?_
      refine d_no rfl rfl rfl ?_
      refine d_no rfl rfl rfl ?_
      refine d_no rfl rfl rfl ?_
      refine d_no rfl rfl rfl ?_
      refine d_no rfl rfl rfl ?_
      refine d_no rfl rfl rfl ?_
      refine d_no rfl rfl rfl ?_
      refine d_no rfl rfl rfl ?_
      refine d_no rfl rfl rfl ?_
      refine d_mno rfl ⟨_, H⟩ rfl rfl ?_
      refine d_no rfl rfl rfl ?_
      refine d_val rfl rfl rfl (fun w ⟨Ar, H⟩ => r_pickF rfl rfl rfl) ?_
      refine d_nil ?_
      refine q_then ?_
      refine c_env [(0, .slice A1 xs.length c2), (1, .int .i64 ((a : Nat) : Int)), (2, .int .i64 ((b : Nat) : Int)), (3, .func (.func 38) #[] #[]), (8, .int .i64 ((i : Nat) : Int)), (9, .int .i64 ((j : Nat) : Int)), (34, .bool false)] ⟨rfl, rfl, rfl, rfl, rfl, rfl, rfl, trivial⟩ ?_
      refine c_no rfl ?_
      refine c_exit ?_
      refine q_thenE ?_
      refine q_thenE ?_
      refine q_blockE ?_
      refine q_blockN ?_
      refine q_then ?_
      refine c_env [(0, .slice A1 xs.length c2), (1, .int .i64 ((a : Nat) : Int)), (2, .int .i64 ((b : Nat) : Int)), (3, .func (.func 38) #[] #[]), (8, .int .i64 ((i : Nat) : Int))] ⟨rfl, rfl, rfl, rfl, rfl, trivial⟩ ?_
      refine c_reg ?_
      refine s_val rfl rfl (r_mv rfl rfl) ?_
      refine s_val rfl rfl (r_add (z := ((i + 1 : Nat) : Int)) rfl rfl rfl (by rw [w64 (by omega) (by omega)]; omega)) ?_
      refine s_val rfl rfl (r_as rfl rfl) ?_
      refine s_nil ?_
      exact q_round (s := (i, ys)) (i + 1, zs) ⟨rfl, rfl, rfl, rfl, rfl, trivial⟩ ⟨H, by (try dsimp only); omega, hst2, hin2, but_low ((by omega : j = a) ▸ hbu)⟩ (by (try dsimp only); omega)
  · skip
    refine c_exit ?_
    refine q_thenE ?_
    refine q_thenE ?_
    refine q_blockE ?_
    refine q_end rfl ?_
    exact fin ⟨_, rfl, hst, hin, hso.sub (Nat.le_refl _) (by omega)⟩ H

set_option maxHeartbeats 1000000 in
theorem symMerge_step (N : Nat) (ih : ∀ (v : Value) (xs : List Pair) (a m b : Nat), b - a < N → a < m → m < b → b ≤ xs.length → xs.length ≤ 1000000 → SrtI xs a m → SrtI xs m b → Cn Tryz.prog 79 [v, .int .i64 ((a : Nat) : Int), .int .i64 ((m : Nat) : Int), .int .i64 ((b : Nat) : Int), .func (.func 38) #[] #[]] [osl kPair v xs] [] (fun _ Bs => ∃ ys, Bs = [osl kPair v ys] ∧ Sorts xs ys a b)) (v : Value) (xs : List Pair) (a : Nat) (m : Nat) (b : Nat) (hN : b - a < N + 1) (h1 : a < m) (h2 : m < b) (h3 : b ≤ xs.length) (hb : xs.length ≤ 1000000) (hs1 : SrtI xs a m) (hs2 : SrtI xs m b) :
    Cn Tryz.prog 79 [v, .int .i64 ((a : Nat) : Int), .int .i64 ((m : Nat) : Int), .int .i64 ((b : Nat) : Int), .func (.func 38) #[] #[]] [osl kPair v xs] [] (fun _ Bs => ∃ ys, Bs = [osl kPair v ys] ∧ Sorts xs ys a b) := by
  intro w0 F0 H
  obtain ⟨A1, c2, rfl, hc3, hm4, hp5⟩ := H.fA 0 rfl
  refine enter (args := [.slice A1 xs.length c2, .int .i64 ((a : Nat) : Int), .int .i64 ((m : Nat) : Int), .int .i64 ((b : Nat) : Int), .func (.func 38) #[] #[]]) Tryz.func79 rfl rfl (Nat.le_of_ble_eq_true rfl) ?_
  refine c_seq ?_
  refine c_seq ?_
  refine c_reg ?_
  refine s_val rfl rfl (r_mv rfl rfl) ?_
  refine s_val rfl rfl (r_mv rfl rfl) ?_
  refine s_val rfl rfl (r_sub (z := ((m - a : Nat) : Int)) rfl rfl rfl (by rw [w64 (by omega) (by omega)]; omega)) ?_
  refine s_val rfl rfl (r_eq rfl rfl rfl) ?_
  refine s_nil ?_
  refine q_then ?_
  replace H : Hd _ _ _ [osl kPair (.slice A1 xs.length c2) xs] [] := H
  refine c_env [(0, .slice A1 xs.length c2), (1, .int .i64 ((a : Nat) : Int)), (2, .int .i64 ((m : Nat) : Int)), (3, .int .i64 ((b : Nat) : Int)), (4, .func (.func 38) #[] #[]), (28, .bool (decide (((m - a : Nat) : Int) = 1)))] ⟨rfl, rfl, rfl, rfl, rfl, rfl, trivial⟩ ?_
  refine c_dec (p := ((m - a : Nat) : Int) = 1) rfl (fun h6 => ?_) (fun h6 => ?_)
  · skip
    refine c_seq ?_
    have hm : m = a + 1 := by omega
    obtain ⟨x0, hx0⟩ : ∃ z9, xs[a]? = some z9 := ⟨_, List.getElem?_eq_getElem (show a < xs.length by omega)⟩
    refine c_reg ?_
    refine s_val rfl rfl (r_mv rfl rfl) ?_
    refine s_val rfl rfl (r_as rfl rfl) ?_
    refine s_nil ?_
    refine q_then ?_
    refine c_env [(0, .slice A1 xs.length c2), (1, .int .i64 ((a : Nat) : Int)), (2, .int .i64 ((m : Nat) : Int)), (3, .int .i64 ((b : Nat) : Int)), (4, .func (.func 38) #[] #[]), (10, .int .i64 ((m : Nat) : Int))] ⟨rfl, rfl, rfl, rfl, rfl, rfl, trivial⟩ ?_
    refine c_seq ?_
    refine c_reg ?_
    refine s_val rfl rfl (r_mv rfl rfl) ?_
    refine s_val rfl rfl (r_as rfl rfl) ?_
    refine s_nil ?_
    refine q_then ?_
    refine c_env [(0, .slice A1 xs.length c2), (1, .int .i64 ((a : Nat) : Int)), (2, .int .i64 ((m : Nat) : Int)), (3, .int .i64 ((b : Nat) : Int)), (4, .func (.func 38) #[] #[]), (10, .int .i64 ((m : Nat) : Int)), (11, .int .i64 ((b : Nat) : Int))] ⟨rfl, rfl, rfl, rfl, rfl, rfl, rfl, trivial⟩ ?_
    refine c_seq ?_
    refine c_block ?_
    refine c_loop (σ := Nat × Nat) (fun (i, j) => [(0, .slice A1 xs.length c2), (1, .int .i64 ((a : Nat) : Int)), (2, .int .i64 ((m : Nat) : Int)), (3, .int .i64 ((b : Nat) : Int)), (4, .func (.func 38) #[] #[]), (10, .int .i64 ((i : Nat) : Int)), (11, .int .i64 ((j : Nat) : Int))]) (fun (i, j) w => (Hd w0 F0 w [osl kPair (.slice A1 xs.length c2) xs] []) ∧ (m ≤ i ∧ i ≤ j ∧ j ≤ b) ∧ (i = m ∨ ∃ u, xs[i - 1]? = some u ∧ ltS u.key x0.key = true) ∧ (j = b ∨ ∃ u, xs[j]? = some u ∧ ltS u.key x0.key = false)) (fun (i, j) => j - i) (m, b) ⟨rfl, rfl, rfl, rfl, rfl, rfl, rfl, trivial⟩ ⟨H, by (try dsimp only); omega, .inl rfl, .inl rfl⟩ ?_
    rintro ⟨i, j⟩ w ⟨H, hij, hlow, hup⟩
    refine c_seq ?_
    refine c_seq ?_
    refine c_reg ?_
    refine s_val rfl rfl (r_mv rfl rfl) ?_
    refine s_val rfl rfl (r_mv rfl rfl) ?_
    refine s_val rfl rfl (r_lt rfl rfl rfl) ?_
    refine s_nil ?_
    refine q_then ?_
    refine c_env [(0, .slice A1 xs.length c2), (1, .int .i64 ((a : Nat) : Int)), (2, .int .i64 ((m : Nat) : Int)), (3, .int .i64 ((b : Nat) : Int)), (4, .func (.func 38) #[] #[]), (10, .int .i64 ((i : Nat) : Int)), (11, .int .i64 ((j : Nat) : Int)), (33, .bool (decide (((i : Nat) : Int) < ((j : Nat) : Int))))] ⟨rfl, rfl, rfl, rfl, rfl, rfl, rfl, rfl, trivial⟩ ?_
    refine c_dec (p := ((i : Nat) : Int) < ((j : Nat) : Int)) rfl (fun h7 => ?_) (fun h7 => ?_)
    · skip
      refine c_skip ?_
      refine q_then ?_
      refine c_env [(0, .slice A1 xs.length c2), (1, .int .i64 ((a : Nat) : Int)), (2, .int .i64 ((m : Nat) : Int)), (3, .int .i64 ((b : Nat) : Int)), (4, .func (.func 38) #[] #[]), (10, .int .i64 ((i : Nat) : Int)), (11, .int .i64 ((j : Nat) : Int))] ⟨rfl, rfl, rfl, rfl, rfl, rfl, rfl, trivial⟩ ?_
      refine c_block ?_
      refine c_seq ?_
      refine c_reg ?_
      refine s_val rfl rfl (r_mv rfl rfl) ?_
      refine s_val rfl rfl (r_mv rfl rfl) ?_
      refine s_val rfl rfl (r_add (z := ((i + j : Nat) : Int)) rfl rfl rfl (by rw [w64 (by omega) (by omega)]; omega)) ?_
      refine s_val rfl rfl (r_i2i (z := ((i + j : Nat) : Int)) rfl rfl un3 un72 (wu64 (by omega) (by omega))) ?_
      refine s_val rfl rfl (r_shr (z := (((i + j) / 2 : Nat) : Int)) rfl rfl rfl (by omega) (half_u64 _)) ?_
      refine s_val rfl rfl (r_i2i (z := (((i + j) / 2 : Nat) : Int)) rfl rfl un72 un3 (w64 (by omega) (by omega))) ?_
      refine s_val rfl rfl (r_as rfl rfl) ?_
      refine s_nil ?_
      refine q_then ?_
      refine c_env [(0, .slice A1 xs.length c2), (1, .int .i64 ((a : Nat) : Int)), (2, .int .i64 ((m : Nat) : Int)), (3, .int .i64 ((b : Nat) : Int)), (4, .func (.func 38) #[] #[]), (10, .int .i64 ((i : Nat) : Int)), (11, .int .i64 ((j : Nat) : Int)), (12, .int .i64 (((i + j) / 2 : Nat) : Int))] ⟨rfl, rfl, rfl, rfl, rfl, rfl, rfl, rfl, trivial⟩ ?_
      refine c_seq ?_
      refine c_ord (.e 0 (.e 1 (.e 2 (.e 3 (.e 4 (.e 5 (.e 6 (.e 7 (.e 8 (.m 9 (.e 10 .z))))))))))) (fun w => ∃ Ar, Hd w0 F0 w (osl kPair (.slice A1 xs.length c2) xs :: Ar) []) mo (by kernel_rfl) (fun w H => ⟨_, H⟩) H (fun w H => ?_)
      refine d_val rfl rfl rfl (fun w ⟨Ar, H⟩ => r_mv rfl rfl) ?_
      refine d_val rfl rfl rfl (fun w ⟨Ar, H⟩ => r_mv rfl rfl) ?_
      refine d_val rfl rfl rfl (fun w ⟨Ar, H⟩ => r_mv rfl rfl) ?_
      obtain ⟨x8, hx9⟩ : ∃ z9, xs[(i + j) / 2]? = some z9 := ⟨_, List.getElem?_eq_getElem (show (i + j) / 2 < xs.length by omega)⟩
      have th10 := H.thA 0 rfl hx9
      refine d_val rfl rfl rfl (fun w ⟨Ar, H⟩ => r_iaE (p := oOf A1 + ((i + j) / 2) * 2) rfl sl23 rfl rfl (by omega) (by omega) th10 rfl) ?_
      refine d_val rfl rfl rfl (fun w ⟨Ar, H⟩ => r_ldA (cs := [.string x8.key, .string x8.val]) rfl ty56 rfl rfl (H.elsA 0 rfl hx9 rfl)) ?_
      refine d_val rfl rfl rfl (fun w ⟨Ar, H⟩ => r_mv rfl rfl) ?_
      refine d_val rfl rfl rfl (fun w ⟨Ar, H⟩ => r_mv rfl rfl) ?_
      obtain ⟨x11, hx12⟩ : ∃ z9, xs[a]? = some z9 := ⟨_, List.getElem?_eq_getElem (show a < xs.length by omega)⟩
      have th13 := H.thA 0 rfl hx12
      refine d_val rfl rfl rfl (fun w ⟨Ar, H⟩ => r_iaE (p := oOf A1 + a * 2) rfl sl23 rfl rfl (by omega) (by omega) th13 rfl) ?_
      refine d_val rfl rfl rfl (fun w ⟨Ar, H⟩ => r_ldA (cs := [.string x11.key, .string x11.val]) rfl ty56 rfl rfl (H.elsA 0 rfl hx12 rfl)) ?_
      refine d_main rfl ?_
      refine sc (order_ok x8 x11) H l0 rfl rfl (e_val (vs := [.agg #[.string x8.key, .string x8.val], .agg #[.string x11.key, .string x11.val]]) (fs := #[]) (cs := #[]) kn38 rfl rfl rfl) ?_
      rintro _ _ w ⟨rfl, rfl⟩ H
      refine d_back ⟨_, H⟩ ?_
      refine d_val rfl rfl rfl (fun w ⟨Ar, H⟩ => r_lt rfl rfl rfl) ?_
      refine d_nil ?_
      refine q_then ?_
      refine c_env [(0, .slice A1 xs.length c2), (1, .int .i64 ((a : Nat) : Int)), (2, .int .i64 ((m : Nat) : Int)), (3, .int .i64 ((b : Nat) : Int)), (4, .func (.func 38) #[] #[]), (10, .int .i64 ((i : Nat) : Int)), (11, .int .i64 ((j : Nat) : Int)), (12, .int .i64 (((i + j) / 2 : Nat) : Int)), (50, .bool (decide ((cmpK x8.key x11.key) < 0)))] ⟨rfl, rfl, rfl, rfl, rfl, rfl, rfl, rfl, rfl, trivial⟩ ?_
      refine c_dec (p := (cmpK x8.key x11.key) < 0) rfl (fun h14 => ?_) (fun h14 => ?_)
      · skip
        obtain rfl : x11 = x0 := Option.some.inj (hx12.symm.trans hx0)
        refine c_reg ?_
        refine s_val rfl rfl (r_mv rfl rfl) ?_
        refine s_val rfl rfl (r_add (z := (((i + j) / 2 + 1 : Nat) : Int)) rfl rfl rfl (by rw [w64 (by omega) (by omega)]; omega)) ?_
        refine s_val rfl rfl (r_as rfl rfl) ?_
        refine s_nil ?_
        refine q_blockN ?_
        exact q_round (s := (i, j)) ((i + j) / 2 + 1, j) ⟨rfl, rfl, rfl, rfl, rfl, rfl, rfl, trivial⟩ ⟨H, by (try dsimp only); omega, .inr ⟨x8, by rw [Nat.add_sub_cancel]; exact hx9, cmpK_neg.1 h14⟩, hup⟩ (by (try dsimp only); omega)
      · skip
        obtain rfl : x11 = x0 := Option.some.inj (hx12.symm.trans hx0)
        refine c_reg ?_
        refine s_val rfl rfl (r_mv rfl rfl) ?_
        refine s_val rfl rfl (r_as rfl rfl) ?_
        refine s_nil ?_
        refine q_blockN ?_
        exact q_round (s := (i, j)) (i, (i + j) / 2) ⟨rfl, rfl, rfl, rfl, rfl, rfl, rfl, trivial⟩ ⟨H, by (try dsimp only); omega, hlow, .inr ⟨x8, hx9, cmpK_nneg h14⟩⟩ (by (try dsimp only); omega)
    · skip
      refine c_exit ?_
      refine q_thenE ?_
      refine q_thenE ?_
      refine q_blockE ?_
      refine q_then ?_
      refine c_env [(0, .slice A1 xs.length c2), (1, .int .i64 ((a : Nat) : Int)), (2, .int .i64 ((m : Nat) : Int)), (3, .int .i64 ((b : Nat) : Int)), (4, .func (.func 38) #[] #[]), (10, .int .i64 ((i : Nat) : Int))] ⟨rfl, rfl, rfl, rfl, rfl, rfl, trivial⟩ ?_
      refine c_seq ?_
      refine c_seq ?_
      refine c_reg ?_
      refine s_val rfl rfl (r_mv rfl rfl) ?_
      refine s_val rfl rfl (r_as rfl rfl) ?_
      refine s_nil ?_
      refine q_then ?_
      refine c_env [(0, .slice A1 xs.length c2), (1, .int .i64 ((a : Nat) : Int)), (2, .int .i64 ((m : Nat) : Int)), (3, .int .i64 ((b : Nat) : Int)), (4, .func (.func 38) #[] #[]), (10, .int .i64 ((i : Nat) : Int)), (13, .int .i64 ((a : Nat) : Int))] ⟨rfl, rfl, rfl, rfl, rfl, rfl, rfl, trivial⟩ ?_
      refine c_block ?_
      refine c_loop (σ := Nat × List Pair) (fun (k, ys) => [(0, .slice A1 xs.length c2), (1, .int .i64 ((a : Nat) : Int)), (2, .int .i64 ((m : Nat) : Int)), (3, .int .i64 ((b : Nat) : Int)), (4, .func (.func 38) #[] #[]), (10, .int .i64 ((i : Nat) : Int)), (13, .int .i64 ((k : Nat) : Int))]) (fun (k, ys) w => (Hd w0 F0 w [osl kPair (.slice A1 xs.length c2) ys] []) ∧ (a ≤ k ∧ k + 1 ≤ i) ∧ (Via xs ys (rotI a m (k + 1)))) (fun (k, ys) => i - k) (a, xs) ⟨rfl, rfl, rfl, rfl, rfl, rfl, rfl, trivial⟩ ⟨H, by (try dsimp only); omega, by rw [hm]; exact via_one xs a⟩ ?_
      rintro ⟨k, ys⟩ w ⟨H, hk, hv⟩
      have hl := hv.1
      refine c_seq ?_
      refine c_seq ?_
      refine c_reg ?_
      refine s_val rfl rfl (r_mv rfl rfl) ?_
      refine s_val rfl rfl (r_mv rfl rfl) ?_
      refine s_val rfl rfl (r_sub (z := ((i - 1 : Nat) : Int)) rfl rfl rfl (by rw [w64 (by omega) (by omega)]; omega)) ?_
      refine s_val rfl rfl (r_lt rfl rfl rfl) ?_
      refine s_nil ?_
      refine q_then ?_
      refine c_env [(0, .slice A1 xs.length c2), (1, .int .i64 ((a : Nat) : Int)), (2, .int .i64 ((m : Nat) : Int)), (3, .int .i64 ((b : Nat) : Int)), (4, .func (.func 38) #[] #[]), (10, .int .i64 ((i : Nat) : Int)), (13, .int .i64 ((k : Nat) : Int)), (58, .bool (decide (((k : Nat) : Int) < ((i - 1 : Nat) : Int))))] ⟨rfl, rfl, rfl, rfl, rfl, rfl, rfl, rfl, trivial⟩ ?_
      refine c_dec (p := ((k : Nat) : Int) < ((i - 1 : Nat) : Int)) rfl (fun h15 => ?_) (fun h15 => ?_)
      · skip
        refine c_skip ?_
        refine q_then ?_
        refine c_env [(0, .slice A1 xs.length c2), (1, .int .i64 ((a : Nat) : Int)), (2, .int .i64 ((m : Nat) : Int)), (3, .int .i64 ((b : Nat) : Int)), (4, .func (.func 38) #[] #[]), (10, .int .i64 ((i : Nat) : Int)), (13, .int .i64 ((k : Nat) : Int))] ⟨rfl, rfl, rfl, rfl, rfl, rfl, rfl, trivial⟩ ?_
        refine c_seq ?_
        refine c_block ?_
        refine c_ord (.e 0 (.e 1 (.e 2 (.e 3 (.e 4 (.e 5 (.e 6 (.e 7 (.e 8 (.e 10 (.e 11 (.e 12 (.p 9 13 (.e 14 (.m 15 (.e 16 (.m 17 .z))))))))))))))))) (fun w => ∃ Ar, Hd w0 F0 w (Ar) []) mo (by kernel_rfl) (fun w H => ⟨_, H⟩) H (fun w H => ?_)
        refine d_val rfl rfl rfl (fun w ⟨Ar, H⟩ => r_mv rfl rfl) ?_
        refine d_val rfl rfl rfl (fun w ⟨Ar, H⟩ => r_mv rfl rfl) ?_
        refine d_val rfl rfl rfl (fun w ⟨Ar, H⟩ => r_mv rfl rfl) ?_
        refine d_val rfl rfl rfl (fun w ⟨Ar, H⟩ => r_mv rfl rfl) ?_
        refine d_val rfl rfl rfl (fun w ⟨Ar, H⟩ => r_add (z := ((k + 1 : Nat) : Int)) rfl rfl rfl (by rw [w64 (by omega) (by omega)]; omega)) ?_
        refine d_val rfl rfl rfl (fun w ⟨Ar, H⟩ => r_mv rfl rfl) ?_
        refine d_val rfl rfl rfl (fun w ⟨Ar, H⟩ => r_mv rfl rfl) ?_
        refine d_val rfl rfl rfl (fun w ⟨Ar, H⟩ => r_add (z := ((k + 1 : Nat) : Int)) rfl rfl rfl (by rw [w64 (by omega) (by omega)]; omega)) ?_
        obtain ⟨x16, hx17⟩ : ∃ z9, ys[k + 1]? = some z9 := ⟨_, List.getElem?_eq_getElem (show k + 1 < ys.length by omega)⟩
        have th18 := H.thA 0 rfl hx17
        refine d_val rfl rfl rfl (fun w ⟨Ar, H⟩ => r_iaE (p := oOf A1 + (k + 1) * 2) rfl sl23 rfl rfl (by omega) (by omega) th18 rfl) ?_
        refine d_val rfl rfl rfl (fun w ⟨Ar, H⟩ => r_mv rfl rfl) ?_
        refine d_val rfl rfl rfl (fun w ⟨Ar, H⟩ => r_mv rfl rfl) ?_
        obtain ⟨x19, hx20⟩ : ∃ z9, ys[k]? = some z9 := ⟨_, List.getElem?_eq_getElem (show k < ys.length by omega)⟩
        have th21 := H.thA 0 rfl hx20
        refine d_val rfl rfl rfl (fun w ⟨Ar, H⟩ => r_iaE (p := oOf A1 + k * 2) rfl sl23 rfl rfl (by omega) (by omega) th21 rfl) ?_
        refine d_pair rfl rfl rfl rfl rfl rfl rfl rfl (by decide) (r_ldA (cs := [.string x16.key, .string x16.val]) rfl ty56 rfl rfl (H.elsA 0 rfl hx17 rfl)) (r_ldA (cs := [.string x19.key, .string x19.val]) rfl ty56 rfl rfl (H.elsA 0 rfl hx20 rfl)) ?_
        have th22 := H.thA 0 rfl hx20
        refine d_val rfl rfl rfl (fun w ⟨Ar, H⟩ => r_iaE (p := oOf A1 + k * 2) rfl sl23 rfl rfl (by omega) (by omega) th22 rfl) ?_
        refine d_main rfl ?_
        refine s_stO (i := k) (a := x16) rfl rfl rfl ty56 rfl rfl rfl H (by omega) rfl (fun w H => ?_)
        replace H : Hd _ _ _ [osl kPair (.slice A1 xs.length c2) (ys.set k x16)] [] := H
        refine d_back ⟨_, H⟩ ?_
        obtain ⟨x23, hx24⟩ : ∃ z9, (ys.set k x16)[k + 1]? = some z9 := ⟨_, List.getElem?_eq_getElem (show k + 1 < (ys.set k x16).length by simp only [List.length_set]; omega)⟩
        have th25 := H.thA 0 rfl hx24
        refine d_val rfl rfl rfl (fun w ⟨Ar, H⟩ => r_iaE (p := oOf A1 + (k + 1) * 2) rfl sl23 rfl rfl (by omega) (by omega) th25 rfl) ?_
        refine d_main rfl ?_
        refine s_stO (i := k + 1) (a := x19) rfl rfl rfl ty56 rfl rfl rfl H (by simp only [List.length_set]; omega) rfl (fun w H => ?_)
        replace H : Hd _ _ _ [osl kPair (.slice A1 xs.length c2) ((ys.set k x16).set (k + 1) x19)] [] := H
        refine d_back ⟨_, H⟩ ?_
        refine d_nil ?_
        refine q_blockN ?_
        refine q_then ?_
        refine c_env [(0, .slice A1 xs.length c2), (1, .int .i64 ((a : Nat) : Int)), (2, .int .i64 ((m : Nat) : Int)), (3, .int .i64 ((b : Nat) : Int)), (4, .func (.func 38) #[] #[]), (10, .int .i64 ((i : Nat) : Int)), (13, .int .i64 ((k : Nat) : Int))] ⟨rfl, rfl, rfl, rfl, rfl, rfl, rfl, trivial⟩ ?_
        refine c_reg ?_
        refine s_val rfl rfl (r_mv rfl rfl) ?_
        refine s_val rfl rfl (r_add (z := ((k + 1 : Nat) : Int)) rfl rfl rfl (by rw [w64 (by omega) (by omega)]; omega)) ?_
        refine s_val rfl rfl (r_as rfl rfl) ?_
        refine s_nil ?_
        exact q_round (s := (k, ys)) (k + 1, (ys.set k x16).set (k + 1) x19) ⟨rfl, rfl, rfl, rfl, rfl, rfl, rfl, trivial⟩ ⟨H, by (try dsimp only); omega, via_up' hm (by omega) hv hx20 hx17⟩ (by (try dsimp only); omega)
      · skip
        refine c_exit ?_
        refine q_thenE ?_
        refine q_thenE ?_
        refine q_blockE ?_
        refine q_then ?_
        refine c_env [(0, .slice A1 xs.length c2), (1, .int .i64 ((a : Nat) : Int)), (2, .int .i64 ((m : Nat) : Int)), (3, .int .i64 ((b : Nat) : Int)), (4, .func (.func 38) #[] #[])] ⟨rfl, rfl, rfl, rfl, rfl, trivial⟩ ?_
        refine c_ret ?_
        refine q_thenR ?_
        refine q_ret0 rfl ?_
        obtain rfl : j = i := by omega
        obtain rfl : j = k + 1 := by omega
        exact fin ⟨_, rfl, merge_left' hm hv (by omega) (by omega) (by omega) hs2 hx0 hlow hup⟩ H
  · skip
    refine c_skip ?_
    refine q_then ?_
    refine c_env [(0, .slice A1 xs.length c2), (1, .int .i64 ((a : Nat) : Int)), (2, .int .i64 ((m : Nat) : Int)), (3, .int .i64 ((b : Nat) : Int)), (4, .func (.func 38) #[] #[])] ⟨rfl, rfl, rfl, rfl, rfl, trivial⟩ ?_
    refine c_seq ?_
    refine c_seq ?_
    refine c_reg ?_
    refine s_val rfl rfl (r_mv rfl rfl) ?_
    refine s_val rfl rfl (r_mv rfl rfl) ?_
    refine s_val rfl rfl (r_sub (z := ((b - m : Nat) : Int)) rfl rfl rfl (by rw [w64 (by omega) (by omega)]; omega)) ?_
    refine s_val rfl rfl (r_eq rfl rfl rfl) ?_
    refine s_nil ?_
    refine q_then ?_
    refine c_env [(0, .slice A1 xs.length c2), (1, .int .i64 ((a : Nat) : Int)), (2, .int .i64 ((m : Nat) : Int)), (3, .int .i64 ((b : Nat) : Int)), (4, .func (.func 38) #[] #[]), (80, .bool (decide (((b - m : Nat) : Int) = 1)))] ⟨rfl, rfl, rfl, rfl, rfl, rfl, trivial⟩ ?_
    refine c_dec (p := ((b - m : Nat) : Int) = 1) rfl (fun h26 => ?_) (fun h26 => ?_)
    · skip
      refine c_seq ?_
      have hm : b = m + 1 := by omega
      obtain ⟨x0, hx0⟩ : ∃ z9, xs[m]? = some z9 := ⟨_, List.getElem?_eq_getElem (show m < xs.length by omega)⟩
      refine c_reg ?_
      refine s_val rfl rfl (r_mv rfl rfl) ?_
      refine s_val rfl rfl (r_as rfl rfl) ?_
      refine s_nil ?_
      refine q_then ?_
      refine c_env [(0, .slice A1 xs.length c2), (1, .int .i64 ((a : Nat) : Int)), (2, .int .i64 ((m : Nat) : Int)), (3, .int .i64 ((b : Nat) : Int)), (4, .func (.func 38) #[] #[]), (14, .int .i64 ((a : Nat) : Int))] ⟨rfl, rfl, rfl, rfl, rfl, rfl, trivial⟩ ?_
      refine c_seq ?_
      refine c_reg ?_
      refine s_val rfl rfl (r_mv rfl rfl) ?_
      refine s_val rfl rfl (r_as rfl rfl) ?_
      refine s_nil ?_
      refine q_then ?_
      refine c_env [(0, .slice A1 xs.length c2), (1, .int .i64 ((a : Nat) : Int)), (2, .int .i64 ((m : Nat) : Int)), (3, .int .i64 ((b : Nat) : Int)), (4, .func (.func 38) #[] #[]), (14, .int .i64 ((a : Nat) : Int)), (15, .int .i64 ((m : Nat) : Int))] ⟨rfl, rfl, rfl, rfl, rfl, rfl, rfl, trivial⟩ ?_
      refine c_seq ?_
      refine c_block ?_
      refine c_loop (σ := Nat × Nat) (fun (i, j) => [(0, .slice A1 xs.length c2), (1, .int .i64 ((a : Nat) : Int)), (2, .int .i64 ((m : Nat) : Int)), (3, .int .i64 ((b : Nat) : Int)), (4, .func (.func 38) #[] #[]), (14, .int .i64 ((i : Nat) : Int)), (15, .int .i64 ((j : Nat) : Int))]) (fun (i, j) w => (Hd w0 F0 w [osl kPair (.slice A1 xs.length c2) xs] []) ∧ (a ≤ i ∧ i ≤ j ∧ j ≤ m) ∧ (i = a ∨ ∃ u, xs[i - 1]? = some u ∧ ltS x0.key u.key = false) ∧ (j = m ∨ ∃ u, xs[j]? = some u ∧ ltS x0.key u.key = true)) (fun (i, j) => j - i) (a, m) ⟨rfl, rfl, rfl, rfl, rfl, rfl, rfl, trivial⟩ ⟨H, by (try dsimp only); omega, .inl rfl, .inl rfl⟩ ?_
      rintro ⟨i, j⟩ w ⟨H, hij, hlow, hup⟩
      refine c_seq ?_
      refine c_seq ?_
      refine c_reg ?_
      refine s_val rfl rfl (r_mv rfl rfl) ?_
      refine s_val rfl rfl (r_mv rfl rfl) ?_
      refine s_val rfl rfl (r_lt rfl rfl rfl) ?_
      refine s_nil ?_
      refine q_then ?_
      refine c_env [(0, .slice A1 xs.length c2), (1, .int .i64 ((a : Nat) : Int)), (2, .int .i64 ((m : Nat) : Int)), (3, .int .i64 ((b : Nat) : Int)), (4, .func (.func 38) #[] #[]), (14, .int .i64 ((i : Nat) : Int)), (15, .int .i64 ((j : Nat) : Int)), (85, .bool (decide (((i : Nat) : Int) < ((j : Nat) : Int))))] ⟨rfl, rfl, rfl, rfl, rfl, rfl, rfl, rfl, trivial⟩ ?_
      refine c_dec (p := ((i : Nat) : Int) < ((j : Nat) : Int)) rfl (fun h27 => ?_) (fun h27 => ?_)
      · skip
        refine c_skip ?_
        refine q_then ?_
        refine c_env [(0, .slice A1 xs.length c2), (1, .int .i64 ((a : Nat) : Int)), (2, .int .i64 ((m : Nat) : Int)), (3, .int .i64 ((b : Nat) : Int)), (4, .func (.func 38) #[] #[]), (14, .int .i64 ((i : Nat) : Int)), (15, .int .i64 ((j : Nat) : Int))] ⟨rfl, rfl, rfl, rfl, rfl, rfl, rfl, trivial⟩ ?_
        refine c_block ?_
        refine c_seq ?_
        refine c_reg ?_
        refine s_val rfl rfl (r_mv rfl rfl) ?_
        refine s_val rfl rfl (r_mv rfl rfl) ?_
        refine s_val rfl rfl (r_add (z := ((i + j : Nat) : Int)) rfl rfl rfl (by rw [w64 (by omega) (by omega)]; omega)) ?_
        refine s_val rfl rfl (r_i2i (z := ((i + j : Nat) : Int)) rfl rfl un3 un72 (wu64 (by omega) (by omega))) ?_
        refine s_val rfl rfl (r_shr (z := (((i + j) / 2 : Nat) : Int)) rfl rfl rfl (by omega) (half_u64 _)) ?_
        refine s_val rfl rfl (r_i2i (z := (((i + j) / 2 : Nat) : Int)) rfl rfl un72 un3 (w64 (by omega) (by omega))) ?_
        refine s_val rfl rfl (r_as rfl rfl) ?_
        refine s_nil ?_
        refine q_then ?_
        refine c_env [(0, .slice A1 xs.length c2), (1, .int .i64 ((a : Nat) : Int)), (2, .int .i64 ((m : Nat) : Int)), (3, .int .i64 ((b : Nat) : Int)), (4, .func (.func 38) #[] #[]), (14, .int .i64 ((i : Nat) : Int)), (15, .int .i64 ((j : Nat) : Int)), (16, .int .i64 (((i + j) / 2 : Nat) : Int))] ⟨rfl, rfl, rfl, rfl, rfl, rfl, rfl, rfl, trivial⟩ ?_
        refine c_seq ?_
        refine c_ord (.e 0 (.e 1 (.e 2 (.e 3 (.e 4 (.e 5 (.e 6 (.e 7 (.e 8 (.m 9 (.e 10 (.e 11 .z)))))))))))) (fun w => ∃ Ar, Hd w0 F0 w (osl kPair (.slice A1 xs.length c2) xs :: Ar) []) mo (by kernel_rfl) (fun w H => ⟨_, H⟩) H (fun w H => ?_)
        refine d_val rfl rfl rfl (fun w ⟨Ar, H⟩ => r_mv rfl rfl) ?_
        refine d_val rfl rfl rfl (fun w ⟨Ar, H⟩ => r_mv rfl rfl) ?_
        refine d_val rfl rfl rfl (fun w ⟨Ar, H⟩ => r_mv rfl rfl) ?_
        obtain ⟨x28, hx29⟩ : ∃ z9, xs[m]? = some z9 := ⟨_, List.getElem?_eq_getElem (show m < xs.length by omega)⟩
        have th30 := H.thA 0 rfl hx29
        refine d_val rfl rfl rfl (fun w ⟨Ar, H⟩ => r_iaE (p := oOf A1 + m * 2) rfl sl23 rfl rfl (by omega) (by omega) th30 rfl) ?_
        refine d_val rfl rfl rfl (fun w ⟨Ar, H⟩ => r_ldA (cs := [.string x28.key, .string x28.val]) rfl ty56 rfl rfl (H.elsA 0 rfl hx29 rfl)) ?_
        refine d_val rfl rfl rfl (fun w ⟨Ar, H⟩ => r_mv rfl rfl) ?_
        refine d_val rfl rfl rfl (fun w ⟨Ar, H⟩ => r_mv rfl rfl) ?_
        obtain ⟨x31, hx32⟩ : ∃ z9, xs[(i + j) / 2]? = some z9 := ⟨_, List.getElem?_eq_getElem (show (i + j) / 2 < xs.length by omega)⟩
        have th33 := H.thA 0 rfl hx32
        refine d_val rfl rfl rfl (fun w ⟨Ar, H⟩ => r_iaE (p := oOf A1 + ((i + j) / 2) * 2) rfl sl23 rfl rfl (by omega) (by omega) th33 rfl) ?_
        refine d_val rfl rfl rfl (fun w ⟨Ar, H⟩ => r_ldA (cs := [.string x31.key, .string x31.val]) rfl ty56 rfl rfl (H.elsA 0 rfl hx32 rfl)) ?_
        refine d_main rfl ?_
        refine sc (order_ok x28 x31) H l0 rfl rfl (e_val (vs := [.agg #[.string x28.key, .string x28.val], .agg #[.string x31.key, .string x31.val]]) (fs := #[]) (cs := #[]) kn38 rfl rfl rfl) ?_
        rintro _ _ w ⟨rfl, rfl⟩ H
        refine d_back ⟨_, H⟩ ?_
        refine d_val rfl rfl rfl (fun w ⟨Ar, H⟩ => r_lt rfl rfl rfl) ?_
        refine d_val rfl rfl rfl (fun w ⟨Ar, H⟩ => r_notP rfl rfl) ?_
        refine d_nil ?_
        refine q_then ?_
        refine c_env [(0, .slice A1 xs.length c2), (1, .int .i64 ((a : Nat) : Int)), (2, .int .i64 ((m : Nat) : Int)), (3, .int .i64 ((b : Nat) : Int)), (4, .func (.func 38) #[] #[]), (14, .int .i64 ((i : Nat) : Int)), (15, .int .i64 ((j : Nat) : Int)), (16, .int .i64 (((i + j) / 2 : Nat) : Int)), (103, .bool (decide (¬ ((cmpK x28.key x31.key) < 0))))] ⟨rfl, rfl, rfl, rfl, rfl, rfl, rfl, rfl, rfl, trivial⟩ ?_
        refine c_dec (p := ¬ ((cmpK x28.key x31.key) < 0)) rfl (fun h34 => ?_) (fun h34 => ?_)
        · skip
          obtain rfl : x28 = x0 := Option.some.inj (hx29.symm.trans hx0)
          refine c_reg ?_
          refine s_val rfl rfl (r_mv rfl rfl) ?_
          refine s_val rfl rfl (r_add (z := (((i + j) / 2 + 1 : Nat) : Int)) rfl rfl rfl (by rw [w64 (by omega) (by omega)]; omega)) ?_
          refine s_val rfl rfl (r_as rfl rfl) ?_
          refine s_nil ?_
          refine q_blockN ?_
          exact q_round (s := (i, j)) ((i + j) / 2 + 1, j) ⟨rfl, rfl, rfl, rfl, rfl, rfl, rfl, trivial⟩ ⟨H, by (try dsimp only); omega, .inr ⟨x31, by rw [Nat.add_sub_cancel]; exact hx32, cmpK_nneg h34⟩, hup⟩ (by (try dsimp only); omega)
        · skip
          obtain rfl : x28 = x0 := Option.some.inj (hx29.symm.trans hx0)
          refine c_reg ?_
          refine s_val rfl rfl (r_mv rfl rfl) ?_
          refine s_val rfl rfl (r_as rfl rfl) ?_
          refine s_nil ?_
          refine q_blockN ?_
          exact q_round (s := (i, j)) (i, (i + j) / 2) ⟨rfl, rfl, rfl, rfl, rfl, rfl, rfl, trivial⟩ ⟨H, by (try dsimp only); omega, hlow, .inr ⟨x31, hx32, cmpK_neg.1 (Classical.not_not.1 h34)⟩⟩ (by (try dsimp only); omega)
      · skip
        refine c_exit ?_
        refine q_thenE ?_
        refine q_thenE ?_
        refine q_blockE ?_
        refine q_then ?_
        refine c_env [(0, .slice A1 xs.length c2), (1, .int .i64 ((a : Nat) : Int)), (2, .int .i64 ((m : Nat) : Int)), (3, .int .i64 ((b : Nat) : Int)), (4, .func (.func 38) #[] #[]), (14, .int .i64 ((i : Nat) : Int))] ⟨rfl, rfl, rfl, rfl, rfl, rfl, trivial⟩ ?_
        refine c_seq ?_
        refine c_seq ?_
        refine c_reg ?_
        refine s_val rfl rfl (r_mv rfl rfl) ?_
        refine s_val rfl rfl (r_as rfl rfl) ?_
        refine s_nil ?_
        refine q_then ?_
        refine c_env [(0, .slice A1 xs.length c2), (1, .int .i64 ((a : Nat) : Int)), (2, .int .i64 ((m : Nat) : Int)), (3, .int .i64 ((b : Nat) : Int)), (4, .func (.func 38) #[] #[]), (14, .int .i64 ((i : Nat) : Int)), (17, .int .i64 ((m : Nat) : Int))] ⟨rfl, rfl, rfl, rfl, rfl, rfl, rfl, trivial⟩ ?_
        refine c_block ?_
        refine c_loop (σ := Nat × List Pair) (fun (k, ys) => [(0, .slice A1 xs.length c2), (1, .int .i64 ((a : Nat) : Int)), (2, .int .i64 ((m : Nat) : Int)), (3, .int .i64 ((b : Nat) : Int)), (4, .func (.func 38) #[] #[]), (14, .int .i64 ((i : Nat) : Int)), (17, .int .i64 ((k : Nat) : Int))]) (fun (k, ys) w => (Hd w0 F0 w [osl kPair (.slice A1 xs.length c2) ys] []) ∧ (i ≤ k ∧ k ≤ m) ∧ (Via xs ys (rotI k m b))) (fun (k, ys) => k) (m, xs) ⟨rfl, rfl, rfl, rfl, rfl, rfl, rfl, trivial⟩ ⟨H, by (try dsimp only); omega, by rw [hm]; exact via_one' xs m⟩ ?_
        rintro ⟨k, ys⟩ w ⟨H, hk, hv⟩
        have hl := hv.1
        refine c_seq ?_
        refine c_seq ?_
        refine c_reg ?_
        refine s_val rfl rfl (r_mv rfl rfl) ?_
        refine s_val rfl rfl (r_mv rfl rfl) ?_
        refine s_val rfl rfl (r_gt rfl rfl rfl) ?_
        refine s_nil ?_
        refine q_then ?_
        refine c_env [(0, .slice A1 xs.length c2), (1, .int .i64 ((a : Nat) : Int)), (2, .int .i64 ((m : Nat) : Int)), (3, .int .i64 ((b : Nat) : Int)), (4, .func (.func 38) #[] #[]), (14, .int .i64 ((i : Nat) : Int)), (17, .int .i64 ((k : Nat) : Int)), (110, .bool (decide (((i : Nat) : Int) < ((k : Nat) : Int))))] ⟨rfl, rfl, rfl, rfl, rfl, rfl, rfl, rfl, trivial⟩ ?_
        refine c_dec (p := ((i : Nat) : Int) < ((k : Nat) : Int)) rfl (fun h35 => ?_) (fun h35 => ?_)
        · skip
          refine c_skip ?_
          refine q_then ?_
          refine c_env [(0, .slice A1 xs.length c2), (1, .int .i64 ((a : Nat) : Int)), (2, .int .i64 ((m : Nat) : Int)), (3, .int .i64 ((b : Nat) : Int)), (4, .func (.func 38) #[] #[]), (14, .int .i64 ((i : Nat) : Int)), (17, .int .i64 ((k : Nat) : Int))] ⟨rfl, rfl, rfl, rfl, rfl, rfl, rfl, trivial⟩ ?_
          refine c_seq ?_
          refine c_block ?_
          refine c_ord (.e 0 (.e 1 (.e 2 (.e 3 (.e 4 (.e 5 (.e 6 (.e 7 (.e 8 (.e 10 (.e 11 (.e 12 (.p 9 13 (.e 14 (.m 15 (.e 16 (.m 17 .z))))))))))))))))) (fun w => ∃ Ar, Hd w0 F0 w (Ar) []) mo (by kernel_rfl) (fun w H => ⟨_, H⟩) H (fun w H => ?_)
          refine d_val rfl rfl rfl (fun w ⟨Ar, H⟩ => r_mv rfl rfl) ?_
          refine d_val rfl rfl rfl (fun w ⟨Ar, H⟩ => r_mv rfl rfl) ?_
          refine d_val rfl rfl rfl (fun w ⟨Ar, H⟩ => r_mv rfl rfl) ?_
          refine d_val rfl rfl rfl (fun w ⟨Ar, H⟩ => r_mv rfl rfl) ?_
          refine d_val rfl rfl rfl (fun w ⟨Ar, H⟩ => r_sub (z := ((k - 1 : Nat) : Int)) rfl rfl rfl (by rw [w64 (by omega) (by omega)]; omega)) ?_
          refine d_val rfl rfl rfl (fun w ⟨Ar, H⟩ => r_mv rfl rfl) ?_
          refine d_val rfl rfl rfl (fun w ⟨Ar, H⟩ => r_mv rfl rfl) ?_
          refine d_val rfl rfl rfl (fun w ⟨Ar, H⟩ => r_sub (z := ((k - 1 : Nat) : Int)) rfl rfl rfl (by rw [w64 (by omega) (by omega)]; omega)) ?_
          obtain ⟨x36, hx37⟩ : ∃ z9, ys[k - 1]? = some z9 := ⟨_, List.getElem?_eq_getElem (show k - 1 < ys.length by omega)⟩
          have th38 := H.thA 0 rfl hx37
          refine d_val rfl rfl rfl (fun w ⟨Ar, H⟩ => r_iaE (p := oOf A1 + (k - 1) * 2) rfl sl23 rfl rfl (by omega) (by omega) th38 rfl) ?_
          refine d_val rfl rfl rfl (fun w ⟨Ar, H⟩ => r_mv rfl rfl) ?_
          refine d_val rfl rfl rfl (fun w ⟨Ar, H⟩ => r_mv rfl rfl) ?_
          obtain ⟨x39, hx40⟩ : ∃ z9, ys[k]? = some z9 := ⟨_, List.getElem?_eq_getElem (show k < ys.length by omega)⟩
          have th41 := H.thA 0 rfl hx40
          refine d_val rfl rfl rfl (fun w ⟨Ar, H⟩ => r_iaE (p := oOf A1 + k * 2) rfl sl23 rfl rfl (by omega) (by omega) th41 rfl) ?_
          refine d_pair rfl rfl rfl rfl rfl rfl rfl rfl (by decide) (r_ldA (cs := [.string x36.key, .string x36.val]) rfl ty56 rfl rfl (H.elsA 0 rfl hx37 rfl)) (r_ldA (cs := [.string x39.key, .string x39.val]) rfl ty56 rfl rfl (H.elsA 0 rfl hx40 rfl)) ?_
          have th42 := H.thA 0 rfl hx40
          refine d_val rfl rfl rfl (fun w ⟨Ar, H⟩ => r_iaE (p := oOf A1 + k * 2) rfl sl23 rfl rfl (by omega) (by omega) th42 rfl) ?_
          refine d_main rfl ?_
          refine s_stO (i := k) (a := x36) rfl rfl rfl ty56 rfl rfl rfl H (by omega) rfl (fun w H => ?_)
          replace H : Hd _ _ _ [osl kPair (.slice A1 xs.length c2) (ys.set k x36)] [] := H
          refine d_back ⟨_, H⟩ ?_
          obtain ⟨x43, hx44⟩ : ∃ z9, (ys.set k x36)[k - 1]? = some z9 := ⟨_, List.getElem?_eq_getElem (show k - 1 < (ys.set k x36).length by simp only [List.length_set]; omega)⟩
          have th45 := H.thA 0 rfl hx44
          refine d_val rfl rfl rfl (fun w ⟨Ar, H⟩ => r_iaE (p := oOf A1 + (k - 1) * 2) rfl sl23 rfl rfl (by omega) (by omega) th45 rfl) ?_
          refine d_main rfl ?_
          refine s_stO (i := k - 1) (a := x39) rfl rfl rfl ty56 rfl rfl rfl H (by simp only [List.length_set]; omega) rfl (fun w H => ?_)
          replace H : Hd _ _ _ [osl kPair (.slice A1 xs.length c2) ((ys.set k x36).set (k - 1) x39)] [] := H
          refine d_back ⟨_, H⟩ ?_
          refine d_nil ?_
          refine q_blockN ?_
          refine q_then ?_
          refine c_env [(0, .slice A1 xs.length c2), (1, .int .i64 ((a : Nat) : Int)), (2, .int .i64 ((m : Nat) : Int)), (3, .int .i64 ((b : Nat) : Int)), (4, .func (.func 38) #[] #[]), (14, .int .i64 ((i : Nat) : Int)), (17, .int .i64 ((k : Nat) : Int))] ⟨rfl, rfl, rfl, rfl, rfl, rfl, rfl, trivial⟩ ?_
          refine c_reg ?_
          refine s_val rfl rfl (r_mv rfl rfl) ?_
          refine s_val rfl rfl (r_sub (z := ((k - 1 : Nat) : Int)) rfl rfl rfl (by rw [w64 (by omega) (by omega)]; omega)) ?_
          refine s_val rfl rfl (r_as rfl rfl) ?_
          refine s_nil ?_
          exact q_round (s := (k, ys)) (k - 1, (ys.set k x36).set (k - 1) x39) ⟨rfl, rfl, rfl, rfl, rfl, rfl, rfl, trivial⟩ ⟨H, by (try dsimp only); omega, via_down' hm (by omega) (by omega) hv hx40 hx37⟩ (by (try dsimp only); omega)
        · skip
          refine c_exit ?_
          refine q_thenE ?_
          refine q_thenE ?_
          refine q_blockE ?_
          refine q_then ?_
          refine c_env [(0, .slice A1 xs.length c2), (1, .int .i64 ((a : Nat) : Int)), (2, .int .i64 ((m : Nat) : Int)), (3, .int .i64 ((b : Nat) : Int)), (4, .func (.func 38) #[] #[])] ⟨rfl, rfl, rfl, rfl, rfl, trivial⟩ ?_
          refine c_ret ?_
          refine q_thenR ?_
          refine q_ret0 rfl ?_
          obtain rfl : j = i := by omega
          obtain rfl : j = k := by omega
          exact fin ⟨_, rfl, merge_right' hm hv (by omega) (by omega) (by omega) hs1 hx0 hlow hup⟩ H
    · skip
      refine c_skip ?_
      refine q_then ?_
      refine c_env [(0, .slice A1 xs.length c2), (1, .int .i64 ((a : Nat) : Int)), (2, .int .i64 ((m : Nat) : Int)), (3, .int .i64 ((b : Nat) : Int)), (4, .func (.func 38) #[] #[])] ⟨rfl, rfl, rfl, rfl, rfl, trivial⟩ ?_
      refine c_seq ?_
      refine c_reg ?_
      refine s_val rfl rfl (r_mv rfl rfl) ?_
      refine s_val rfl rfl (r_mv rfl rfl) ?_
      refine s_val rfl rfl (r_add (z := ((a + b : Nat) : Int)) rfl rfl rfl (by rw [w64 (by omega) (by omega)]; omega)) ?_
      refine s_val rfl rfl (r_i2i (z := ((a + b : Nat) : Int)) rfl rfl un3 un72 (wu64 (by omega) (by omega))) ?_
      refine s_val rfl rfl (r_shr (z := (((a + b) / 2 : Nat) : Int)) rfl rfl rfl (by omega) (half_u64 _)) ?_
      refine s_val rfl rfl (r_i2i (z := (((a + b) / 2 : Nat) : Int)) rfl rfl un72 un3 (w64 (by omega) (by omega))) ?_
      refine s_val rfl rfl (r_as rfl rfl) ?_
      refine s_nil ?_
      refine q_then ?_
      refine c_env [(0, .slice A1 xs.length c2), (1, .int .i64 ((a : Nat) : Int)), (2, .int .i64 ((m : Nat) : Int)), (3, .int .i64 ((b : Nat) : Int)), (4, .func (.func 38) #[] #[]), (18, .int .i64 (((a + b) / 2 : Nat) : Int))] ⟨rfl, rfl, rfl, rfl, rfl, rfl, trivial⟩ ?_
      refine c_seq ?_
      generalize hmd : (a + b) / 2 = md
      refine c_reg ?_
      refine s_val rfl rfl (r_mv rfl rfl) ?_
      refine s_val rfl rfl (r_mv rfl rfl) ?_
      refine s_val rfl rfl (r_add (z := ((md + m : Nat) : Int)) rfl rfl rfl (by rw [w64 (by omega) (by omega)]; omega)) ?_
      refine s_val rfl rfl (r_as rfl rfl) ?_
      refine s_nil ?_
      refine q_then ?_
      refine c_env [(0, .slice A1 xs.length c2), (1, .int .i64 ((a : Nat) : Int)), (2, .int .i64 ((m : Nat) : Int)), (3, .int .i64 ((b : Nat) : Int)), (4, .func (.func 38) #[] #[]), (18, .int .i64 ((md : Nat) : Int)), (19, .int .i64 ((md + m : Nat) : Int))] ⟨rfl, rfl, rfl, rfl, rfl, rfl, rfl, trivial⟩ ?_
      refine c_seq ?_
      refine c_reg ?_
      refine s_val rfl rfl (r_as rfl rfl) ?_
      refine s_val rfl rfl (r_as rfl rfl) ?_
      refine s_nil ?_
      refine q_then ?_
      refine c_env [(0, .slice A1 xs.length c2), (1, .int .i64 ((a : Nat) : Int)), (2, .int .i64 ((m : Nat) : Int)), (3, .int .i64 ((b : Nat) : Int)), (4, .func (.func 38) #[] #[]), (18, .int .i64 ((md : Nat) : Int)), (19, .int .i64 ((md + m : Nat) : Int)), (20, .int .i64 0), (21, .int .i64 0)] ⟨rfl, rfl, rfl, rfl, rfl, rfl, rfl, rfl, rfl, trivial⟩ ?_
      refine c_seq ?_
      refine c_seq ?_
      refine c_reg ?_
      refine s_val rfl rfl (r_mv rfl rfl) ?_
      refine s_val rfl rfl (r_mv rfl rfl) ?_
      refine s_val rfl rfl (r_gt rfl rfl rfl) ?_
      refine s_nil ?_
      refine q_then ?_
      refine c_env [(0, .slice A1 xs.length c2), (1, .int .i64 ((a : Nat) : Int)), (2, .int .i64 ((m : Nat) : Int)), (3, .int .i64 ((b : Nat) : Int)), (4, .func (.func 38) #[] #[]), (18, .int .i64 ((md : Nat) : Int)), (19, .int .i64 ((md + m : Nat) : Int)), (20, .int .i64 0), (21, .int .i64 0), (140, .bool (decide (((md : Nat) : Int) < ((m : Nat) : Int))))] ⟨rfl, rfl, rfl, rfl, rfl, rfl, rfl, rfl, rfl, rfl, trivial⟩ ?_
      refine c_dec (p := ((md : Nat) : Int) < ((m : Nat) : Int)) rfl (fun h46 => ?_) (fun h46 => ?_)
      · skip
        refine c_seq ?_
        refine c_reg ?_
        refine s_val rfl rfl (r_mv rfl rfl) ?_
        refine s_val rfl rfl (r_mv rfl rfl) ?_
        refine s_val rfl rfl (r_sub (z := ((md + m - b : Nat) : Int)) rfl rfl rfl (by rw [w64 (by omega) (by omega)]; omega)) ?_
        refine s_val rfl rfl (r_as rfl rfl) ?_
        refine s_nil ?_
        refine q_then ?_
        refine c_env [(0, .slice A1 xs.length c2), (1, .int .i64 ((a : Nat) : Int)), (2, .int .i64 ((m : Nat) : Int)), (3, .int .i64 ((b : Nat) : Int)), (4, .func (.func 38) #[] #[]), (18, .int .i64 ((md : Nat) : Int)), (19, .int .i64 ((md + m : Nat) : Int)), (20, .int .i64 ((md + m - b : Nat) : Int)), (21, .int .i64 0)] ⟨rfl, rfl, rfl, rfl, rfl, rfl, rfl, rfl, rfl, trivial⟩ ?_
        refine c_reg ?_
        refine s_val rfl rfl (r_mv rfl rfl) ?_
        refine s_val rfl rfl (r_as rfl rfl) ?_
        refine s_nil ?_
        refine q_then ?_
        refine c_env [(0, .slice A1 xs.length c2), (1, .int .i64 ((a : Nat) : Int)), (2, .int .i64 ((m : Nat) : Int)), (3, .int .i64 ((b : Nat) : Int)), (4, .func (.func 38) #[] #[]), (18, .int .i64 ((md : Nat) : Int)), (19, .int .i64 ((md + m : Nat) : Int)), (20, .int .i64 ((md + m - b : Nat) : Int)), (21, .int .i64 ((md : Nat) : Int))] ⟨rfl, rfl, rfl, rfl, rfl, rfl, rfl, rfl, rfl, trivial⟩ ?_
        refine c_seq ?_
        refine c_reg ?_
        refine s_val rfl rfl (r_mv rfl rfl) ?_
        refine s_val rfl rfl (r_sub (z := ((md + m - 1 : Nat) : Int)) rfl rfl rfl (by rw [w64 (by omega) (by omega)]; omega)) ?_
        refine s_val rfl rfl (r_as rfl rfl) ?_
        refine s_nil ?_
        refine q_then ?_
        refine c_env [(0, .slice A1 xs.length c2), (1, .int .i64 ((a : Nat) : Int)), (2, .int .i64 ((m : Nat) : Int)), (3, .int .i64 ((b : Nat) : Int)), (4, .func (.func 38) #[] #[]), (18, .int .i64 ((md : Nat) : Int)), (19, .int .i64 ((md + m : Nat) : Int)), (20, .int .i64 ((md + m - b : Nat) : Int)), (21, .int .i64 ((md : Nat) : Int)), (22, .int .i64 ((md + m - 1 : Nat) : Int))] ⟨rfl, rfl, rfl, rfl, rfl, rfl, rfl, rfl, rfl, rfl, trivial⟩ ?_
        refine c_seq ?_
        refine c_block ?_
        refine c_loop (σ := Nat × Nat) (fun (i, j) => [(0, .slice A1 xs.length c2), (1, .int .i64 ((a : Nat) : Int)), (2, .int .i64 ((m : Nat) : Int)), (3, .int .i64 ((b : Nat) : Int)), (4, .func (.func 38) #[] #[]), (18, .int .i64 ((md : Nat) : Int)), (19, .int .i64 ((md + m : Nat) : Int)), (20, .int .i64 ((i : Nat) : Int)), (21, .int .i64 ((j : Nat) : Int)), (22, .int .i64 ((md + m - 1 : Nat) : Int))]) (fun (i, j) w => (Hd w0 F0 w [osl kPair (.slice A1 xs.length c2) xs] []) ∧ (md + m - b ≤ i ∧ i ≤ j ∧ j ≤ md) ∧ (i = md + m - b ∨ ∃ u v, xs[i - 1]? = some u ∧ xs[md + m - i]? = some v ∧ ltS v.key u.key = false) ∧ (j = md ∨ ∃ u v, xs[md + m - j - 1]? = some u ∧ xs[j]? = some v ∧ ltS u.key v.key = true)) (fun (i, j) => j - i) (md + m - b, md) ⟨rfl, rfl, rfl, rfl, rfl, rfl, rfl, rfl, rfl, rfl, trivial⟩ ⟨H, by (try dsimp only); omega, .inl rfl, .inl rfl⟩ ?_
        rintro ⟨i, j⟩ w ⟨H, hij, hlow, hup⟩
        refine c_seq ?_
        refine c_seq ?_
        refine c_reg ?_
        refine s_val rfl rfl (r_mv rfl rfl) ?_
        refine s_val rfl rfl (r_mv rfl rfl) ?_
        refine s_val rfl rfl (r_lt rfl rfl rfl) ?_
        refine s_nil ?_
        refine q_then ?_
        refine c_env [(0, .slice A1 xs.length c2), (1, .int .i64 ((a : Nat) : Int)), (2, .int .i64 ((m : Nat) : Int)), (3, .int .i64 ((b : Nat) : Int)), (4, .func (.func 38) #[] #[]), (18, .int .i64 ((md : Nat) : Int)), (19, .int .i64 ((md + m : Nat) : Int)), (20, .int .i64 ((i : Nat) : Int)), (21, .int .i64 ((j : Nat) : Int)), (22, .int .i64 ((md + m - 1 : Nat) : Int)), (151, .bool (decide (((i : Nat) : Int) < ((j : Nat) : Int))))] ⟨rfl, rfl, rfl, rfl, rfl, rfl, rfl, rfl, rfl, rfl, rfl, trivial⟩ ?_
        refine c_dec (p := ((i : Nat) : Int) < ((j : Nat) : Int)) rfl (fun h47 => ?_) (fun h47 => ?_)
        · skip
          refine c_skip ?_
          refine q_then ?_
          refine c_env [(0, .slice A1 xs.length c2), (1, .int .i64 ((a : Nat) : Int)), (2, .int .i64 ((m : Nat) : Int)), (3, .int .i64 ((b : Nat) : Int)), (4, .func (.func 38) #[] #[]), (18, .int .i64 ((md : Nat) : Int)), (19, .int .i64 ((md + m : Nat) : Int)), (20, .int .i64 ((i : Nat) : Int)), (21, .int .i64 ((j : Nat) : Int)), (22, .int .i64 ((md + m - 1 : Nat) : Int))] ⟨rfl, rfl, rfl, rfl, rfl, rfl, rfl, rfl, rfl, rfl, trivial⟩ ?_
          refine c_block ?_
          refine c_seq ?_
          refine c_reg ?_
          refine s_val rfl rfl (r_mv rfl rfl) ?_
          refine s_val rfl rfl (r_mv rfl rfl) ?_
          refine s_val rfl rfl (r_add (z := ((i + j : Nat) : Int)) rfl rfl rfl (by rw [w64 (by omega) (by omega)]; omega)) ?_
          refine s_val rfl rfl (r_i2i (z := ((i + j : Nat) : Int)) rfl rfl un3 un72 (wu64 (by omega) (by omega))) ?_
          refine s_val rfl rfl (r_shr (z := (((i + j) / 2 : Nat) : Int)) rfl rfl rfl (by omega) (half_u64 _)) ?_
          refine s_val rfl rfl (r_i2i (z := (((i + j) / 2 : Nat) : Int)) rfl rfl un72 un3 (w64 (by omega) (by omega))) ?_
          refine s_val rfl rfl (r_as rfl rfl) ?_
          refine s_nil ?_
          refine q_then ?_
          refine c_env [(0, .slice A1 xs.length c2), (1, .int .i64 ((a : Nat) : Int)), (2, .int .i64 ((m : Nat) : Int)), (3, .int .i64 ((b : Nat) : Int)), (4, .func (.func 38) #[] #[]), (18, .int .i64 ((md : Nat) : Int)), (19, .int .i64 ((md + m : Nat) : Int)), (20, .int .i64 ((i : Nat) : Int)), (21, .int .i64 ((j : Nat) : Int)), (22, .int .i64 ((md + m - 1 : Nat) : Int)), (23, .int .i64 (((i + j) / 2 : Nat) : Int))] ⟨rfl, rfl, rfl, rfl, rfl, rfl, rfl, rfl, rfl, rfl, rfl, trivial⟩ ?_
          refine c_seq ?_
          refine c_ord (.e 0 (.e 1 (.e 2 (.e 3 (.e 4 (.e 5 (.e 6 (.e 7 (.e 8 (.e 9 (.e 10 (.m 11 (.e 12 (.e 13 .z)))))))))))))) (fun w => ∃ Ar, Hd w0 F0 w (osl kPair (.slice A1 xs.length c2) xs :: Ar) []) mo (by kernel_rfl) (fun w H => ⟨_, H⟩) H (fun w H => ?_)
          refine d_val rfl rfl rfl (fun w ⟨Ar, H⟩ => r_mv rfl rfl) ?_
          refine d_val rfl rfl rfl (fun w ⟨Ar, H⟩ => r_mv rfl rfl) ?_
          refine d_val rfl rfl rfl (fun w ⟨Ar, H⟩ => r_mv rfl rfl) ?_
          refine d_val rfl rfl rfl (fun w ⟨Ar, H⟩ => r_mv rfl rfl) ?_
          refine d_val rfl rfl rfl (fun w ⟨Ar, H⟩ => r_sub (z := ((md + m - 1 - ((i + j) / 2) : Nat) : Int)) rfl rfl rfl (by rw [w64 (by omega) (by omega)]; omega)) ?_
          obtain ⟨x48, hx49⟩ : ∃ z9, xs[md + m - 1 - ((i + j) / 2)]? = some z9 := ⟨_, List.getElem?_eq_getElem (show md + m - 1 - ((i + j) / 2) < xs.length by omega)⟩
          have th50 := H.thA 0 rfl hx49
          refine d_val rfl rfl rfl (fun w ⟨Ar, H⟩ => r_iaE (p := oOf A1 + (md + m - 1 - ((i + j) / 2)) * 2) rfl sl23 rfl rfl (by omega) (by omega) th50 rfl) ?_
          refine d_val rfl rfl rfl (fun w ⟨Ar, H⟩ => r_ldA (cs := [.string x48.key, .string x48.val]) rfl ty56 rfl rfl (H.elsA 0 rfl hx49 rfl)) ?_
          refine d_val rfl rfl rfl (fun w ⟨Ar, H⟩ => r_mv rfl rfl) ?_
          refine d_val rfl rfl rfl (fun w ⟨Ar, H⟩ => r_mv rfl rfl) ?_
          obtain ⟨x51, hx52⟩ : ∃ z9, xs[(i + j) / 2]? = some z9 := ⟨_, List.getElem?_eq_getElem (show (i + j) / 2 < xs.length by omega)⟩
          have th53 := H.thA 0 rfl hx52
          refine d_val rfl rfl rfl (fun w ⟨Ar, H⟩ => r_iaE (p := oOf A1 + ((i + j) / 2) * 2) rfl sl23 rfl rfl (by omega) (by omega) th53 rfl) ?_
          refine d_val rfl rfl rfl (fun w ⟨Ar, H⟩ => r_ldA (cs := [.string x51.key, .string x51.val]) rfl ty56 rfl rfl (H.elsA 0 rfl hx52 rfl)) ?_
          refine d_main rfl ?_
          refine sc (order_ok x48 x51) H l0 rfl rfl (e_val (vs := [.agg #[.string x48.key, .string x48.val], .agg #[.string x51.key, .string x51.val]]) (fs := #[]) (cs := #[]) kn38 rfl rfl rfl) ?_
          rintro _ _ w ⟨rfl, rfl⟩ H
          refine d_back ⟨_, H⟩ ?_
          refine d_val rfl rfl rfl (fun w ⟨Ar, H⟩ => r_lt rfl rfl rfl) ?_
          refine d_val rfl rfl rfl (fun w ⟨Ar, H⟩ => r_notP rfl rfl) ?_
          refine d_nil ?_
          refine q_then ?_
          refine c_env [(0, .slice A1 xs.length c2), (1, .int .i64 ((a : Nat) : Int)), (2, .int .i64 ((m : Nat) : Int)), (3, .int .i64 ((b : Nat) : Int)), (4, .func (.func 38) #[] #[]), (18, .int .i64 ((md : Nat) : Int)), (19, .int .i64 ((md + m : Nat) : Int)), (20, .int .i64 ((i : Nat) : Int)), (21, .int .i64 ((j : Nat) : Int)), (22, .int .i64 ((md + m - 1 : Nat) : Int)), (23, .int .i64 (((i + j) / 2 : Nat) : Int)), (171, .bool (decide (¬ ((cmpK x48.key x51.key) < 0))))] ⟨rfl, rfl, rfl, rfl, rfl, rfl, rfl, rfl, rfl, rfl, rfl, rfl, trivial⟩ ?_
          refine c_dec (p := ¬ ((cmpK x48.key x51.key) < 0)) rfl (fun h54 => ?_) (fun h54 => ?_)
          · skip
            refine c_reg ?_
            refine s_val rfl rfl (r_mv rfl rfl) ?_
            refine s_val rfl rfl (r_add (z := (((i + j) / 2 + 1 : Nat) : Int)) rfl rfl rfl (by rw [w64 (by omega) (by omega)]; omega)) ?_
            refine s_val rfl rfl (r_as rfl rfl) ?_
            refine s_nil ?_
            refine q_blockN ?_
            exact q_round (s := (i, j)) ((i + j) / 2 + 1, j) ⟨rfl, rfl, rfl, rfl, rfl, rfl, rfl, rfl, rfl, rfl, trivial⟩ ⟨H, by (try dsimp only); omega, .inr ⟨x51, x48, by rw [Nat.add_sub_cancel]; exact hx52, by rw [show md + m - ((i + j) / 2 + 1) = md + m - 1 - (i + j) / 2 by omega]; exact hx49, cmpK_nneg h54⟩, hup⟩ (by (try dsimp only); omega)
          · skip
            refine c_reg ?_
            refine s_val rfl rfl (r_mv rfl rfl) ?_
            refine s_val rfl rfl (r_as rfl rfl) ?_
            refine s_nil ?_
            refine q_blockN ?_
            exact q_round (s := (i, j)) (i, (i + j) / 2) ⟨rfl, rfl, rfl, rfl, rfl, rfl, rfl, rfl, rfl, rfl, trivial⟩ ⟨H, by (try dsimp only); omega, hlow, .inr ⟨x48, x51, by rw [show md + m - (i + j) / 2 - 1 = md + m - 1 - (i + j) / 2 by omega]; exact hx49, hx52, cmpK_neg.1 (Classical.not_not.1 h54)⟩⟩ (by (try dsimp only); omega)
        · skip
          refine c_exit ?_
          refine q_thenE ?_
          refine q_thenE ?_
          refine q_blockE ?_
          refine q_then ?_
          refine c_env [(0, .slice A1 xs.length c2), (1, .int .i64 ((a : Nat) : Int)), (2, .int .i64 ((m : Nat) : Int)), (3, .int .i64 ((b : Nat) : Int)), (4, .func (.func 38) #[] #[]), (18, .int .i64 ((md : Nat) : Int)), (19, .int .i64 ((md + m : Nat) : Int)), (20, .int .i64 ((i : Nat) : Int))] ⟨rfl, rfl, rfl, rfl, rfl, rfl, rfl, rfl, trivial⟩ ?_
          refine c_seq ?_
          obtain rfl : j = i := by omega
          have hlow2 : j = a ∨ md + m - j = b ∨ ∃ u v, xs[j - 1]? = some u ∧ xs[md + m - j]? = some v ∧ ltS v.key u.key = false := hlow.elim (fun h => .inr (.inl (by omega))) (fun h => .inr (.inr h))
          have hup2 : j = m ∨ md + m - j = m ∨ ∃ u v, xs[md + m - j - 1]? = some u ∧ xs[j]? = some v ∧ ltS u.key v.key = true := hup.elim (fun h => .inr (.inl (by omega))) (fun h => .inr (.inr h))
          have hbd : a ≤ j ∧ j ≤ m ∧ m ≤ md + m - j ∧ md + m - j ≤ b ∧ md = j + (md + m - j - m) := by omega
          refine c_reg ?_
          refine s_val rfl rfl (r_mv rfl rfl) ?_
          refine s_val rfl rfl (r_mv rfl rfl) ?_
          refine s_val rfl rfl (r_sub (z := ((md + m - j : Nat) : Int)) rfl rfl rfl (by rw [w64 (by omega) (by omega)]; omega)) ?_
          refine s_val rfl rfl (r_as rfl rfl) ?_
          refine s_nil ?_
          refine q_then ?_
          refine c_env [(0, .slice A1 xs.length c2), (1, .int .i64 ((a : Nat) : Int)), (2, .int .i64 ((m : Nat) : Int)), (3, .int .i64 ((b : Nat) : Int)), (4, .func (.func 38) #[] #[]), (18, .int .i64 ((md : Nat) : Int)), (20, .int .i64 ((j : Nat) : Int)), (24, .int .i64 ((md + m - j : Nat) : Int))] ⟨rfl, rfl, rfl, rfl, rfl, rfl, rfl, rfl, trivial⟩ ?_
          refine c_cut (σ := List Pair) (fun ys => [(0, .slice A1 xs.length c2), (1, .int .i64 ((a : Nat) : Int)), (2, .int .i64 ((m : Nat) : Int)), (3, .int .i64 ((b : Nat) : Int)), (4, .func (.func 38) #[] #[]), (18, .int .i64 ((md : Nat) : Int)), (20, .int .i64 ((j : Nat) : Int)), (24, .int .i64 ((md + m - j : Nat) : Int))]) (fun ys w => (Hd w0 F0 w [osl kPair (.slice A1 xs.length c2) ys] []) ∧ (Via xs ys (rotI j m (md + m - j)))) ?_ ?_
          · skip
            refine c_seq ?_
            refine c_reg ?_
            refine s_val rfl rfl (r_mv rfl rfl) ?_
            refine s_val rfl rfl (r_mv rfl rfl) ?_
            refine s_val rfl rfl (r_lt rfl rfl rfl) ?_
            refine s_val rfl rfl (r_mv rfl rfl) ?_
            refine s_dec (d := 181) (p := ((j : Nat) : Int) < ((m : Nat) : Int)) rfl (fun h55 => ?_) (fun h55 => ?_)
            · skip
              refine s_val rfl rfl (r_mv rfl rfl) ?_
              refine s_val rfl rfl (r_mv rfl rfl) ?_
              refine s_val rfl rfl (r_lt rfl rfl rfl) ?_
              refine s_val rfl rfl (r_pickT rfl rfl rfl) ?_
              refine s_nil ?_
              refine q_then ?_
              refine c_env [(0, .slice A1 xs.length c2), (1, .int .i64 ((a : Nat) : Int)), (2, .int .i64 ((m : Nat) : Int)), (3, .int .i64 ((b : Nat) : Int)), (4, .func (.func 38) #[] #[]), (18, .int .i64 ((md : Nat) : Int)), (20, .int .i64 ((j : Nat) : Int)), (24, .int .i64 ((md + m - j : Nat) : Int)), (185, .bool (decide (((m : Nat) : Int) < ((md + m - j : Nat) : Int))))] ⟨rfl, rfl, rfl, rfl, rfl, rfl, rfl, rfl, rfl, trivial⟩ ?_
              refine c_dec (p := ((m : Nat) : Int) < ((md + m - j : Nat) : Int)) rfl (fun h56 => ?_) (fun h56 => ?_)
              · skip
                refine c_reg ?_
                refine s_val rfl rfl (r_mv rfl rfl) ?_
                refine s_val rfl rfl (r_mv rfl rfl) ?_
                refine s_val rfl rfl (r_mv rfl rfl) ?_
                refine s_val rfl rfl (r_mv rfl rfl) ?_
                refine s_val rfl rfl (r_mv rfl rfl) ?_
                refine sc (rotate_ok (.slice A1 xs.length c2) xs j m (md + m - j) (by omega) (by omega) (by omega) (by omega)) H l0 rfl rfl (e_fn kn90 rfl rfl) ?_
                rintro _ _ w ⟨ys57, rfl, hv58⟩ H
                refine s_nil ?_
                exact q_cut ys57 ⟨rfl, rfl, rfl, rfl, rfl, rfl, rfl, rfl, trivial⟩ ⟨H, hv58⟩
              · skip
                refine c_skip ?_
                exact q_cut xs ⟨rfl, rfl, rfl, rfl, rfl, rfl, rfl, rfl, trivial⟩ ⟨H, via_none xs (by omega) (by omega) (by omega)⟩
            · skip
              refine s_no rfl rfl ?_
              refine s_no rfl rfl ?_
              refine s_no rfl rfl ?_
              refine s_val rfl rfl (r_pickF rfl rfl rfl) ?_
              refine s_nil ?_
              refine q_then ?_
              refine c_env [(0, .slice A1 xs.length c2), (1, .int .i64 ((a : Nat) : Int)), (2, .int .i64 ((m : Nat) : Int)), (3, .int .i64 ((b : Nat) : Int)), (4, .func (.func 38) #[] #[]), (18, .int .i64 ((md : Nat) : Int)), (20, .int .i64 ((j : Nat) : Int)), (24, .int .i64 ((md + m - j : Nat) : Int)), (185, .bool false)] ⟨rfl, rfl, rfl, rfl, rfl, rfl, rfl, rfl, rfl, trivial⟩ ?_
              refine c_no rfl ?_
              refine c_skip ?_
              exact q_cut xs ⟨rfl, rfl, rfl, rfl, rfl, rfl, rfl, rfl, trivial⟩ ⟨H, via_none xs (by omega) (by omega) (by omega)⟩
          · rintro ys w ⟨H, hv⟩
            have hl := hv.1
            have hru := rot_runs hv hbd.1 hbd.2.1 hbd.2.2.1 hbd.2.2.2.1 hbd.2.2.2.2 hs1 hs2
            refine c_cut (σ := List Pair) (fun zs => [(0, .slice A1 xs.length c2), (1, .int .i64 ((a : Nat) : Int)), (2, .int .i64 ((m : Nat) : Int)), (3, .int .i64 ((b : Nat) : Int)), (4, .func (.func 38) #[] #[]), (18, .int .i64 ((md : Nat) : Int)), (20, .int .i64 ((j : Nat) : Int)), (24, .int .i64 ((md + m - j : Nat) : Int))]) (fun zs w => (Hd w0 F0 w [osl kPair (.slice A1 xs.length c2) zs] []) ∧ (Sorts ys zs a md)) ?_ ?_
            · skip
              refine c_seq ?_
              refine c_reg ?_
              refine s_val rfl rfl (r_mv rfl rfl) ?_
              refine s_val rfl rfl (r_mv rfl rfl) ?_
              refine s_val rfl rfl (r_lt rfl rfl rfl) ?_
              refine s_val rfl rfl (r_mv rfl rfl) ?_
              refine s_dec (d := 195) (p := ((a : Nat) : Int) < ((j : Nat) : Int)) rfl (fun h59 => ?_) (fun h59 => ?_)
              · skip
                refine s_val rfl rfl (r_mv rfl rfl) ?_
                refine s_val rfl rfl (r_mv rfl rfl) ?_
                refine s_val rfl rfl (r_lt rfl rfl rfl) ?_
                refine s_val rfl rfl (r_pickT rfl rfl rfl) ?_
                refine s_nil ?_
                refine q_then ?_
                refine c_env [(0, .slice A1 xs.length c2), (1, .int .i64 ((a : Nat) : Int)), (2, .int .i64 ((m : Nat) : Int)), (3, .int .i64 ((b : Nat) : Int)), (4, .func (.func 38) #[] #[]), (18, .int .i64 ((md : Nat) : Int)), (20, .int .i64 ((j : Nat) : Int)), (24, .int .i64 ((md + m - j : Nat) : Int)), (199, .bool (decide (((j : Nat) : Int) < ((md : Nat) : Int))))] ⟨rfl, rfl, rfl, rfl, rfl, rfl, rfl, rfl, rfl, trivial⟩ ?_
                refine c_dec (p := ((j : Nat) : Int) < ((md : Nat) : Int)) rfl (fun h60 => ?_) (fun h60 => ?_)
                · skip
                  refine c_reg ?_
                  refine s_val rfl rfl (r_mv rfl rfl) ?_
                  refine s_val rfl rfl (r_mv rfl rfl) ?_
                  refine s_val rfl rfl (r_mv rfl rfl) ?_
                  refine s_val rfl rfl (r_mv rfl rfl) ?_
                  refine s_val rfl rfl (r_mv rfl rfl) ?_
                  refine sc (ih (.slice A1 xs.length c2) ys a j md (by omega) (by omega) (by omega) (by omega) (by omega) hru.1 hru.2.1) H l0 rfl rfl (e_fn kn79 rfl rfl) ?_
                  rintro _ _ w ⟨ys61, rfl, hv62⟩ H
                  refine s_nil ?_
                  exact q_cut ys61 ⟨rfl, rfl, rfl, rfl, rfl, rfl, rfl, rfl, trivial⟩ ⟨H, hv62⟩
                · skip
                  refine c_skip ?_
                  exact q_cut ys ⟨rfl, rfl, rfl, rfl, rfl, rfl, rfl, rfl, trivial⟩ ⟨H, Sorts.refl (runs_skip hru.1 hru.2.1 (by omega) hbd.1)⟩
              · skip
                refine s_no rfl rfl ?_
                refine s_no rfl rfl ?_
                refine s_no rfl rfl ?_
                refine s_val rfl rfl (r_pickF rfl rfl rfl) ?_
                refine s_nil ?_
                refine q_then ?_
                refine c_env [(0, .slice A1 xs.length c2), (1, .int .i64 ((a : Nat) : Int)), (2, .int .i64 ((m : Nat) : Int)), (3, .int .i64 ((b : Nat) : Int)), (4, .func (.func 38) #[] #[]), (18, .int .i64 ((md : Nat) : Int)), (20, .int .i64 ((j : Nat) : Int)), (24, .int .i64 ((md + m - j : Nat) : Int)), (199, .bool false)] ⟨rfl, rfl, rfl, rfl, rfl, rfl, rfl, rfl, rfl, trivial⟩ ?_
                refine c_no rfl ?_
                refine c_skip ?_
                exact q_cut ys ⟨rfl, rfl, rfl, rfl, rfl, rfl, rfl, rfl, trivial⟩ ⟨H, Sorts.refl (runs_skip hru.1 hru.2.1 (by omega) hbd.1)⟩
            · rintro zs w ⟨H, hz⟩
              have hl3 := hz.ins.1
              have hr3 : SrtI zs md (md + m - j) := hru.2.2.1.same (fun t h1 h2 => hz.ins.2.1 t (by omega))
              have hr4 : SrtI zs (md + m - j) b := hru.2.2.2.same (fun t h1 h2 => hz.ins.2.1 t (by omega))
              refine c_seq ?_
              refine c_reg ?_
              refine s_val rfl rfl (r_mv rfl rfl) ?_
              refine s_val rfl rfl (r_mv rfl rfl) ?_
              refine s_val rfl rfl (r_lt rfl rfl rfl) ?_
              refine s_val rfl rfl (r_mv rfl rfl) ?_
              refine s_dec (d := 209) (p := ((md : Nat) : Int) < ((md + m - j : Nat) : Int)) rfl (fun h63 => ?_) (fun h63 => ?_)
              · skip
                refine s_val rfl rfl (r_mv rfl rfl) ?_
                refine s_val rfl rfl (r_mv rfl rfl) ?_
                refine s_val rfl rfl (r_lt rfl rfl rfl) ?_
                refine s_val rfl rfl (r_pickT rfl rfl rfl) ?_
                refine s_nil ?_
                refine q_then ?_
                refine c_env [(0, .slice A1 xs.length c2), (3, .int .i64 ((b : Nat) : Int)), (4, .func (.func 38) #[] #[]), (18, .int .i64 ((md : Nat) : Int)), (24, .int .i64 ((md + m - j : Nat) : Int)), (213, .bool (decide (((md + m - j : Nat) : Int) < ((b : Nat) : Int))))] ⟨rfl, rfl, rfl, rfl, rfl, rfl, trivial⟩ ?_
                refine c_dec (p := ((md + m - j : Nat) : Int) < ((b : Nat) : Int)) rfl (fun h64 => ?_) (fun h64 => ?_)
                · skip
                  refine c_reg ?_
                  refine s_val rfl rfl (r_mv rfl rfl) ?_
                  refine s_val rfl rfl (r_mv rfl rfl) ?_
                  refine s_val rfl rfl (r_mv rfl rfl) ?_
                  refine s_val rfl rfl (r_mv rfl rfl) ?_
                  refine s_val rfl rfl (r_mv rfl rfl) ?_
                  refine sc (ih (.slice A1 xs.length c2) zs md (md + m - j) b (by omega) (by omega) (by omega) (by omega) (by omega) hr3 hr4) H l0 rfl rfl (e_fn kn79 rfl rfl) ?_
                  rintro _ _ w ⟨ys65, rfl, hv66⟩ H
                  refine s_nil ?_
                  refine q_end rfl ?_
                  exact fin ⟨_, rfl, merge_parts hv hbd.1 hbd.2.1 hbd.2.2.1 hbd.2.2.2.1 (by omega) hbd.2.2.2.2 hs1 hs2 hlow2 hup2 hz hv66⟩ H
                · skip
                  refine c_skip ?_
                  refine q_end rfl ?_
                  exact fin ⟨_, rfl, merge_parts hv hbd.1 hbd.2.1 hbd.2.2.1 hbd.2.2.2.1 (by omega) hbd.2.2.2.2 hs1 hs2 hlow2 hup2 hz (Sorts.refl (runs_skip hr3 hr4 (by omega) (by omega)))⟩ H
              · skip
                refine s_no rfl rfl ?_
                refine s_no rfl rfl ?_
                refine s_no rfl rfl ?_
                refine s_val rfl rfl (r_pickF rfl rfl rfl) ?_
                refine s_nil ?_
                refine q_then ?_
                refine c_env [(0, .slice A1 xs.length c2), (3, .int .i64 ((b : Nat) : Int)), (4, .func (.func 38) #[] #[]), (18, .int .i64 ((md : Nat) : Int)), (24, .int .i64 ((md + m - j : Nat) : Int)), (213, .bool false)] ⟨rfl, rfl, rfl, rfl, rfl, rfl, trivial⟩ ?_
                refine c_no rfl ?_
                refine c_skip ?_
                refine q_end rfl ?_
                exact fin ⟨_, rfl, merge_parts hv hbd.1 hbd.2.1 hbd.2.2.1 hbd.2.2.2.1 (by omega) hbd.2.2.2.2 hs1 hs2 hlow2 hup2 hz (Sorts.refl (runs_skip hr3 hr4 (by omega) (by omega)))⟩ H
      · skip
        refine c_seq ?_
        refine c_reg ?_
        refine s_val rfl rfl (r_mv rfl rfl) ?_
        refine s_val rfl rfl (r_as rfl rfl) ?_
        refine s_nil ?_
        refine q_then ?_
        refine c_env [(0, .slice A1 xs.length c2), (1, .int .i64 ((a : Nat) : Int)), (2, .int .i64 ((m : Nat) : Int)), (3, .int .i64 ((b : Nat) : Int)), (4, .func (.func 38) #[] #[]), (18, .int .i64 ((md : Nat) : Int)), (19, .int .i64 ((md + m : Nat) : Int)), (20, .int .i64 ((a : Nat) : Int)), (21, .int .i64 0)] ⟨rfl, rfl, rfl, rfl, rfl, rfl, rfl, rfl, rfl, trivial⟩ ?_
        refine c_reg ?_
        refine s_val rfl rfl (r_mv rfl rfl) ?_
        refine s_val rfl rfl (r_as rfl rfl) ?_
        refine s_nil ?_
        refine q_then ?_
        refine c_env [(0, .slice A1 xs.length c2), (1, .int .i64 ((a : Nat) : Int)), (2, .int .i64 ((m : Nat) : Int)), (3, .int .i64 ((b : Nat) : Int)), (4, .func (.func 38) #[] #[]), (18, .int .i64 ((md : Nat) : Int)), (19, .int .i64 ((md + m : Nat) : Int)), (20, .int .i64 ((a : Nat) : Int)), (21, .int .i64 ((m : Nat) : Int))] ⟨rfl, rfl, rfl, rfl, rfl, rfl, rfl, rfl, rfl, trivial⟩ ?_
        refine c_seq ?_
        refine c_reg ?_
        refine s_val rfl rfl (r_mv rfl rfl) ?_
        refine s_val rfl rfl (r_sub (z := ((md + m - 1 : Nat) : Int)) rfl rfl rfl (by rw [w64 (by omega) (by omega)]; omega)) ?_
        refine s_val rfl rfl (r_as rfl rfl) ?_
        refine s_nil ?_
        refine q_then ?_
        refine c_env [(0, .slice A1 xs.length c2), (1, .int .i64 ((a : Nat) : Int)), (2, .int .i64 ((m : Nat) : Int)), (3, .int .i64 ((b : Nat) : Int)), (4, .func (.func 38) #[] #[]), (18, .int .i64 ((md : Nat) : Int)), (19, .int .i64 ((md + m : Nat) : Int)), (20, .int .i64 ((a : Nat) : Int)), (21, .int .i64 ((m : Nat) : Int)), (22, .int .i64 ((md + m - 1 : Nat) : Int))] ⟨rfl, rfl, rfl, rfl, rfl, rfl, rfl, rfl, rfl, rfl, trivial⟩ ?_
        refine c_seq ?_
        refine c_block ?_
        refine c_loop (σ := Nat × Nat) (fun (i, j) => [(0, .slice A1 xs.length c2), (1, .int .i64 ((a : Nat) : Int)), (2, .int .i64 ((m : Nat) : Int)), (3, .int .i64 ((b : Nat) : Int)), (4, .func (.func 38) #[] #[]), (18, .int .i64 ((md : Nat) : Int)), (19, .int .i64 ((md + m : Nat) : Int)), (20, .int .i64 ((i : Nat) : Int)), (21, .int .i64 ((j : Nat) : Int)), (22, .int .i64 ((md + m - 1 : Nat) : Int))]) (fun (i, j) w => (Hd w0 F0 w [osl kPair (.slice A1 xs.length c2) xs] []) ∧ (a ≤ i ∧ i ≤ j ∧ j ≤ m) ∧ (i = a ∨ ∃ u v, xs[i - 1]? = some u ∧ xs[md + m - i]? = some v ∧ ltS v.key u.key = false) ∧ (j = m ∨ ∃ u v, xs[md + m - j - 1]? = some u ∧ xs[j]? = some v ∧ ltS u.key v.key = true)) (fun (i, j) => j - i) (a, m) ⟨rfl, rfl, rfl, rfl, rfl, rfl, rfl, rfl, rfl, rfl, trivial⟩ ⟨H, by (try dsimp only); omega, .inl rfl, .inl rfl⟩ ?_
        rintro ⟨i, j⟩ w ⟨H, hij, hlow, hup⟩
        refine c_seq ?_
        refine c_seq ?_
        refine c_reg ?_
        refine s_val rfl rfl (r_mv rfl rfl) ?_
        refine s_val rfl rfl (r_mv rfl rfl) ?_
        refine s_val rfl rfl (r_lt rfl rfl rfl) ?_
        refine s_nil ?_
        refine q_then ?_
        refine c_env [(0, .slice A1 xs.length c2), (1, .int .i64 ((a : Nat) : Int)), (2, .int .i64 ((m : Nat) : Int)), (3, .int .i64 ((b : Nat) : Int)), (4, .func (.func 38) #[] #[]), (18, .int .i64 ((md : Nat) : Int)), (19, .int .i64 ((md + m : Nat) : Int)), (20, .int .i64 ((i : Nat) : Int)), (21, .int .i64 ((j : Nat) : Int)), (22, .int .i64 ((md + m - 1 : Nat) : Int)), (151, .bool (decide (((i : Nat) : Int) < ((j : Nat) : Int))))] ⟨rfl, rfl, rfl, rfl, rfl, rfl, rfl, rfl, rfl, rfl, rfl, trivial⟩ ?_
        refine c_dec (p := ((i : Nat) : Int) < ((j : Nat) : Int)) rfl (fun h67 => ?_) (fun h67 => ?_)
        · skip
          refine c_skip ?_
          refine q_then ?_
          refine c_env [(0, .slice A1 xs.length c2), (1, .int .i64 ((a : Nat) : Int)), (2, .int .i64 ((m : Nat) : Int)), (3, .int .i64 ((b : Nat) : Int)), (4, .func (.func 38) #[] #[]), (18, .int .i64 ((md : Nat) : Int)), (19, .int .i64 ((md + m : Nat) : Int)), (20, .int .i64 ((i : Nat) : Int)), (21, .int .i64 ((j : Nat) : Int)), (22, .int .i64 ((md + m - 1 : Nat) : Int))] ⟨rfl, rfl, rfl, rfl, rfl, rfl, rfl, rfl, rfl, rfl, trivial⟩ ?_
          refine c_block ?_
          refine c_seq ?_
          refine c_reg ?_
          refine s_val rfl rfl (r_mv rfl rfl) ?_
          refine s_val rfl rfl (r_mv rfl rfl) ?_
          refine s_val rfl rfl (r_add (z := ((i + j : Nat) : Int)) rfl rfl rfl (by rw [w64 (by omega) (by omega)]; omega)) ?_
          refine s_val rfl rfl (r_i2i (z := ((i + j : Nat) : Int)) rfl rfl un3 un72 (wu64 (by omega) (by omega))) ?_
          refine s_val rfl rfl (r_shr (z := (((i + j) / 2 : Nat) : Int)) rfl rfl rfl (by omega) (half_u64 _)) ?_
          refine s_val rfl rfl (r_i2i (z := (((i + j) / 2 : Nat) : Int)) rfl rfl un72 un3 (w64 (by omega) (by omega))) ?_
          refine s_val rfl rfl (r_as rfl rfl) ?_
          refine s_nil ?_
          refine q_then ?_
          refine c_env [(0, .slice A1 xs.length c2), (1, .int .i64 ((a : Nat) : Int)), (2, .int .i64 ((m : Nat) : Int)), (3, .int .i64 ((b : Nat) : Int)), (4, .func (.func 38) #[] #[]), (18, .int .i64 ((md : Nat) : Int)), (19, .int .i64 ((md + m : Nat) : Int)), (20, .int .i64 ((i : Nat) : Int)), (21, .int .i64 ((j : Nat) : Int)), (22, .int .i64 ((md + m - 1 : Nat) : Int)), (23, .int .i64 (((i + j) / 2 : Nat) : Int))] ⟨rfl, rfl, rfl, rfl, rfl, rfl, rfl, rfl, rfl, rfl, rfl, trivial⟩ ?_
          refine c_seq ?_
          refine c_ord (.e 0 (.e 1 (.e 2 (.e 3 (.e 4 (.e 5 (.e 6 (.e 7 (.e 8 (.e 9 (.e 10 (.m 11 (.e 12 (.e 13 .z)))))))))))))) (fun w => ∃ Ar, Hd w0 F0 w (osl kPair (.slice A1 xs.length c2) xs :: Ar) []) mo (by kernel_rfl) (fun w H => ⟨_, H⟩) H (fun w H => ?_)
          refine d_val rfl rfl rfl (fun w ⟨Ar, H⟩ => r_mv rfl rfl) ?_
          refine d_val rfl rfl rfl (fun w ⟨Ar, H⟩ => r_mv rfl rfl) ?_
          refine d_val rfl rfl rfl (fun w ⟨Ar, H⟩ => r_mv rfl rfl) ?_
          refine d_val rfl rfl rfl (fun w ⟨Ar, H⟩ => r_mv rfl rfl) ?_
          refine d_val rfl rfl rfl (fun w ⟨Ar, H⟩ => r_sub (z := ((md + m - 1 - ((i + j) / 2) : Nat) : Int)) rfl rfl rfl (by rw [w64 (by omega) (by omega)]; omega)) ?_
          obtain ⟨x68, hx69⟩ : ∃ z9, xs[md + m - 1 - ((i + j) / 2)]? = some z9 := ⟨_, List.getElem?_eq_getElem (show md + m - 1 - ((i + j) / 2) < xs.length by omega)⟩
          have th70 := H.thA 0 rfl hx69
          refine d_val rfl rfl rfl (fun w ⟨Ar, H⟩ => r_iaE (p := oOf A1 + (md + m - 1 - ((i + j) / 2)) * 2) rfl sl23 rfl rfl (by omega) (by omega) th70 rfl) ?_
          refine d_val rfl rfl rfl (fun w ⟨Ar, H⟩ => r_ldA (cs := [.string x68.key, .string x68.val]) rfl ty56 rfl rfl (H.elsA 0 rfl hx69 rfl)) ?_
          refine d_val rfl rfl rfl (fun w ⟨Ar, H⟩ => r_mv rfl rfl) ?_
          refine d_val rfl rfl rfl (fun w ⟨Ar, H⟩ => r_mv rfl rfl) ?_
          obtain ⟨x71, hx72⟩ : ∃ z9, xs[(i + j) / 2]? = some z9 := ⟨_, List.getElem?_eq_getElem (show (i + j) / 2 < xs.length by omega)⟩
          have th73 := H.thA 0 rfl hx72
          refine d_val rfl rfl rfl (fun w ⟨Ar, H⟩ => r_iaE (p := oOf A1 + ((i + j) / 2) * 2) rfl sl23 rfl rfl (by omega) (by omega) th73 rfl) ?_
          refine d_val rfl rfl rfl (fun w ⟨Ar, H⟩ => r_ldA (cs := [.string x71.key, .string x71.val]) rfl ty56 rfl rfl (H.elsA 0 rfl hx72 rfl)) ?_
          refine d_main rfl ?_
          refine sc (order_ok x68 x71) H l0 rfl rfl (e_val (vs := [.agg #[.string x68.key, .string x68.val], .agg #[.string x71.key, .string x71.val]]) (fs := #[]) (cs := #[]) kn38 rfl rfl rfl) ?_
          rintro _ _ w ⟨rfl, rfl⟩ H
          refine d_back ⟨_, H⟩ ?_
          refine d_val rfl rfl rfl (fun w ⟨Ar, H⟩ => r_lt rfl rfl rfl) ?_
          refine d_val rfl rfl rfl (fun w ⟨Ar, H⟩ => r_notP rfl rfl) ?_
          refine d_nil ?_
          refine q_then ?_
          refine c_env [(0, .slice A1 xs.length c2), (1, .int .i64 ((a : Nat) : Int)), (2, .int .i64 ((m : Nat) : Int)), (3, .int .i64 ((b : Nat) : Int)), (4, .func (.func 38) #[] #[]), (18, .int .i64 ((md : Nat) : Int)), (19, .int .i64 ((md + m : Nat) : Int)), (20, .int .i64 ((i : Nat) : Int)), (21, .int .i64 ((j : Nat) : Int)), (22, .int .i64 ((md + m - 1 : Nat) : Int)), (23, .int .i64 (((i + j) / 2 : Nat) : Int)), (171, .bool (decide (¬ ((cmpK x68.key x71.key) < 0))))] ⟨rfl, rfl, rfl, rfl, rfl, rfl, rfl, rfl, rfl, rfl, rfl, rfl, trivial⟩ ?_
          refine c_dec (p := ¬ ((cmpK x68.key x71.key) < 0)) rfl (fun h74 => ?_) (fun h74 => ?_)
          · skip
            refine c_reg ?_
            refine s_val rfl rfl (r_mv rfl rfl) ?_
            refine s_val rfl rfl (r_add (z := (((i + j) / 2 + 1 : Nat) : Int)) rfl rfl rfl (by rw [w64 (by omega) (by omega)]; omega)) ?_
            refine s_val rfl rfl (r_as rfl rfl) ?_
            refine s_nil ?_
            refine q_blockN ?_
            exact q_round (s := (i, j)) ((i + j) / 2 + 1, j) ⟨rfl, rfl, rfl, rfl, rfl, rfl, rfl, rfl, rfl, rfl, trivial⟩ ⟨H, by (try dsimp only); omega, .inr ⟨x71, x68, by rw [Nat.add_sub_cancel]; exact hx72, by rw [show md + m - ((i + j) / 2 + 1) = md + m - 1 - (i + j) / 2 by omega]; exact hx69, cmpK_nneg h74⟩, hup⟩ (by (try dsimp only); omega)
          · skip
            refine c_reg ?_
            refine s_val rfl rfl (r_mv rfl rfl) ?_
            refine s_val rfl rfl (r_as rfl rfl) ?_
            refine s_nil ?_
            refine q_blockN ?_
            exact q_round (s := (i, j)) (i, (i + j) / 2) ⟨rfl, rfl, rfl, rfl, rfl, rfl, rfl, rfl, rfl, rfl, trivial⟩ ⟨H, by (try dsimp only); omega, hlow, .inr ⟨x68, x71, by rw [show md + m - (i + j) / 2 - 1 = md + m - 1 - (i + j) / 2 by omega]; exact hx69, hx72, cmpK_neg.1 (Classical.not_not.1 h74)⟩⟩ (by (try dsimp only); omega)
        · skip
          refine c_exit ?_
          refine q_thenE ?_
          refine q_thenE ?_
          refine q_blockE ?_
          refine q_then ?_
          refine c_env [(0, .slice A1 xs.length c2), (1, .int .i64 ((a : Nat) : Int)), (2, .int .i64 ((m : Nat) : Int)), (3, .int .i64 ((b : Nat) : Int)), (4, .func (.func 38) #[] #[]), (18, .int .i64 ((md : Nat) : Int)), (19, .int .i64 ((md + m : Nat) : Int)), (20, .int .i64 ((i : Nat) : Int))] ⟨rfl, rfl, rfl, rfl, rfl, rfl, rfl, rfl, trivial⟩ ?_
          refine c_seq ?_
          obtain rfl : j = i := by omega
          have hlow2 : j = a ∨ md + m - j = b ∨ ∃ u v, xs[j - 1]? = some u ∧ xs[md + m - j]? = some v ∧ ltS v.key u.key = false := hlow.elim (fun h => .inl (by omega)) (fun h => .inr (.inr h))
          have hup2 : j = m ∨ md + m - j = m ∨ ∃ u v, xs[md + m - j - 1]? = some u ∧ xs[j]? = some v ∧ ltS u.key v.key = true := hup.elim (fun h => .inl (by omega)) (fun h => .inr (.inr h))
          have hbd : a ≤ j ∧ j ≤ m ∧ m ≤ md + m - j ∧ md + m - j ≤ b ∧ md = j + (md + m - j - m) := by omega
          refine c_reg ?_
          refine s_val rfl rfl (r_mv rfl rfl) ?_
          refine s_val rfl rfl (r_mv rfl rfl) ?_
          refine s_val rfl rfl (r_sub (z := ((md + m - j : Nat) : Int)) rfl rfl rfl (by rw [w64 (by omega) (by omega)]; omega)) ?_
          refine s_val rfl rfl (r_as rfl rfl) ?_
          refine s_nil ?_
          refine q_then ?_
          refine c_env [(0, .slice A1 xs.length c2), (1, .int .i64 ((a : Nat) : Int)), (2, .int .i64 ((m : Nat) : Int)), (3, .int .i64 ((b : Nat) : Int)), (4, .func (.func 38) #[] #[]), (18, .int .i64 ((md : Nat) : Int)), (20, .int .i64 ((j : Nat) : Int)), (24, .int .i64 ((md + m - j : Nat) : Int))] ⟨rfl, rfl, rfl, rfl, rfl, rfl, rfl, rfl, trivial⟩ ?_
          refine c_cut (σ := List Pair) (fun ys => [(0, .slice A1 xs.length c2), (1, .int .i64 ((a : Nat) : Int)), (2, .int .i64 ((m : Nat) : Int)), (3, .int .i64 ((b : Nat) : Int)), (4, .func (.func 38) #[] #[]), (18, .int .i64 ((md : Nat) : Int)), (20, .int .i64 ((j : Nat) : Int)), (24, .int .i64 ((md + m - j : Nat) : Int))]) (fun ys w => (Hd w0 F0 w [osl kPair (.slice A1 xs.length c2) ys] []) ∧ (Via xs ys (rotI j m (md + m - j)))) ?_ ?_
          · skip
            refine c_seq ?_
            refine c_reg ?_
            refine s_val rfl rfl (r_mv rfl rfl) ?_
            refine s_val rfl rfl (r_mv rfl rfl) ?_
            refine s_val rfl rfl (r_lt rfl rfl rfl) ?_
            refine s_val rfl rfl (r_mv rfl rfl) ?_
            refine s_dec (d := 181) (p := ((j : Nat) : Int) < ((m : Nat) : Int)) rfl (fun h75 => ?_) (fun h75 => ?_)
            · skip
              refine s_val rfl rfl (r_mv rfl rfl) ?_
              refine s_val rfl rfl (r_mv rfl rfl) ?_
              refine s_val rfl rfl (r_lt rfl rfl rfl) ?_
              refine s_val rfl rfl (r_pickT rfl rfl rfl) ?_
              refine s_nil ?_
              refine q_then ?_
              refine c_env [(0, .slice A1 xs.length c2), (1, .int .i64 ((a : Nat) : Int)), (2, .int .i64 ((m : Nat) : Int)), (3, .int .i64 ((b : Nat) : Int)), (4, .func (.func 38) #[] #[]), (18, .int .i64 ((md : Nat) : Int)), (20, .int .i64 ((j : Nat) : Int)), (24, .int .i64 ((md + m - j : Nat) : Int)), (185, .bool (decide (((m : Nat) : Int) < ((md + m - j : Nat) : Int))))] ⟨rfl, rfl, rfl, rfl, rfl, rfl, rfl, rfl, rfl, trivial⟩ ?_
              refine c_dec (p := ((m : Nat) : Int) < ((md + m - j : Nat) : Int)) rfl (fun h76 => ?_) (fun h76 => ?_)
              · skip
                refine c_reg ?_
                refine s_val rfl rfl (r_mv rfl rfl) ?_
                refine s_val rfl rfl (r_mv rfl rfl) ?_
                refine s_val rfl rfl (r_mv rfl rfl) ?_
                refine s_val rfl rfl (r_mv rfl rfl) ?_
                refine s_val rfl rfl (r_mv rfl rfl) ?_
                refine sc (rotate_ok (.slice A1 xs.length c2) xs j m (md + m - j) (by omega) (by omega) (by omega) (by omega)) H l0 rfl rfl (e_fn kn90 rfl rfl) ?_
                rintro _ _ w ⟨ys77, rfl, hv78⟩ H
                refine s_nil ?_
                exact q_cut ys77 ⟨rfl, rfl, rfl, rfl, rfl, rfl, rfl, rfl, trivial⟩ ⟨H, hv78⟩
              · skip
                refine c_skip ?_
                exact q_cut xs ⟨rfl, rfl, rfl, rfl, rfl, rfl, rfl, rfl, trivial⟩ ⟨H, via_none xs (by omega) (by omega) (by omega)⟩
            · skip
              refine s_no rfl rfl ?_
              refine s_no rfl rfl ?_
              refine s_no rfl rfl ?_
              refine s_val rfl rfl (r_pickF rfl rfl rfl) ?_
              refine s_nil ?_
              refine q_then ?_
              refine c_env [(0, .slice A1 xs.length c2), (1, .int .i64 ((a : Nat) : Int)), (2, .int .i64 ((m : Nat) : Int)), (3, .int .i64 ((b : Nat) : Int)), (4, .func (.func 38) #[] #[]), (18, .int .i64 ((md : Nat) : Int)), (20, .int .i64 ((j : Nat) : Int)), (24, .int .i64 ((md + m - j : Nat) : Int)), (185, .bool false)] ⟨rfl, rfl, rfl, rfl, rfl, rfl, rfl, rfl, rfl, trivial⟩ ?_
              refine c_no rfl ?_
              refine c_skip ?_
              exact q_cut xs ⟨rfl, rfl, rfl, rfl, rfl, rfl, rfl, rfl, trivial⟩ ⟨H, via_none xs (by omega) (by omega) (by omega)⟩
          · rintro ys w ⟨H, hv⟩
            have hl := hv.1
            have hru := rot_runs hv hbd.1 hbd.2.1 hbd.2.2.1 hbd.2.2.2.1 hbd.2.2.2.2 hs1 hs2
            refine c_cut (σ := List Pair) (fun zs => [(0, .slice A1 xs.length c2), (1, .int .i64 ((a : Nat) : Int)), (2, .int .i64 ((m : Nat) : Int)), (3, .int .i64 ((b : Nat) : Int)), (4, .func (.func 38) #[] #[]), (18, .int .i64 ((md : Nat) : Int)), (20, .int .i64 ((j : Nat) : Int)), (24, .int .i64 ((md + m - j : Nat) : Int))]) (fun zs w => (Hd w0 F0 w [osl kPair (.slice A1 xs.length c2) zs] []) ∧ (Sorts ys zs a md)) ?_ ?_
            · skip
              refine c_seq ?_
              refine c_reg ?_
              refine s_val rfl rfl (r_mv rfl rfl) ?_
              refine s_val rfl rfl (r_mv rfl rfl) ?_
              refine s_val rfl rfl (r_lt rfl rfl rfl) ?_
              refine s_val rfl rfl (r_mv rfl rfl) ?_
              refine s_dec (d := 195) (p := ((a : Nat) : Int) < ((j : Nat) : Int)) rfl (fun h79 => ?_) (fun h79 => ?_)
              · skip
                refine s_val rfl rfl (r_mv rfl rfl) ?_
                refine s_val rfl rfl (r_mv rfl rfl) ?_
                refine s_val rfl rfl (r_lt rfl rfl rfl) ?_
                refine s_val rfl rfl (r_pickT rfl rfl rfl) ?_
                refine s_nil ?_
                refine q_then ?_
                refine c_env [(0, .slice A1 xs.length c2), (1, .int .i64 ((a : Nat) : Int)), (2, .int .i64 ((m : Nat) : Int)), (3, .int .i64 ((b : Nat) : Int)), (4, .func (.func 38) #[] #[]), (18, .int .i64 ((md : Nat) : Int)), (20, .int .i64 ((j : Nat) : Int)), (24, .int .i64 ((md + m - j : Nat) : Int)), (199, .bool (decide (((j : Nat) : Int) < ((md : Nat) : Int))))] ⟨rfl, rfl, rfl, rfl, rfl, rfl, rfl, rfl, rfl, trivial⟩ ?_
                refine c_dec (p := ((j : Nat) : Int) < ((md : Nat) : Int)) rfl (fun h80 => ?_) (fun h80 => ?_)
                · skip
                  refine c_reg ?_
                  refine s_val rfl rfl (r_mv rfl rfl) ?_
                  refine s_val rfl rfl (r_mv rfl rfl) ?_
                  refine s_val rfl rfl (r_mv rfl rfl) ?_
                  refine s_val rfl rfl (r_mv rfl rfl) ?_
                  refine s_val rfl rfl (r_mv rfl rfl) ?_
                  refine sc (ih (.slice A1 xs.length c2) ys a j md (by omega) (by omega) (by omega) (by omega) (by omega) hru.1 hru.2.1) H l0 rfl rfl (e_fn kn79 rfl rfl) ?_
                  rintro _ _ w ⟨ys81, rfl, hv82⟩ H
                  refine s_nil ?_
                  exact q_cut ys81 ⟨rfl, rfl, rfl, rfl, rfl, rfl, rfl, rfl, trivial⟩ ⟨H, hv82⟩
                · skip
                  refine c_skip ?_
                  exact q_cut ys ⟨rfl, rfl, rfl, rfl, rfl, rfl, rfl, rfl, trivial⟩ ⟨H, Sorts.refl (runs_skip hru.1 hru.2.1 (by omega) hbd.1)⟩
              · skip
                refine s_no rfl rfl ?_
                refine s_no rfl rfl ?_
                refine s_no rfl rfl ?_
                refine s_val rfl rfl (r_pickF rfl rfl rfl) ?_
                refine s_nil ?_
                refine q_then ?_
                refine c_env [(0, .slice A1 xs.length c2), (1, .int .i64 ((a : Nat) : Int)), (2, .int .i64 ((m : Nat) : Int)), (3, .int .i64 ((b : Nat) : Int)), (4, .func (.func 38) #[] #[]), (18, .int .i64 ((md : Nat) : Int)), (20, .int .i64 ((j : Nat) : Int)), (24, .int .i64 ((md + m - j : Nat) : Int)), (199, .bool false)] ⟨rfl, rfl, rfl, rfl, rfl, rfl, rfl, rfl, rfl, trivial⟩ ?_
                refine c_no rfl ?_
                refine c_skip ?_
                exact q_cut ys ⟨rfl, rfl, rfl, rfl, rfl, rfl, rfl, rfl, trivial⟩ ⟨H, Sorts.refl (runs_skip hru.1 hru.2.1 (by omega) hbd.1)⟩
            · rintro zs w ⟨H, hz⟩
              have hl3 := hz.ins.1
              have hr3 : SrtI zs md (md + m - j) := hru.2.2.1.same (fun t h1 h2 => hz.ins.2.1 t (by omega))
              have hr4 : SrtI zs (md + m - j) b := hru.2.2.2.same (fun t h1 h2 => hz.ins.2.1 t (by omega))
              refine c_seq ?_
              refine c_reg ?_
              refine s_val rfl rfl (r_mv rfl rfl) ?_
              refine s_val rfl rfl (r_mv rfl rfl) ?_
              refine s_val rfl rfl (r_lt rfl rfl rfl) ?_
              refine s_val rfl rfl (r_mv rfl rfl) ?_
              refine s_dec (d := 209) (p := ((md : Nat) : Int) < ((md + m - j : Nat) : Int)) rfl (fun h83 => ?_) (fun h83 => ?_)
              · skip
                refine s_val rfl rfl (r_mv rfl rfl) ?_
                refine s_val rfl rfl (r_mv rfl rfl) ?_
                refine s_val rfl rfl (r_lt rfl rfl rfl) ?_
                refine s_val rfl rfl (r_pickT rfl rfl rfl) ?_
                refine s_nil ?_
                refine q_then ?_
                refine c_env [(0, .slice A1 xs.length c2), (3, .int .i64 ((b : Nat) : Int)), (4, .func (.func 38) #[] #[]), (18, .int .i64 ((md : Nat) : Int)), (24, .int .i64 ((md + m - j : Nat) : Int)), (213, .bool (decide (((md + m - j : Nat) : Int) < ((b : Nat) : Int))))] ⟨rfl, rfl, rfl, rfl, rfl, rfl, trivial⟩ ?_
                refine c_dec (p := ((md + m - j : Nat) : Int) < ((b : Nat) : Int)) rfl (fun h84 => ?_) (fun h84 => ?_)
                · skip
                  refine c_reg ?_
                  refine s_val rfl rfl (r_mv rfl rfl) ?_
                  refine s_val rfl rfl (r_mv rfl rfl) ?_
                  refine s_val rfl rfl (r_mv rfl rfl) ?_
                  refine s_val rfl rfl (r_mv rfl rfl) ?_
                  refine s_val rfl rfl (r_mv rfl rfl) ?_
                  refine sc (ih (.slice A1 xs.length c2) zs md (md + m - j) b (by omega) (by omega) (by omega) (by omega) (by omega) hr3 hr4) H l0 rfl rfl (e_fn kn79 rfl rfl) ?_
                  rintro _ _ w ⟨ys85, rfl, hv86⟩ H
                  refine s_nil ?_
                  refine q_end rfl ?_
                  exact fin ⟨_, rfl, merge_parts hv hbd.1 hbd.2.1 hbd.2.2.1 hbd.2.2.2.1 (by omega) hbd.2.2.2.2 hs1 hs2 hlow2 hup2 hz hv86⟩ H
                · skip
                  refine c_skip ?_
                  refine q_end rfl ?_
                  exact fin ⟨_, rfl, merge_parts hv hbd.1 hbd.2.1 hbd.2.2.1 hbd.2.2.2.1 (by omega) hbd.2.2.2.2 hs1 hs2 hlow2 hup2 hz (Sorts.refl (runs_skip hr3 hr4 (by omega) (by omega)))⟩ H
              · skip
                refine s_no rfl rfl ?_
                refine s_no rfl rfl ?_
                refine s_no rfl rfl ?_
                refine s_val rfl rfl (r_pickF rfl rfl rfl) ?_
                refine s_nil ?_
                refine q_then ?_
                refine c_env [(0, .slice A1 xs.length c2), (3, .int .i64 ((b : Nat) : Int)), (4, .func (.func 38) #[] #[]), (18, .int .i64 ((md : Nat) : Int)), (24, .int .i64 ((md + m - j : Nat) : Int)), (213, .bool false)] ⟨rfl, rfl, rfl, rfl, rfl, rfl, trivial⟩ ?_
                refine c_no rfl ?_
                refine c_skip ?_
                refine q_end rfl ?_
                exact fin ⟨_, rfl, merge_parts hv hbd.1 hbd.2.1 hbd.2.2.1 hbd.2.2.2.1 (by omega) hbd.2.2.2.2 hs1 hs2 hlow2 hup2 hz (Sorts.refl (runs_skip hr3 hr4 (by omega) (by omega)))⟩ H

theorem symMerge_all : ∀ (N : Nat) (v : Value) (xs : List Pair) (a m b : Nat), b - a < N → a < m → m < b → b ≤ xs.length → xs.length ≤ 1000000 → SrtI xs a m → SrtI xs m b → Cn Tryz.prog 79 [v, .int .i64 ((a : Nat) : Int), .int .i64 ((m : Nat) : Int), .int .i64 ((b : Nat) : Int), .func (.func 38) #[] #[]] [osl kPair v xs] [] (fun _ Bs => ∃ ys, Bs = [osl kPair v ys] ∧ Sorts xs ys a b)
  | 0, _, _, _, _, _, h => absurd h (Nat.not_lt_zero _)
  | N + 1, v, xs, a, m, b, h => fun h1 h2 h3 h4 h5 h6 => symMerge_step N (symMerge_all N) v xs a m b h h1 h2 h3 h4 h5 h6

set_option maxHeartbeats 1000000 in
theorem stable_ok (v : Value) (xs : List Pair) (n : Nat) (hn : n = xs.length) (hb : xs.length ≤ 1000000) :
    Cn Tryz.prog 62 [v, .int .i64 ((n : Nat) : Int), .func (.func 38) #[] #[]] [osl kPair v xs] [] (fun _ Bs => ∃ ys, Bs = [osl kPair v ys] ∧ ys = srt xs) := by
  intro w0 F0 H
  obtain ⟨A1, c2, rfl, hc3, hm4, hp5⟩ := H.fA 0 rfl
  refine enter (args := [.slice A1 xs.length c2, .int .i64 ((n : Nat) : Int), .func (.func 38) #[] #[]]) Tryz.func62 rfl rfl (Nat.le_of_ble_eq_true rfl) ?_
  refine c_seq ?_
  refine c_reg ?_
  refine s_val rfl rfl (r_as rfl rfl) ?_
  refine s_nil ?_
  refine q_then ?_
  replace H : Hd _ _ _ [osl kPair (.slice A1 xs.length c2) xs] [] := H
  refine c_env [(0, .slice A1 xs.length c2), (1, .int .i64 ((n : Nat) : Int)), (2, .func (.func 38) #[] #[]), (6, .int .i64 20)] ⟨rfl, rfl, rfl, rfl, trivial⟩ ?_
  refine c_seq ?_
  refine c_reg ?_
  refine s_val rfl rfl (r_mv rfl rfl) ?_
  refine s_val rfl rfl (r_as rfl rfl) ?_
  refine s_val rfl rfl (r_as rfl rfl) ?_
  refine s_nil ?_
  refine q_then ?_
  refine c_env [(0, .slice A1 xs.length c2), (1, .int .i64 ((n : Nat) : Int)), (2, .func (.func 38) #[] #[]), (6, .int .i64 20), (7, .int .i64 0), (8, .int .i64 20)] ⟨rfl, rfl, rfl, rfl, rfl, rfl, trivial⟩ ?_
  refine c_seq ?_
  refine c_block ?_
  refine c_loop (σ := Nat × List Pair) (fun (a, ys) => [(0, .slice A1 xs.length c2), (1, .int .i64 ((n : Nat) : Int)), (2, .func (.func 38) #[] #[]), (6, .int .i64 20), (7, .int .i64 ((a : Nat) : Int)), (8, .int .i64 ((a + 20 : Nat) : Int))]) (fun (a, ys) w => (Hd w0 F0 w [osl kPair (.slice A1 xs.length c2) ys] []) ∧ (a % 20 = 0 ∧ a ≤ n ∧ ys.length = xs.length) ∧ (Stab xs ys) ∧ (BlkS ys 0 a 20)) (fun (a, ys) => n - a) (0, xs) ⟨rfl, rfl, rfl, rfl, rfl, rfl, trivial⟩ ⟨H, by (try dsimp only); omega, Stab.refl _, BlkS.nil _ _⟩ ?_
  rintro ⟨a, ys⟩ w ⟨H, ha, hst, hbl⟩
  refine c_seq ?_
  refine c_seq ?_
  refine c_reg ?_
  refine s_val rfl rfl (r_mv rfl rfl) ?_
  refine s_val rfl rfl (r_mv rfl rfl) ?_
  refine s_val rfl rfl (r_le rfl rfl rfl) ?_
  refine s_nil ?_
  refine q_then ?_
  refine c_env [(0, .slice A1 xs.length c2), (1, .int .i64 ((n : Nat) : Int)), (2, .func (.func 38) #[] #[]), (6, .int .i64 20), (7, .int .i64 ((a : Nat) : Int)), (8, .int .i64 ((a + 20 : Nat) : Int)), (13, .bool (decide (((a + 20 : Nat) : Int) ≤ ((n : Nat) : Int))))] ⟨rfl, rfl, rfl, rfl, rfl, rfl, rfl, trivial⟩ ?_
  refine c_dec (p := ((a + 20 : Nat) : Int) ≤ ((n : Nat) : Int)) rfl (fun h6 => ?_) (fun h6 => ?_)
  · skip
    refine c_skip ?_
    refine q_then ?_
    refine c_env [(0, .slice A1 xs.length c2), (1, .int .i64 ((n : Nat) : Int)), (2, .func (.func 38) #[] #[]), (6, .int .i64 20), (7, .int .i64 ((a : Nat) : Int)), (8, .int .i64 ((a + 20 : Nat) : Int))] ⟨rfl, rfl, rfl, rfl, rfl, rfl, trivial⟩ ?_
    refine c_block ?_
    refine c_seq ?_
    refine c_reg ?_
    refine s_val rfl rfl (r_mv rfl rfl) ?_
    refine s_val rfl rfl (r_mv rfl rfl) ?_
    refine s_val rfl rfl (r_mv rfl rfl) ?_
    refine s_val rfl rfl (r_mv rfl rfl) ?_
    refine sc (insSort_ok (.slice A1 xs.length c2) ys a (a + 20) (by omega) (by omega) (by omega)) H l0 rfl rfl (e_fn kn78 rfl rfl) ?_
    rintro _ _ w ⟨ys7, rfl, hv8⟩ H
    refine s_nil ?_
    refine q_then ?_
    replace H : Hd _ _ _ [osl kPair (.slice A1 xs.length c2) ys7] [] := H
    refine c_env [(0, .slice A1 xs.length c2), (1, .int .i64 ((n : Nat) : Int)), (2, .func (.func 38) #[] #[]), (6, .int .i64 20), (7, .int .i64 ((a : Nat) : Int)), (8, .int .i64 ((a + 20 : Nat) : Int))] ⟨rfl, rfl, rfl, rfl, rfl, rfl, trivial⟩ ?_
    refine c_seq ?_
    refine c_reg ?_
    refine s_val rfl rfl (r_mv rfl rfl) ?_
    refine s_val rfl rfl (r_as rfl rfl) ?_
    refine s_nil ?_
    refine q_then ?_
    refine c_env [(0, .slice A1 xs.length c2), (1, .int .i64 ((n : Nat) : Int)), (2, .func (.func 38) #[] #[]), (6, .int .i64 20), (7, .int .i64 ((a + 20 : Nat) : Int)), (8, .int .i64 ((a + 20 : Nat) : Int))] ⟨rfl, rfl, rfl, rfl, rfl, rfl, trivial⟩ ?_
    refine c_reg ?_
    refine s_val rfl rfl (r_mv rfl rfl) ?_
    refine s_val rfl rfl (r_mv rfl rfl) ?_
    refine s_val rfl rfl (r_add (z := ((a + 20 + 20 : Nat) : Int)) rfl rfl rfl (by rw [w64 (by omega) (by omega)]; omega)) ?_
    refine s_val rfl rfl (r_as rfl rfl) ?_
    refine s_nil ?_
    refine q_blockN ?_
    exact q_round (s := (a, ys)) (a + 20, ys7) ⟨rfl, rfl, rfl, rfl, rfl, rfl, trivial⟩ ⟨H, by (try dsimp only); rw [hv8.ins.1]; omega, hst.trans hv8.stab, hbl.more (c := a / 20) (by omega) (Nat.le_refl _) hv8.ins hv8.srt⟩ (by (try dsimp only); omega)
  · skip
    refine c_exit ?_
    refine q_thenE ?_
    refine q_thenE ?_
    refine q_blockE ?_
    refine q_then ?_
    refine c_env [(0, .slice A1 xs.length c2), (1, .int .i64 ((n : Nat) : Int)), (2, .func (.func 38) #[] #[]), (6, .int .i64 20), (7, .int .i64 ((a : Nat) : Int)), (8, .int .i64 ((a + 20 : Nat) : Int))] ⟨rfl, rfl, rfl, rfl, rfl, rfl, trivial⟩ ?_
    refine c_seq ?_
    refine c_reg ?_
    refine s_val rfl rfl (r_mv rfl rfl) ?_
    refine s_val rfl rfl (r_mv rfl rfl) ?_
    refine s_val rfl rfl (r_mv rfl rfl) ?_
    refine s_val rfl rfl (r_mv rfl rfl) ?_
    refine sc (insSort_ok (.slice A1 xs.length c2) ys a n (by omega) (by omega) (by omega)) H l0 rfl rfl (e_fn kn78 rfl rfl) ?_
    rintro _ _ w ⟨ys9, rfl, hv10⟩ H
    refine s_nil ?_
    refine q_then ?_
    replace H : Hd _ _ _ [osl kPair (.slice A1 xs.length c2) ys9] [] := H
    refine c_env [(0, .slice A1 xs.length c2), (1, .int .i64 ((n : Nat) : Int)), (2, .func (.func 38) #[] #[]), (6, .int .i64 20), (7, .int .i64 ((a : Nat) : Int)), (8, .int .i64 ((a + 20 : Nat) : Int))] ⟨rfl, rfl, rfl, rfl, rfl, rfl, trivial⟩ ?_
    refine c_block ?_
    refine c_loop (σ := Nat × List Pair) (fun (bs, ys) => [(0, .slice A1 xs.length c2), (1, .int .i64 ((n : Nat) : Int)), (2, .func (.func 38) #[] #[]), (6, .int .i64 ((bs : Nat) : Int))]) (fun (bs, ys) w => (Hd w0 F0 w [osl kPair (.slice A1 xs.length c2) ys] []) ∧ (20 ≤ bs ∧ bs ≤ 4000000 ∧ ys.length = xs.length) ∧ (Stab xs ys) ∧ (BlkS ys 0 n bs)) (fun (bs, ys) => n - bs) (20, ys9) ⟨rfl, rfl, rfl, rfl, trivial⟩ ⟨H, by (try dsimp only); rw [hv10.ins.1]; omega, hst.trans hv10.stab, hbl.more (c := a / 20) (by omega) (by omega) hv10.ins hv10.srt⟩ ?_
    rintro ⟨bs, ys⟩ w ⟨H, hbs, hst2, hbl2⟩
    refine c_seq ?_
    refine c_seq ?_
    refine c_reg ?_
    refine s_val rfl rfl (r_mv rfl rfl) ?_
    refine s_val rfl rfl (r_mv rfl rfl) ?_
    refine s_val rfl rfl (r_lt rfl rfl rfl) ?_
    refine s_nil ?_
    refine q_then ?_
    refine c_env [(0, .slice A1 xs.length c2), (1, .int .i64 ((n : Nat) : Int)), (2, .func (.func 38) #[] #[]), (6, .int .i64 ((bs : Nat) : Int)), (30, .bool (decide (((bs : Nat) : Int) < ((n : Nat) : Int))))] ⟨rfl, rfl, rfl, rfl, rfl, trivial⟩ ?_
    refine c_dec (p := ((bs : Nat) : Int) < ((n : Nat) : Int)) rfl (fun h11 => ?_) (fun h11 => ?_)
    · skip
      refine c_skip ?_
      refine q_then ?_
      refine c_env [(0, .slice A1 xs.length c2), (1, .int .i64 ((n : Nat) : Int)), (2, .func (.func 38) #[] #[]), (6, .int .i64 ((bs : Nat) : Int))] ⟨rfl, rfl, rfl, rfl, trivial⟩ ?_
      refine c_block ?_
      refine c_seq ?_
      refine c_reg ?_
      refine s_val rfl rfl (r_mv rfl rfl) ?_
      refine s_val rfl rfl (r_mul (z := ((2 * bs : Nat) : Int)) rfl rfl rfl (by rw [w64 (by omega) (by omega)]; omega)) ?_
      refine s_val rfl rfl (r_as rfl rfl) ?_
      refine s_val rfl rfl (r_as rfl rfl) ?_
      refine s_nil ?_
      refine q_then ?_
      refine c_env [(0, .slice A1 xs.length c2), (1, .int .i64 ((n : Nat) : Int)), (2, .func (.func 38) #[] #[]), (6, .int .i64 ((bs : Nat) : Int)), (7, .int .i64 0), (8, .int .i64 ((2 * bs : Nat) : Int))] ⟨rfl, rfl, rfl, rfl, rfl, rfl, trivial⟩ ?_
      refine c_seq ?_
      refine c_block ?_
      refine c_loop (σ := Nat × List Pair) (fun (a, zs) => [(0, .slice A1 xs.length c2), (1, .int .i64 ((n : Nat) : Int)), (2, .func (.func 38) #[] #[]), (6, .int .i64 ((bs : Nat) : Int)), (7, .int .i64 ((a : Nat) : Int)), (8, .int .i64 ((a + 2 * bs : Nat) : Int))]) (fun (a, zs) w => (Hd w0 F0 w [osl kPair (.slice A1 xs.length c2) zs] []) ∧ (a ≤ n ∧ zs.length = xs.length) ∧ (∃ c, a = c * (2 * bs)) ∧ (Stab xs zs) ∧ (BlkS zs 0 a (2 * bs)) ∧ (BlkS zs a n bs)) (fun (a, zs) => n - a) (0, ys) ⟨rfl, rfl, rfl, rfl, rfl, congrArg (fun z => some (Value.int .i64 z)) (by (try dsimp only); omega), trivial⟩ ⟨H, by (try dsimp only); omega, ⟨0, by simp⟩, hst2, BlkS.nil _ _, hbl2⟩ ?_
      rintro ⟨a, zs⟩ w ⟨H, ha3, hac, hst3, hlo, hhi⟩
      refine c_seq ?_
      refine c_seq ?_
      refine c_reg ?_
      refine s_val rfl rfl (r_mv rfl rfl) ?_
      refine s_val rfl rfl (r_mv rfl rfl) ?_
      refine s_val rfl rfl (r_le rfl rfl rfl) ?_
      refine s_nil ?_
      refine q_then ?_
      refine c_env [(0, .slice A1 xs.length c2), (1, .int .i64 ((n : Nat) : Int)), (2, .func (.func 38) #[] #[]), (6, .int .i64 ((bs : Nat) : Int)), (7, .int .i64 ((a : Nat) : Int)), (8, .int .i64 ((a + 2 * bs : Nat) : Int)), (35, .bool (decide (((a + 2 * bs : Nat) : Int) ≤ ((n : Nat) : Int))))] ⟨rfl, rfl, rfl, rfl, rfl, rfl, rfl, trivial⟩ ?_
      refine c_dec (p := ((a + 2 * bs : Nat) : Int) ≤ ((n : Nat) : Int)) rfl (fun h12 => ?_) (fun h12 => ?_)
      · skip
        refine c_skip ?_
        refine q_then ?_
        refine c_env [(0, .slice A1 xs.length c2), (1, .int .i64 ((n : Nat) : Int)), (2, .func (.func 38) #[] #[]), (6, .int .i64 ((bs : Nat) : Int)), (7, .int .i64 ((a : Nat) : Int)), (8, .int .i64 ((a + 2 * bs : Nat) : Int))] ⟨rfl, rfl, rfl, rfl, rfl, rfl, trivial⟩ ?_
        refine c_block ?_
        refine c_seq ?_
        refine c_reg ?_
        refine s_val rfl rfl (r_mv rfl rfl) ?_
        refine s_val rfl rfl (r_mv rfl rfl) ?_
        refine s_val rfl rfl (r_mv rfl rfl) ?_
        refine s_val rfl rfl (r_mv rfl rfl) ?_
        refine s_val rfl rfl (r_add (z := ((a + bs : Nat) : Int)) rfl rfl rfl (by rw [w64 (by omega) (by omega)]; omega)) ?_
        refine s_val rfl rfl (r_mv rfl rfl) ?_
        refine s_val rfl rfl (r_mv rfl rfl) ?_
        refine sc (symMerge_all (a + 2 * bs - a + 1) (.slice A1 xs.length c2) zs a (a + bs) (a + 2 * bs) (by omega) (by omega) (by omega) (by omega) (by omega) (blk_two hhi hac (by omega)).1 ((blk_two hhi hac (by omega)).2 _ (by omega) (by omega))) H l0 rfl rfl (e_fn kn79 rfl rfl) ?_
        rintro _ _ w ⟨ys13, rfl, hv14⟩ H
        refine s_nil ?_
        refine q_then ?_
        replace H : Hd _ _ _ [osl kPair (.slice A1 xs.length c2) ys13] [] := H
        refine c_env [(0, .slice A1 xs.length c2), (1, .int .i64 ((n : Nat) : Int)), (2, .func (.func 38) #[] #[]), (6, .int .i64 ((bs : Nat) : Int)), (7, .int .i64 ((a : Nat) : Int)), (8, .int .i64 ((a + 2 * bs : Nat) : Int))] ⟨rfl, rfl, rfl, rfl, rfl, rfl, trivial⟩ ?_
        refine c_seq ?_
        refine c_reg ?_
        refine s_val rfl rfl (r_mv rfl rfl) ?_
        refine s_val rfl rfl (r_as rfl rfl) ?_
        refine s_nil ?_
        refine q_then ?_
        refine c_env [(0, .slice A1 xs.length c2), (1, .int .i64 ((n : Nat) : Int)), (2, .func (.func 38) #[] #[]), (6, .int .i64 ((bs : Nat) : Int)), (7, .int .i64 ((a + 2 * bs : Nat) : Int)), (8, .int .i64 ((a + 2 * bs : Nat) : Int))] ⟨rfl, rfl, rfl, rfl, rfl, rfl, trivial⟩ ?_
        refine c_reg ?_
        refine s_val rfl rfl (r_mv rfl rfl) ?_
        refine s_val rfl rfl (r_mv rfl rfl) ?_
        refine s_val rfl rfl (r_mul (z := ((2 * bs : Nat) : Int)) rfl rfl rfl (by rw [w64 (by omega) (by omega)]; omega)) ?_
        refine s_val rfl rfl (r_add (z := ((a + 2 * bs + 2 * bs : Nat) : Int)) rfl rfl rfl (by rw [w64 (by omega) (by omega)]; omega)) ?_
        refine s_val rfl rfl (r_as rfl rfl) ?_
        refine s_nil ?_
        refine q_blockN ?_
        exact q_round (s := (a, zs)) (a + 2 * bs, ys13) ⟨rfl, rfl, rfl, rfl, rfl, rfl, trivial⟩ ⟨H, by (try dsimp only); rw [hv14.ins.1]; omega, mul_next hac, hst3.trans hv14.stab, blk_next hlo hac (Nat.le_refl _) hv14, hhi.same (by omega) (fun t ht => hv14.ins.2.1 t (by omega))⟩ (by (try dsimp only); omega)
      · skip
        refine c_exit ?_
        refine q_thenE ?_
        refine q_thenE ?_
        refine q_blockE ?_
        refine q_then ?_
        refine c_env [(0, .slice A1 xs.length c2), (1, .int .i64 ((n : Nat) : Int)), (2, .func (.func 38) #[] #[]), (6, .int .i64 ((bs : Nat) : Int)), (7, .int .i64 ((a : Nat) : Int))] ⟨rfl, rfl, rfl, rfl, rfl, trivial⟩ ?_
        refine c_seq ?_
        refine c_seq ?_
        refine c_reg ?_
        refine s_val rfl rfl (r_mv rfl rfl) ?_
        refine s_val rfl rfl (r_mv rfl rfl) ?_
        refine s_val rfl rfl (r_add (z := ((a + bs : Nat) : Int)) rfl rfl rfl (by rw [w64 (by omega) (by omega)]; omega)) ?_
        refine s_val rfl rfl (r_as rfl rfl) ?_
        refine s_nil ?_
        refine q_then ?_
        refine c_env [(0, .slice A1 xs.length c2), (1, .int .i64 ((n : Nat) : Int)), (2, .func (.func 38) #[] #[]), (6, .int .i64 ((bs : Nat) : Int)), (7, .int .i64 ((a : Nat) : Int)), (9, .int .i64 ((a + bs : Nat) : Int))] ⟨rfl, rfl, rfl, rfl, rfl, rfl, trivial⟩ ?_
        refine c_seq ?_
        refine c_reg ?_
        refine s_val rfl rfl (r_mv rfl rfl) ?_
        refine s_val rfl rfl (r_mv rfl rfl) ?_
        refine s_val rfl rfl (r_lt rfl rfl rfl) ?_
        refine s_nil ?_
        refine q_then ?_
        refine c_env [(0, .slice A1 xs.length c2), (1, .int .i64 ((n : Nat) : Int)), (2, .func (.func 38) #[] #[]), (6, .int .i64 ((bs : Nat) : Int)), (7, .int .i64 ((a : Nat) : Int)), (9, .int .i64 ((a + bs : Nat) : Int)), (54, .bool (decide (((a + bs : Nat) : Int) < ((n : Nat) : Int))))] ⟨rfl, rfl, rfl, rfl, rfl, rfl, rfl, trivial⟩ ?_
        refine c_dec (p := ((a + bs : Nat) : Int) < ((n : Nat) : Int)) rfl (fun h15 => ?_) (fun h15 => ?_)
        · skip
          refine c_reg ?_
          refine s_val rfl rfl (r_mv rfl rfl) ?_
          refine s_val rfl rfl (r_mv rfl rfl) ?_
          refine s_val rfl rfl (r_mv rfl rfl) ?_
          refine s_val rfl rfl (r_mv rfl rfl) ?_
          refine s_val rfl rfl (r_mv rfl rfl) ?_
          refine sc (symMerge_all (n - a + 1) (.slice A1 xs.length c2) zs a (a + bs) n (by omega) (by omega) (by omega) (by omega) (by omega) (blk_two hhi hac (by omega)).1 ((blk_two hhi hac (by omega)).2 _ (by omega) (by omega))) H l0 rfl rfl (e_fn kn79 rfl rfl) ?_
          rintro _ _ w ⟨ys16, rfl, hv17⟩ H
          refine s_nil ?_
          refine q_then ?_
          replace H : Hd _ _ _ [osl kPair (.slice A1 xs.length c2) ys16] [] := H
          refine c_env [(0, .slice A1 xs.length c2), (1, .int .i64 ((n : Nat) : Int)), (2, .func (.func 38) #[] #[]), (6, .int .i64 ((bs : Nat) : Int))] ⟨rfl, rfl, rfl, rfl, trivial⟩ ?_
          have hfin := blk_next hlo hac (by omega) hv17
          have hlen4 := hv17.ins.1
          refine c_reg ?_
          refine s_val rfl rfl (r_mv rfl rfl) ?_
          refine s_val rfl rfl (r_mul (z := ((bs * 2 : Nat) : Int)) rfl rfl rfl (by rw [w64 (by omega) (by omega)]; omega)) ?_
          refine s_val rfl rfl (r_as rfl rfl) ?_
          refine s_nil ?_
          refine q_blockN ?_
          exact q_round (s := (bs, ys)) (bs * 2, ys16) ⟨rfl, rfl, rfl, rfl, trivial⟩ ⟨H, by (try dsimp only); omega, hst3.trans hv17.stab, by (try dsimp only); rw [Nat.mul_comm bs 2]; exact hfin⟩ (by (try dsimp only); omega)
        · skip
          refine c_skip ?_
          refine q_then ?_
          refine c_env [(0, .slice A1 xs.length c2), (1, .int .i64 ((n : Nat) : Int)), (2, .func (.func 38) #[] #[]), (6, .int .i64 ((bs : Nat) : Int))] ⟨rfl, rfl, rfl, rfl, trivial⟩ ?_
          have hfin := blk_next hlo hac (by omega) (Sorts.refl (blk_rest hhi hac (by omega)))
          refine c_reg ?_
          refine s_val rfl rfl (r_mv rfl rfl) ?_
          refine s_val rfl rfl (r_mul (z := ((bs * 2 : Nat) : Int)) rfl rfl rfl (by rw [w64 (by omega) (by omega)]; omega)) ?_
          refine s_val rfl rfl (r_as rfl rfl) ?_
          refine s_nil ?_
          refine q_blockN ?_
          exact q_round (s := (bs, ys)) (bs * 2, zs) ⟨rfl, rfl, rfl, rfl, trivial⟩ ⟨H, by (try dsimp only); omega, hst3, by (try dsimp only); rw [Nat.mul_comm bs 2]; exact hfin⟩ (by (try dsimp only); omega)
    · skip
      refine c_exit ?_
      refine q_thenE ?_
      refine q_thenE ?_
      refine q_blockE ?_
      refine q_end rfl ?_
      exact fin ⟨_, rfl, srt_of hst2 (SrtI.ord (by rw [hbs.2.2, ← hn]; exact hbl2.all (by omega)))⟩ H

set_option maxHeartbeats 1000000 in
theorem sortStable_ok (v : Value) (xs : List Pair) (hb : xs.length ≤ 1000000) :
    Cn Tryz.prog 37 [v, .func (.func 38) #[] #[]] [osl kPair v xs] [] (fun _ Bs => ∃ ys, Bs = [osl kPair v ys] ∧ ys = srt xs) := by
  intro w0 F0 H
  obtain ⟨A1, c2, rfl, hc3, hm4, hp5⟩ := H.fA 0 rfl
  refine enter (args := [.slice A1 xs.length c2, .func (.func 38) #[] #[]]) Tryz.func37 rfl rfl (Nat.le_of_ble_eq_true rfl) ?_
  refine c_reg ?_
  refine s_val rfl rfl (r_mv rfl rfl) ?_
  refine s_val rfl rfl (r_mv rfl rfl) ?_
  refine s_val rfl rfl (r_lenL rfl un23 rfl) ?_
  refine s_val rfl rfl (r_mv rfl rfl) ?_
  replace H : Hd _ _ _ [osl kPair (.slice A1 xs.length c2) xs] [] := H
  refine sc (stable_ok (.slice A1 xs.length c2) xs xs.length (by omega) (by omega)) H l0 rfl rfl (e_fn kn62 rfl rfl) ?_
  rintro _ _ w ⟨ys6, rfl, hv7⟩ H
  refine s_nil ?_
  refine q_end rfl ?_
  exact fin ⟨_, rfl, hv7⟩ H

set_option maxHeartbeats 1000000 in
theorem clone_ok (vxs : Value) (xs : List Pair) (hb : xs.length ≤ 1000000) :
    Cn Tryz.prog 36 [vxs] [] [rsl kPair vxs xs] (fun v Bs => Bs = [osl kPair v xs]) := by
  intro w0 F0 H
  obtain ⟨A1, c2, rfl, hc3, hm4, hp5⟩ := H.fR 0 rfl
  refine enter (args := [.slice A1 xs.length c2]) Tryz.func36 rfl rfl (Nat.le_of_ble_eq_true rfl) ?_
  refine c_seq ?_
  refine c_reg ?_
  refine s_val rfl rfl (r_as rfl rfl) ?_
  refine s_nil ?_
  refine q_then ?_
  replace H : Hd _ _ _ [] [rsl kPair (.slice A1 xs.length c2) xs] := H
  refine c_env [(0, .slice A1 xs.length c2), (2, .slice none 0 0)] ⟨rfl, rfl, trivial⟩ ?_
  refine c_seq ?_
  refine c_seq ?_
  refine c_reg ?_
  refine s_val rfl rfl (r_mv rfl rfl) ?_
  refine s_val rfl rfl (r_seq0 rfl un23 rfl rfl) ?_
  refine s_nil ?_
  refine q_then ?_
  refine c_env [(0, .slice A1 xs.length c2), (2, .slice none 0 0), (4, .bool ((A1 : Option Addr).isNone))] ⟨rfl, rfl, rfl, trivial⟩ ?_
  refine c_cond (b := (A1 : Option Addr).isNone) rfl (fun h6 => ?_) (fun h6 => ?_)
  · skip
    refine c_seq ?_
    refine c_reg ?_
    refine s_val rfl rfl (r_as rfl rfl) ?_
    refine s_nil ?_
    refine q_then ?_
    refine c_env [(0, .slice A1 xs.length c2), (2, .slice none 0 0)] ⟨rfl, rfl, trivial⟩ ?_
    refine c_ret ?_
    refine q_thenR ?_
    refine q_ret1 rfl rfl ?_
    obtain rfl := H.nilR 0 rfl h6
    replace H := H.newnil kPair
    exact fin rfl H
  · skip
    refine c_skip ?_
    refine q_then ?_
    refine c_env [(0, .slice A1 xs.length c2), (2, .slice none 0 0)] ⟨rfl, rfl, trivial⟩ ?_
    refine c_seq ?_
    refine c_reg ?_
    refine s_bsl0 rfl rfl rfl sl23 H (fun b7 w H => ?_)
    refine s_val rfl rfl (r_mv rfl rfl) ?_
    replace H := H.newnilA kPair (some ⟨b7, 0, none⟩)
    refine s_appF (xs := []) (ys := xs) rfl rfl rfl sl23 zr56 rfl (by decide) rfl rfl H (by simp only [List.length_nil]; omega) (fun F hA hR => hR _ (List.mem_of_getElem? (i := 0) rfl)) (fun v8 w H => ?_)
    refine s_val rfl rfl (r_as rfl rfl) ?_
    refine s_nil ?_
    refine q_then ?_
    replace H : Hd _ _ _ [osl kPair v8 ([] ++ xs), blk b7 [] 56] [rsl kPair (.slice A1 xs.length c2) xs] := H
    refine c_env [(2, v8)] ⟨rfl, trivial⟩ ?_
    refine c_ret ?_
    refine q_ret1 rfl rfl ?_
    rw [List.nil_append] at H
    replace H := H.keep 1
    exact fin rfl H

set_option maxHeartbeats 1000000 in
theorem pairSort_ok (vxs : Value) (xs : List Pair) (hb : xs.length ≤ 1000000) :
    Cn Tryz.prog 15 [vxs] [] [rsl kPair vxs xs] (fun v Bs => Bs = [osl kPair v (srt xs)]) := by
  intro w0 F0 H
  obtain ⟨A1, c2, rfl, hc3, hm4, hp5⟩ := H.fR 0 rfl
  refine enter (args := [.slice A1 xs.length c2]) Tryz.func15 rfl rfl (Nat.le_of_ble_eq_true rfl) ?_
  refine c_seq ?_
  refine c_reg ?_
  refine s_val rfl rfl (r_as rfl rfl) ?_
  refine s_nil ?_
  refine q_then ?_
  replace H : Hd _ _ _ [] [rsl kPair (.slice A1 xs.length c2) xs] := H
  refine c_env [(0, .slice A1 xs.length c2), (2, .slice none 0 0)] ⟨rfl, rfl, trivial⟩ ?_
  refine c_seq ?_
  refine c_reg ?_
  refine s_val rfl rfl (r_mv rfl rfl) ?_
  refine sc (clone_ok (.slice A1 xs.length c2) xs (by first | omega | decide)) H (lR 0 rfl l0) rfl rfl (e_fn kn36 rfl rfl) ?_
  rintro v6 _ w rfl H
  refine s_val rfl rfl (r_as rfl rfl) ?_
  refine s_nil ?_
  refine q_then ?_
  replace H : Hd _ _ _ [osl kPair v6 xs] [rsl kPair (.slice A1 xs.length c2) xs] := H
  refine c_env [(2, .slice none 0 0), (3, v6)] ⟨rfl, rfl, trivial⟩ ?_
  refine c_seq ?_
  refine c_reg ?_
  refine s_val rfl rfl (r_mv rfl rfl) ?_
  refine sc (sortStable_ok v6 xs  (by omega)) H l0 rfl rfl (e_fn kn37 rfl rfl) ?_
  rintro _ _ w ⟨ys7, rfl, hv8⟩ H
  refine s_nil ?_
  refine q_then ?_
  replace H : Hd _ _ _ [osl kPair v6 ys7] [rsl kPair (.slice A1 xs.length c2) xs] := H
  refine c_env [(2, .slice none 0 0), (3, v6)] ⟨rfl, rfl, trivial⟩ ?_
  refine c_seq ?_
  refine c_reg ?_
  refine s_val rfl rfl (r_mv rfl rfl) ?_
  refine s_val rfl rfl (r_as rfl rfl) ?_
  refine s_nil ?_
  refine q_then ?_
  refine c_env [(2, v6)] ⟨rfl, trivial⟩ ?_
  refine c_ret ?_
  refine q_ret1 rfl rfl ?_
  subst hv8
  exact fin rfl H

set_option maxHeartbeats 1000000 in
theorem isSorted_ok (v : Value) (xs : List Pair) (hb : xs.length ≤ 1000000) :
    Cn Tryz.prog 50 [v, .func (.func 38) #[] #[]] [] [rsl kPair v xs] (fun v Bs => v = .bool (decide (Ord xs)) ∧ Bs = []) := by
  intro w0 F0 H
  obtain ⟨A1, c2, rfl, hc3, hm4, hp5⟩ := H.fR 0 rfl
  refine enter (args := [.slice A1 xs.length c2, .func (.func 38) #[] #[]]) Tryz.func50 rfl rfl (Nat.le_of_ble_eq_true rfl) ?_
  refine c_seq ?_
  refine c_reg ?_
  refine s_val rfl rfl (r_as rfl rfl) ?_
  refine s_nil ?_
  refine q_then ?_
  replace H : Hd _ _ _ [] [rsl kPair (.slice A1 xs.length c2) xs] := H
  refine c_env [(0, .slice A1 xs.length c2), (1, .func (.func 38) #[] #[]), (4, .bool false)] ⟨rfl, rfl, rfl, trivial⟩ ?_
  refine c_seq ?_
  refine c_seq ?_
  by_cases h0 : xs.length = 0
  · skip
    refine c_reg ?_
    refine s_val rfl rfl (r_mv rfl rfl) ?_
    refine s_val rfl rfl (r_lenL rfl un23 rfl) ?_
    refine s_val rfl rfl (r_sub (z := ((xs.length : Nat) : Int) - 1) rfl rfl rfl (w64 (by omega) (by omega))) ?_
    refine s_val rfl rfl (r_as rfl rfl) ?_
    refine s_nil ?_
    refine q_then ?_
    refine c_env [(0, .slice A1 xs.length c2), (1, .func (.func 38) #[] #[]), (4, .bool false), (5, .int .i64 (((xs.length : Nat) : Int) - 1))] ⟨rfl, rfl, rfl, rfl, trivial⟩ ?_
    refine c_block ?_
    refine c_loop (σ := Unit) (fun u => [(0, .slice A1 xs.length c2), (1, .func (.func 38) #[] #[]), (5, .int .i64 (((xs.length : Nat) : Int) - 1))]) (fun u w => (Hd w0 F0 w [] [rsl kPair (.slice A1 xs.length c2) xs])) (fun u => 0) () ⟨rfl, rfl, rfl, trivial⟩ H ?_
    rintro u w H
    refine c_seq ?_
    refine c_seq ?_
    refine c_reg ?_
    refine s_val rfl rfl (r_mv rfl rfl) ?_
    refine s_val rfl rfl (r_gt rfl rfl rfl) ?_
    refine s_nil ?_
    refine q_then ?_
    refine c_env [(0, .slice A1 xs.length c2), (1, .func (.func 38) #[] #[]), (5, .int .i64 (((xs.length : Nat) : Int) - 1)), (10, .bool (decide ((0 : Int) < (((xs.length : Nat) : Int) - 1))))] ⟨rfl, rfl, rfl, rfl, trivial⟩ ?_
    refine c_dec (p := (0 : Int) < (((xs.length : Nat) : Int) - 1)) rfl (fun h6 => ?_) (fun h6 => ?_)
    · exfalso; omega
    · skip
      refine c_exit ?_
      refine q_thenE ?_
      refine q_thenE ?_
      refine q_blockE ?_
      refine q_then ?_
      refine c_env [] trivial ?_
      refine c_seq ?_
      refine c_reg ?_
      refine s_val rfl rfl (r_as rfl rfl) ?_
      refine s_nil ?_
      refine q_then ?_
      refine c_env [(4, .bool true)] ⟨rfl, trivial⟩ ?_
      refine c_ret ?_
      refine q_ret1 rfl rfl ?_
      have ho : Ord xs := by rw [List.eq_nil_of_length_eq_zero h0]; exact List.Pairwise.nil
      exact fin ⟨by rw [decide_eq_true ho], rfl⟩ H
  · skip
    refine c_reg ?_
    refine s_val rfl rfl (r_mv rfl rfl) ?_
    refine s_val rfl rfl (r_lenL rfl un23 rfl) ?_
    refine s_val rfl rfl (r_sub (z := ((xs.length - 1 : Nat) : Int)) rfl rfl rfl (by rw [w64 (by omega) (by omega)]; omega)) ?_
    refine s_val rfl rfl (r_as rfl rfl) ?_
    refine s_nil ?_
    refine q_then ?_
    refine c_env [(0, .slice A1 xs.length c2), (1, .func (.func 38) #[] #[]), (4, .bool false), (5, .int .i64 ((xs.length - 1 : Nat) : Int))] ⟨rfl, rfl, rfl, rfl, trivial⟩ ?_
    refine c_block ?_
    refine c_loop (σ := Nat) (fun j => [(0, .slice A1 xs.length c2), (1, .func (.func 38) #[] #[]), (5, .int .i64 ((j : Nat) : Int))]) (fun j w => (Hd w0 F0 w [] [rsl kPair (.slice A1 xs.length c2) xs]) ∧ (j < xs.length) ∧ (AdjI xs j)) (fun j => j) (xs.length - 1) ⟨rfl, rfl, rfl, trivial⟩ ⟨H, by (try dsimp only); omega, adj_end xs⟩ ?_
    rintro j w ⟨H, hj, had⟩
    refine c_seq ?_
    refine c_seq ?_
    refine c_reg ?_
    refine s_val rfl rfl (r_mv rfl rfl) ?_
    refine s_val rfl rfl (r_gt rfl rfl rfl) ?_
    refine s_nil ?_
    refine q_then ?_
    refine c_env [(0, .slice A1 xs.length c2), (1, .func (.func 38) #[] #[]), (5, .int .i64 ((j : Nat) : Int)), (10, .bool (decide ((0 : Int) < ((j : Nat) : Int))))] ⟨rfl, rfl, rfl, rfl, trivial⟩ ?_
    refine c_dec (p := (0 : Int) < ((j : Nat) : Int)) rfl (fun h7 => ?_) (fun h7 => ?_)
    · skip
      refine c_skip ?_
      refine q_then ?_
      refine c_env [(0, .slice A1 xs.length c2), (1, .func (.func 38) #[] #[]), (5, .int .i64 ((j : Nat) : Int))] ⟨rfl, rfl, rfl, trivial⟩ ?_
      refine c_seq ?_
      refine c_block ?_
      refine c_seq ?_
      refine c_ord (.e 0 (.e 1 (.e 2 (.e 3 (.e 4 (.e 5 (.e 6 (.e 7 (.e 8 (.e 9 (.m 10 (.e 11 .z)))))))))))) (fun w => ∃ Ar, Hd w0 F0 w (Ar) [rsl kPair (.slice A1 xs.length c2) xs]) mo (by kernel_rfl) (fun w H => ⟨_, H⟩) H (fun w H => ?_)
      refine d_val rfl rfl rfl (fun w ⟨Ar, H⟩ => r_mv rfl rfl) ?_
      refine d_val rfl rfl rfl (fun w ⟨Ar, H⟩ => r_mv rfl rfl) ?_
      refine d_val rfl rfl rfl (fun w ⟨Ar, H⟩ => r_mv rfl rfl) ?_
      obtain ⟨x8, hx9⟩ : ∃ z9, xs[j]? = some z9 := ⟨_, List.getElem?_eq_getElem (show j < xs.length by omega)⟩
      have th10 := H.thR 0 rfl hx9
      refine d_val rfl rfl rfl (fun w ⟨Ar, H⟩ => r_iaE (p := oOf A1 + j * 2) rfl sl23 rfl rfl (by omega) (by omega) th10 rfl) ?_
      refine d_val rfl rfl rfl (fun w ⟨Ar, H⟩ => r_ldA (cs := [.string x8.key, .string x8.val]) rfl ty56 rfl rfl (H.elsR 0 rfl hx9 rfl)) ?_
      refine d_val rfl rfl rfl (fun w ⟨Ar, H⟩ => r_mv rfl rfl) ?_
      refine d_val rfl rfl rfl (fun w ⟨Ar, H⟩ => r_mv rfl rfl) ?_
      refine d_val rfl rfl rfl (fun w ⟨Ar, H⟩ => r_sub (z := ((j - 1 : Nat) : Int)) rfl rfl rfl (by rw [w64 (by omega) (by omega)]; omega)) ?_
      obtain ⟨x11, hx12⟩ : ∃ z9, xs[j - 1]? = some z9 := ⟨_, List.getElem?_eq_getElem (show j - 1 < xs.length by omega)⟩
      have th13 := H.thR 0 rfl hx12
      refine d_val rfl rfl rfl (fun w ⟨Ar, H⟩ => r_iaE (p := oOf A1 + (j - 1) * 2) rfl sl23 rfl rfl (by omega) (by omega) th13 rfl) ?_
      refine d_val rfl rfl rfl (fun w ⟨Ar, H⟩ => r_ldA (cs := [.string x11.key, .string x11.val]) rfl ty56 rfl rfl (H.elsR 0 rfl hx12 rfl)) ?_
      refine d_main rfl ?_
      refine sc (order_ok x8 x11) H l0 rfl rfl (e_val (vs := [.agg #[.string x8.key, .string x8.val], .agg #[.string x11.key, .string x11.val]]) (fs := #[]) (cs := #[]) kn38 rfl rfl rfl) ?_
      rintro _ _ w ⟨rfl, rfl⟩ H
      refine d_back ⟨_, H⟩ ?_
      refine d_val rfl rfl rfl (fun w ⟨Ar, H⟩ => r_lt rfl rfl rfl) ?_
      refine d_nil ?_
      refine q_then ?_
      refine c_env [(0, .slice A1 xs.length c2), (1, .func (.func 38) #[] #[]), (5, .int .i64 ((j : Nat) : Int)), (24, .bool (decide ((cmpK x8.key x11.key) < 0)))] ⟨rfl, rfl, rfl, rfl, trivial⟩ ?_
      refine c_dec (p := (cmpK x8.key x11.key) < 0) rfl (fun h14 => ?_) (fun h14 => ?_)
      · skip
        refine c_seq ?_
        refine c_reg ?_
        refine s_val rfl rfl (r_as rfl rfl) ?_
        refine s_nil ?_
        refine q_then ?_
        refine c_env [(0, .slice A1 xs.length c2), (1, .func (.func 38) #[] #[]), (4, .bool false), (5, .int .i64 ((j : Nat) : Int))] ⟨rfl, rfl, rfl, rfl, trivial⟩ ?_
        refine c_ret ?_
        refine q_blockR ?_
        refine q_thenR ?_
        refine q_thenR ?_
        refine q_blockR ?_
        refine q_thenR ?_
        refine q_ret1 rfl rfl ?_
        have ho : ¬ Ord xs := fun ho => by have := ord_adj ho (by omega) hx9 hx12; rw [cmpK_neg.1 h14] at this; cases this
        exact fin ⟨by rw [decide_eq_false ho], rfl⟩ H
      · skip
        refine c_skip ?_
        refine q_blockN ?_
        refine q_then ?_
        refine c_env [(0, .slice A1 xs.length c2), (1, .func (.func 38) #[] #[]), (5, .int .i64 ((j : Nat) : Int))] ⟨rfl, rfl, rfl, trivial⟩ ?_
        refine c_reg ?_
        refine s_val rfl rfl (r_mv rfl rfl) ?_
        refine s_val rfl rfl (r_sub (z := ((j - 1 : Nat) : Int)) rfl rfl rfl (by rw [w64 (by omega) (by omega)]; omega)) ?_
        refine s_val rfl rfl (r_as rfl rfl) ?_
        refine s_nil ?_
        exact q_round (s := j) (j - 1) ⟨rfl, rfl, rfl, trivial⟩ ⟨H, by (try dsimp only); omega, adj_more had (by omega) hx9 hx12 (cmpK_nneg h14)⟩ (by (try dsimp only); omega)
    · skip
      refine c_exit ?_
      refine q_thenE ?_
      refine q_thenE ?_
      refine q_blockE ?_
      refine q_then ?_
      refine c_env [] trivial ?_
      refine c_seq ?_
      refine c_reg ?_
      refine s_val rfl rfl (r_as rfl rfl) ?_
      refine s_nil ?_
      refine q_then ?_
      refine c_env [(4, .bool true)] ⟨rfl, trivial⟩ ?_
      refine c_ret ?_
      refine q_ret1 rfl rfl ?_
      have ho : Ord xs := adj_ord ((by omega : j = 0) ▸ had)
      exact fin ⟨by rw [decide_eq_true ho], rfl⟩ H

set_option maxHeartbeats 1000000 in
theorem sorted_ok (vxs : Value) (xs : List Pair) (hb : xs.length ≤ 1000000) :
    Cn Tryz.prog 27 [vxs] [] [rsl kPair vxs xs] (fun v Bs => v = .bool (decide (Ord xs)) ∧ Bs = []) := by
  intro w0 F0 H
  obtain ⟨A1, c2, rfl, hc3, hm4, hp5⟩ := H.fR 0 rfl
  refine enter (args := [.slice A1 xs.length c2]) Tryz.func27 rfl rfl (Nat.le_of_ble_eq_true rfl) ?_
  refine c_seq ?_
  refine c_reg ?_
  refine s_val rfl rfl (r_as rfl rfl) ?_
  refine s_nil ?_
  refine q_then ?_
  replace H : Hd _ _ _ [] [rsl kPair (.slice A1 xs.length c2) xs] := H
  refine c_env [(0, .slice A1 xs.length c2), (2, .bool false)] ⟨rfl, rfl, trivial⟩ ?_
  refine c_seq ?_
  refine c_reg ?_
  refine s_val rfl rfl (r_mv rfl rfl) ?_
  refine sc (isSorted_ok (.slice A1 xs.length c2) xs (by omega)) H (lR 0 rfl l0) rfl rfl (e_fn kn50 rfl rfl) ?_
  rintro _ _ w ⟨rfl, rfl⟩ H
  refine s_val rfl rfl (r_as rfl rfl) ?_
  refine s_nil ?_
  refine q_then ?_
  refine c_env [(2, .bool (decide (Ord xs)))] ⟨rfl, trivial⟩ ?_
  refine c_ret ?_
  refine q_ret1 rfl rfl ?_
  exact fin ⟨rfl, rfl⟩ H

theorem sortStr_ok (v : Value) (xs : List ByteArray) (hb : xs.length ≤ 1000000) : Cn Tryz.prog 69 [v] [osl kStr v xs] [] (fun _ Bs => Bs = [osl kStr v (sortS xs)]) :=
  cn_sort (e1 := Value.string) (s := sortS) (fun xs => by simp [sortS]) (by simp [sortS]) (fun p c w => Go.Proofs.Tryz.slices_Sort_string_none p c w) (fun b c xs w hH hbl hl => by
    have h := Go.Proofs.Tryz.slices_Sort_string b 0 c (xs.map ofS) w (holdsS hH) hbl (by simp; omega)
    rw [List.length_map] at h
    refine h.mono ?_
    rintro e w' ⟨h1, n, os, h2⟩
    exact ⟨h1, n, os, by rw [h2, putS]; rfl⟩) v xs hb

theorem compStr_ok (v : Value) (xs : List ByteArray) (hb : xs.length ≤ 1000000) : Cn Tryz.prog 70 [v] [osl kStr v xs] [] (fun u Bs => Bs = [osl kStr u (compS xs)]) :=
  cn_compact (e1 := Value.string) (s := compS) (z := toS []) (fun xs => by have := compact_le (xs.map ofS); simpa [compS] using this) rfl (fun p c w => Go.Proofs.Tryz.slices_Compact_string_empty p c w) (fun b c xs w hH hl hc => by
    have h := Go.Proofs.Tryz.slices_Compact_string b 0 c (xs.map ofS) w (holdsS hH) (by simp; omega) (by simpa using hc)
    rw [List.length_map] at h
    refine h.mono ?_
    rintro e w' ⟨h1, n, h2⟩
    exact ⟨by rw [h1]; simp [compS], n, by rw [h2, putS]; simp [compS]⟩) v xs hb

end Go.Proofs.YtlpgdkbokakniaaGreatDoor.X

set_option linter.unusedVariables false
set_option linter.unusedSimpArgs false
namespace Go.Proofs.YtlpgdkbokakniaaGreatDoor.X
open Go
set_option maxHeartbeats 1000000 in
theorem samePairs_ok (v1 v2 : Value) (xs ys : List Pair) :
    Cn Tryz.prog 19 [v1, v2] [] [rsl kPair v1 xs, rsl kPair v2 ys] (fun v Bs => v = .bool (decide (xs = ys)) ∧ Bs = []) := by
  intro w0 F0 H
  obtain ⟨A1, c2, rfl, hc3, hm4, hp5⟩ := H.fR 0 rfl
  obtain ⟨A6, c7, rfl, hc8, hm9, hp10⟩ := H.fR 1 rfl
  refine enter (args := [.slice A1 xs.length c2, .slice A6 ys.length c7]) Tryz.func19 rfl rfl (Nat.le_of_ble_eq_true rfl) ?_
  refine c_seq ?_
  refine c_reg ?_
  refine s_val rfl rfl (r_as rfl rfl) ?_
  refine s_nil ?_
  refine q_then ?_
  replace H : Hd _ _ _ [] [rsl kPair (.slice A1 xs.length c2) xs, rsl kPair (.slice A6 ys.length c7) ys] := H
  refine c_env [(0, .slice A1 xs.length c2), (1, .slice A6 ys.length c7), (4, .bool false)] ⟨rfl, rfl, rfl, trivial⟩ ?_
  refine c_seq ?_
  refine c_seq ?_
  refine c_reg ?_
  refine s_val rfl rfl (r_mv rfl rfl) ?_
  refine s_val rfl rfl (r_lenL rfl un23 rfl) ?_
  refine s_val rfl rfl (r_mv rfl rfl) ?_
  refine s_val rfl rfl (r_lenL rfl un23 rfl) ?_
  refine s_val rfl rfl (r_ne rfl rfl rfl) ?_
  refine s_nil ?_
  refine q_then ?_
  refine c_env [(0, .slice A1 xs.length c2), (1, .slice A6 ys.length c7), (4, .bool false), (10, .bool (decide (((xs.length : Nat) : Int) ≠ ((ys.length : Nat) : Int))))] ⟨rfl, rfl, rfl, rfl, trivial⟩ ?_
  refine c_dec (p := ((xs.length : Nat) : Int) ≠ ((ys.length : Nat) : Int)) rfl (fun h11 => ?_) (fun h11 => ?_)
  · skip
    refine c_seq ?_
    refine c_reg ?_
    refine s_val rfl rfl (r_as rfl rfl) ?_
    refine s_nil ?_
    refine q_then ?_
    refine c_env [(0, .slice A1 xs.length c2), (1, .slice A6 ys.length c7), (4, .bool false)] ⟨rfl, rfl, rfl, trivial⟩ ?_
    refine c_ret ?_
    refine q_thenR ?_
    refine q_ret1 rfl rfl ?_
    have e : ¬ xs = ys := fun e => h11 (by rw [e])
    exact fin ⟨by rw [decide_eq_false e], rfl⟩ H
  · skip
    refine c_skip ?_
    refine q_then ?_
    refine c_env [(0, .slice A1 xs.length c2), (1, .slice A6 ys.length c7), (4, .bool false)] ⟨rfl, rfl, rfl, trivial⟩ ?_
    refine c_seq ?_
    refine c_seq ?_
    refine c_reg ?_
    refine s_val rfl rfl (r_as rfl rfl) ?_
    refine s_nil ?_
    refine q_then ?_
    refine c_env [(0, .slice A1 xs.length c2), (1, .slice A6 ys.length c7), (4, .bool false), (5, .int .i64 0)] ⟨rfl, rfl, rfl, rfl, trivial⟩ ?_
    refine c_block ?_
    have hle : xs.length = ys.length := by omega
    refine c_loop (σ := Nat) (fun k => [(0, .slice A1 xs.length c2), (1, .slice A6 ys.length c7), (5, .int .i64 ((k : Nat) : Int))]) (fun k w => (Hd w0 F0 w [] [rsl kPair (.slice A1 xs.length c2) xs, rsl kPair (.slice A6 ys.length c7) ys]) ∧ (k ≤ xs.length) ∧ (xs.length = ys.length) ∧ (xs.take k = ys.take k)) (fun k => xs.length - k) 0 ⟨rfl, rfl, rfl, trivial⟩ ⟨H, by omega, hle, rfl⟩ ?_
    rintro k w ⟨H, hk, hle, ht⟩
    refine c_seq ?_
    refine c_seq ?_
    refine c_reg ?_
    refine s_val rfl rfl (r_mv rfl rfl) ?_
    refine s_val rfl rfl (r_mv rfl rfl) ?_
    refine s_val rfl rfl (r_lenL rfl un23 rfl) ?_
    refine s_val rfl rfl (r_lt rfl rfl rfl) ?_
    refine s_nil ?_
    refine q_then ?_
    refine c_env [(0, .slice A1 xs.length c2), (1, .slice A6 ys.length c7), (5, .int .i64 ((k : Nat) : Int)), (14, .bool (decide (((k : Nat) : Int) < ((xs.length : Nat) : Int))))] ⟨rfl, rfl, rfl, rfl, trivial⟩ ?_
    refine c_dec (p := ((k : Nat) : Int) < ((xs.length : Nat) : Int)) rfl (fun h12 => ?_) (fun h12 => ?_)
    · skip
      refine c_skip ?_
      refine q_then ?_
      refine c_env [(0, .slice A1 xs.length c2), (1, .slice A6 ys.length c7), (5, .int .i64 ((k : Nat) : Int))] ⟨rfl, rfl, rfl, trivial⟩ ?_
      refine c_seq ?_
      refine c_block ?_
      refine c_seq ?_
      refine c_draw mo (by kernel_rfl) H ?_
      refine u_val rfl rfl (fun w H => r_mv rfl rfl) ?_
      refine u_val rfl rfl (fun w H => r_mv rfl rfl) ?_
      obtain ⟨x13, hx14⟩ : ∃ z9, xs[k]? = some z9 := ⟨_, List.getElem?_eq_getElem (show k < xs.length by omega)⟩
      have th15 := H.thR 0 rfl hx14
      refine u_val rfl rfl (fun w H => r_iaE (p := oOf A1 + k * 2) rfl sl23 rfl rfl (by omega) (by omega) th15 rfl) ?_
      refine u_val rfl rfl (fun w H => r_ldA (cs := [.string x13.key, .string x13.val]) rfl ty56 rfl rfl (H.elsR 0 rfl hx14 rfl)) ?_
      refine u_val rfl rfl (fun w H => r_mv rfl rfl) ?_
      refine u_val rfl rfl (fun w H => r_mv rfl rfl) ?_
      obtain ⟨x16, hx17⟩ : ∃ z9, ys[k]? = some z9 := ⟨_, List.getElem?_eq_getElem (show k < ys.length by omega)⟩
      have th18 := H.thR 1 rfl hx17
      refine u_val rfl rfl (fun w H => r_iaE (p := oOf A6 + k * 2) rfl sl23 rfl rfl (by omega) (by omega) th18 rfl) ?_
      refine u_val rfl rfl (fun w H => r_ldA (cs := [.string x16.key, .string x16.val]) rfl ty56 rfl rfl (H.elsR 1 rfl hx17 rfl)) ?_
      refine u_val rfl rfl (fun w H => r_nePair (p := x13) (q := x16) rfl eqz56 rfl rfl) ?_
      refine u_end (fun w H => ?_)
      refine q_then ?_
      refine c_env [(0, .slice A1 xs.length c2), (1, .slice A6 ys.length c7), (5, .int .i64 ((k : Nat) : Int)), (25, .bool (decide (x13 ≠ x16)))] ⟨rfl, rfl, rfl, rfl, trivial⟩ ?_
      refine c_dec (p := x13 ≠ x16) rfl (fun h19 => ?_) (fun h19 => ?_)
      · skip
        refine c_seq ?_
        refine c_reg ?_
        refine s_val rfl rfl (r_as rfl rfl) ?_
        refine s_nil ?_
        refine q_then ?_
        refine c_env [(0, .slice A1 xs.length c2), (1, .slice A6 ys.length c7), (4, .bool false), (5, .int .i64 ((k : Nat) : Int))] ⟨rfl, rfl, rfl, rfl, trivial⟩ ?_
        refine c_ret ?_
        refine q_blockR ?_
        refine q_thenR ?_
        refine q_thenR ?_
        refine q_blockR ?_
        refine q_thenR ?_
        refine q_ret1 rfl rfl ?_
        have e : ¬ xs = ys := fun e => h19 (by rw [e, hx17] at hx14; exact (Option.some.inj hx14).symm)
        exact fin ⟨by rw [decide_eq_false e], rfl⟩ H
      · skip
        refine c_skip ?_
        refine q_blockN ?_
        refine q_then ?_
        refine c_env [(0, .slice A1 xs.length c2), (1, .slice A6 ys.length c7), (5, .int .i64 ((k : Nat) : Int))] ⟨rfl, rfl, rfl, trivial⟩ ?_
        refine c_reg ?_
        refine s_val rfl rfl (r_mv rfl rfl) ?_
        refine s_val rfl rfl (r_add (z := ((k + 1 : Nat) : Int)) rfl rfl rfl (by rw [w64 (by omega) (by omega)]; omega)) ?_
        refine s_val rfl rfl (r_as rfl rfl) ?_
        refine s_nil ?_
        have e : x13 = x16 := Classical.not_not.1 h19
        subst e
        exact q_round (s := k) (k + 1) ⟨rfl, rfl, rfl, trivial⟩ ⟨H, by omega, hle, take_more hx14 hx17 ht⟩ (by (try dsimp only); omega)
    · skip
      refine c_exit ?_
      refine q_thenE ?_
      refine q_thenE ?_
      refine q_blockE ?_
      refine q_then ?_
      refine c_env [] trivial ?_
      refine c_seq ?_
      refine c_reg ?_
      refine s_val rfl rfl (r_as rfl rfl) ?_
      refine s_nil ?_
      refine q_then ?_
      refine c_env [(4, .bool true)] ⟨rfl, trivial⟩ ?_
      refine c_ret ?_
      refine q_ret1 rfl rfl ?_
      have e : xs = ys := by rw [← take_all (xs := xs) (k := k) (by omega), ← take_all (xs := ys) (k := k) (by omega)]; exact ht
      exact fin ⟨by rw [decide_eq_true e], rfl⟩ H

set_option maxHeartbeats 1000000 in
theorem greatPairs_ok (vxs : Value) (xs : List Pair) (n : Int) :
    Cn Tryz.prog 14 [vxs, .int .i64 n] [] [rsl kPair vxs xs] (fun v Bs => v = .bool (greatP xs n) ∧ Bs = []) := by
  intro w0 F0 H
  obtain ⟨A1, c2, rfl, hc3, hm4, hp5⟩ := H.fR 0 rfl
  refine enter (args := [.slice A1 xs.length c2, .int .i64 n]) Tryz.func14 rfl rfl (Nat.le_of_ble_eq_true rfl) ?_
  refine c_seq ?_
  refine c_reg ?_
  refine s_val rfl rfl (r_as rfl rfl) ?_
  refine s_nil ?_
  refine q_then ?_
  replace H : Hd _ _ _ [] [rsl kPair (.slice A1 xs.length c2) xs] := H
  refine c_env [(0, .slice A1 xs.length c2), (1, .int .i64 n), (4, .bool false)] ⟨rfl, rfl, rfl, trivial⟩ ?_
  refine c_seq ?_
  refine c_seq ?_
  refine c_reg ?_
  refine s_val rfl rfl (r_as rfl rfl) ?_
  refine s_nil ?_
  refine q_then ?_
  refine c_env [(0, .slice A1 xs.length c2), (1, .int .i64 n), (4, .bool false), (5, .int .i64 0)] ⟨rfl, rfl, rfl, rfl, trivial⟩ ?_
  refine c_block ?_
  refine c_loop (σ := Nat) (fun k => [(0, .slice A1 xs.length c2), (1, .int .i64 n), (5, .int .i64 ((k : Nat) : Int))]) (fun k w => (Hd w0 F0 w [] [rsl kPair (.slice A1 xs.length c2) xs]) ∧ (k ≤ xs.length) ∧ (∀ y ∈ xs.take k, y.key.size ≤ 100 ∧ y.val.size ≤ 100)) (fun k => xs.length - k) 0 ⟨rfl, rfl, rfl, trivial⟩ ⟨H, by omega, by simp⟩ ?_
  rintro k w ⟨H, hk, hn⟩
  refine c_seq ?_
  refine c_seq ?_
  refine c_reg ?_
  refine s_val rfl rfl (r_mv rfl rfl) ?_
  refine s_val rfl rfl (r_mv rfl rfl) ?_
  refine s_val rfl rfl (r_lenL rfl un23 rfl) ?_
  refine s_val rfl rfl (r_lt rfl rfl rfl) ?_
  refine s_val rfl rfl (r_mv rfl rfl) ?_
  refine s_dec (d := 10) (p := ((k : Nat) : Int) < ((xs.length : Nat) : Int)) rfl (fun h6 => ?_) (fun h6 => ?_)
  · skip
    refine s_val rfl rfl (r_mv rfl rfl) ?_
    refine s_val rfl rfl (r_lenL rfl un23 rfl) ?_
    refine s_val rfl rfl (r_mv rfl rfl) ?_
    refine s_val rfl rfl (r_le rfl rfl rfl) ?_
    refine s_val rfl rfl (r_pickT rfl rfl rfl) ?_
    refine s_nil ?_
    refine q_then ?_
    refine c_env [(0, .slice A1 xs.length c2), (1, .int .i64 n), (5, .int .i64 ((k : Nat) : Int)), (15, .bool (decide (((xs.length : Nat) : Int) ≤ n)))] ⟨rfl, rfl, rfl, rfl, trivial⟩ ?_
    refine c_dec (p := ((xs.length : Nat) : Int) ≤ n) rfl (fun h7 => ?_) (fun h7 => ?_)
    · skip
      refine c_skip ?_
      refine q_then ?_
      refine c_env [(0, .slice A1 xs.length c2), (1, .int .i64 n), (5, .int .i64 ((k : Nat) : Int))] ⟨rfl, rfl, rfl, trivial⟩ ?_
      refine c_seq ?_
      refine c_block ?_
      refine c_seq ?_
      refine c_reg ?_
      refine s_val rfl rfl (r_mv rfl rfl) ?_
      refine s_val rfl rfl (r_mv rfl rfl) ?_
      obtain ⟨x8, hx9⟩ : ∃ z9, xs[k]? = some z9 := ⟨_, List.getElem?_eq_getElem (show k < xs.length by omega)⟩
      have th10 := H.thR 0 rfl hx9
      refine s_val rfl rfl (r_iaE (p := oOf A1 + k * 2) rfl sl23 rfl rfl (by omega) (by omega) th10 rfl) ?_
      refine s_val rfl rfl (r_fa rfl fo56_0 rfl) ?_
      refine s_val rfl rfl (r_ld rfl ty9 rfl (H.elR 0 rfl hx9 (q := 0) rfl rfl)) ?_
      refine s_val rfl rfl (r_lenS rfl un9 rfl) ?_
      refine s_val rfl rfl (r_gt rfl rfl rfl) ?_
      refine s_val rfl rfl (r_mv rfl rfl) ?_
      refine s_dec (d := 25) (p := (100 : Int) < ((x8.key.size : Nat) : Int)) rfl (fun h11 => ?_) (fun h11 => ?_)
      · skip
        refine s_no rfl rfl ?_
        refine s_no rfl rfl ?_
        refine s_no rfl rfl ?_
        refine s_no rfl rfl ?_
        refine s_no rfl rfl ?_
        refine s_no rfl rfl ?_
        refine s_no rfl rfl ?_
        refine s_val rfl rfl (r_pickT rfl rfl rfl) ?_
        refine s_nil ?_
        refine q_then ?_
        refine c_env [(0, .slice A1 xs.length c2), (1, .int .i64 n), (5, .int .i64 ((k : Nat) : Int)), (33, .bool true)] ⟨rfl, rfl, rfl, rfl, trivial⟩ ?_
        refine c_yes rfl ?_
        refine c_seq ?_
        refine c_reg ?_
        refine s_val rfl rfl (r_as rfl rfl) ?_
        refine s_nil ?_
        refine q_then ?_
        refine c_env [(0, .slice A1 xs.length c2), (1, .int .i64 n), (4, .bool true), (5, .int .i64 ((k : Nat) : Int))] ⟨rfl, rfl, rfl, rfl, trivial⟩ ?_
        refine c_ret ?_
        refine q_blockR ?_
        refine q_thenR ?_
        refine q_thenR ?_
        refine q_blockR ?_
        refine q_thenR ?_
        refine q_ret1 rfl rfl ?_
        exact fin ⟨congrArg Value.bool (greatP_hit hx9 (by omega)), rfl⟩ H
      · skip
        refine s_val rfl rfl (r_mv rfl rfl) ?_
        refine s_val rfl rfl (r_mv rfl rfl) ?_
        have th12 := H.thR 0 rfl hx9
        refine s_val rfl rfl (r_iaE (p := oOf A1 + k * 2) rfl sl23 rfl rfl (by omega) (by omega) th12 rfl) ?_
        refine s_val rfl rfl (r_fa rfl fo56_1 rfl) ?_
        refine s_val rfl rfl (r_ld rfl ty9 rfl (H.elR 0 rfl hx9 (q := 1) rfl rfl)) ?_
        refine s_val rfl rfl (r_lenS rfl un9 rfl) ?_
        refine s_val rfl rfl (r_gt rfl rfl rfl) ?_
        refine s_val rfl rfl (r_pickF rfl rfl rfl) ?_
        refine s_nil ?_
        refine q_then ?_
        refine c_env [(0, .slice A1 xs.length c2), (1, .int .i64 n), (5, .int .i64 ((k : Nat) : Int)), (33, .bool (decide ((100 : Int) < ((x8.val.size : Nat) : Int))))] ⟨rfl, rfl, rfl, rfl, trivial⟩ ?_
        refine c_dec (p := (100 : Int) < ((x8.val.size : Nat) : Int)) rfl (fun h13 => ?_) (fun h13 => ?_)
        · skip
          refine c_seq ?_
          refine c_reg ?_
          refine s_val rfl rfl (r_as rfl rfl) ?_
          refine s_nil ?_
          refine q_then ?_
          refine c_env [(0, .slice A1 xs.length c2), (1, .int .i64 n), (4, .bool true), (5, .int .i64 ((k : Nat) : Int))] ⟨rfl, rfl, rfl, rfl, trivial⟩ ?_
          refine c_ret ?_
          refine q_blockR ?_
          refine q_thenR ?_
          refine q_thenR ?_
          refine q_blockR ?_
          refine q_thenR ?_
          refine q_ret1 rfl rfl ?_
          exact fin ⟨congrArg Value.bool (greatP_hit hx9 (by omega)), rfl⟩ H
        · skip
          refine c_skip ?_
          refine q_blockN ?_
          refine q_then ?_
          refine c_env [(0, .slice A1 xs.length c2), (1, .int .i64 n), (5, .int .i64 ((k : Nat) : Int))] ⟨rfl, rfl, rfl, trivial⟩ ?_
          refine c_reg ?_
          refine s_val rfl rfl (r_mv rfl rfl) ?_
          refine s_val rfl rfl (r_add (z := ((k + 1 : Nat) : Int)) rfl rfl rfl (by rw [w64 (by omega) (by omega)]; omega)) ?_
          refine s_val rfl rfl (r_as rfl rfl) ?_
          refine s_nil ?_
          exact q_round (s := k) (k + 1) ⟨rfl, rfl, rfl, trivial⟩ ⟨H, by (try dsimp only); omega, take_prop hn hx9 (by omega)⟩ (by (try dsimp only); omega)
    · skip
      refine c_exit ?_
      refine q_thenE ?_
      refine q_thenE ?_
      refine q_blockE ?_
      refine q_then ?_
      refine c_env [(0, .slice A1 xs.length c2), (1, .int .i64 n)] ⟨rfl, rfl, trivial⟩ ?_
      refine c_seq ?_
      refine c_reg ?_
      refine s_val rfl rfl (r_mv rfl rfl) ?_
      refine s_val rfl rfl (r_lenL rfl un23 rfl) ?_
      refine s_val rfl rfl (r_mv rfl rfl) ?_
      refine s_val rfl rfl (r_gt rfl rfl rfl) ?_
      refine s_val rfl rfl (r_as rfl rfl) ?_
      refine s_nil ?_
      refine q_then ?_
      refine c_env [(4, .bool (decide (n < ((xs.length : Nat) : Int))))] ⟨rfl, trivial⟩ ?_
      refine c_ret ?_
      refine q_ret1 rfl rfl ?_
      exact fin ⟨congrArg Value.bool (greatP_end hn (by omega)), rfl⟩ H
  · skip
    refine s_no rfl rfl ?_
    refine s_no rfl rfl ?_
    refine s_no rfl rfl ?_
    refine s_no rfl rfl ?_
    refine s_val rfl rfl (r_pickF rfl rfl rfl) ?_
    refine s_nil ?_
    refine q_then ?_
    refine c_env [(0, .slice A1 xs.length c2), (1, .int .i64 n), (5, .int .i64 ((k : Nat) : Int)), (15, .bool false)] ⟨rfl, rfl, rfl, rfl, trivial⟩ ?_
    refine c_no rfl ?_
    refine c_exit ?_
    refine q_thenE ?_
    refine q_thenE ?_
    refine q_blockE ?_
    refine q_then ?_
    refine c_env [(0, .slice A1 xs.length c2), (1, .int .i64 n)] ⟨rfl, rfl, trivial⟩ ?_
    refine c_seq ?_
    refine c_reg ?_
    refine s_val rfl rfl (r_mv rfl rfl) ?_
    refine s_val rfl rfl (r_lenL rfl un23 rfl) ?_
    refine s_val rfl rfl (r_mv rfl rfl) ?_
    refine s_val rfl rfl (r_gt rfl rfl rfl) ?_
    refine s_val rfl rfl (r_as rfl rfl) ?_
    refine s_nil ?_
    refine q_then ?_
    refine c_env [(4, .bool (decide (n < ((xs.length : Nat) : Int))))] ⟨rfl, trivial⟩ ?_
    refine c_ret ?_
    refine q_ret1 rfl rfl ?_
    exact fin ⟨congrArg Value.bool (greatP_end hn (by omega)), rfl⟩ H

set_option maxHeartbeats 1000000 in
theorem pOf_ok (vxs : Value) (xs : List Pair) (key : ByteArray) (hb : xs.length ≤ 1000000) :
    Cn Tryz.prog 55 [vxs, .string key] [] [rsl kPair vxs xs] (fun v Bs => Bs = [osl kStr v (ofL xs key)]) := by
  intro w0 F0 H
  obtain ⟨A1, c2, rfl, hc3, hm4, hp5⟩ := H.fR 0 rfl
  refine enter (args := [.slice A1 xs.length c2, .string key]) Tryz.func55 rfl rfl (Nat.le_of_ble_eq_true rfl) ?_
  refine c_seq ?_
  refine c_reg ?_
  refine s_val rfl rfl (r_as rfl rfl) ?_
  refine s_nil ?_
  refine q_then ?_
  replace H : Hd _ _ _ [] [rsl kPair (.slice A1 xs.length c2) xs] := H
  refine c_env [(0, .slice A1 xs.length c2), (1, .string key), (4, .slice none 0 0)] ⟨rfl, rfl, rfl, trivial⟩ ?_
  refine c_seq ?_
  refine c_reg ?_
  refine s_val rfl rfl (r_as rfl rfl) ?_
  refine s_nil ?_
  refine q_then ?_
  refine c_env [(0, .slice A1 xs.length c2), (1, .string key), (4, .slice none 0 0), (5, .slice none 0 0)] ⟨rfl, rfl, rfl, rfl, trivial⟩ ?_
  refine c_seq ?_
  refine c_seq ?_
  refine c_reg ?_
  refine s_val rfl rfl (r_mv rfl rfl) ?_
  refine s_val rfl rfl (r_lenL rfl un23 rfl) ?_
  refine s_val rfl rfl (r_mv rfl rfl) ?_
  refine s_nil ?_
  refine q_then ?_
  refine c_env [(1, .string key), (4, .slice none 0 0), (5, .slice none 0 0), (8, .slice A1 xs.length c2), (9, .int .i64 ((xs.length : Nat) : Int)), (10, .int .i64 0)] ⟨rfl, rfl, rfl, rfl, rfl, rfl, trivial⟩ ?_
  refine c_block ?_
  replace H := H.newnil kStr
  refine c_loop (σ := Nat × Value) (fun (k, l) => [(1, .string key), (4, .slice none 0 0), (5, l), (8, .slice A1 xs.length c2), (9, .int .i64 ((xs.length : Nat) : Int)), (10, .int .i64 ((k : Nat) : Int))]) (fun (k, l) w => (Hd w0 F0 w [osl kStr l (ofL (xs.take k) key)] [rsl kPair (.slice A1 xs.length c2) xs]) ∧ (k ≤ xs.length)) (fun (k, l) => xs.length - k) (0, .slice none 0 0) ⟨rfl, rfl, rfl, rfl, rfl, rfl, trivial⟩ ⟨H, by (try dsimp only); omega⟩ ?_
  rintro ⟨k, l⟩ w ⟨H, hk⟩
  have hjl := ofL_len (xs.take k) key
  have hjt : (xs.take k).length ≤ xs.length := by simp; omega
  refine c_seq ?_
  refine c_reg ?_
  refine s_val rfl rfl (r_lt rfl rfl rfl) ?_
  refine s_nil ?_
  refine q_then ?_
  refine c_env [(1, .string key), (4, .slice none 0 0), (5, l), (8, .slice A1 xs.length c2), (9, .int .i64 ((xs.length : Nat) : Int)), (10, .int .i64 ((k : Nat) : Int)), (11, .bool (decide (((k : Nat) : Int) < ((xs.length : Nat) : Int))))] ⟨rfl, rfl, rfl, rfl, rfl, rfl, rfl, trivial⟩ ?_
  refine c_seq ?_
  refine c_dec (p := ((k : Nat) : Int) < ((xs.length : Nat) : Int)) rfl (fun h6 => ?_) (fun h6 => ?_)
  · skip
    refine c_skip ?_
    refine q_then ?_
    refine c_env [(1, .string key), (4, .slice none 0 0), (5, l), (8, .slice A1 xs.length c2), (9, .int .i64 ((xs.length : Nat) : Int)), (10, .int .i64 ((k : Nat) : Int))] ⟨rfl, rfl, rfl, rfl, rfl, rfl, trivial⟩ ?_
    refine c_seq ?_
    refine c_block ?_
    refine c_seq ?_
    refine c_reg ?_
    obtain ⟨x7, hx8⟩ : ∃ z9, xs[k]? = some z9 := ⟨_, List.getElem?_eq_getElem (show k < xs.length by omega)⟩
    have th9 := H.thR 0 rfl hx8
    refine s_val rfl rfl (r_iaE (p := oOf A1 + k * 2) rfl sl23 rfl rfl (by omega) (by omega) th9 rfl) ?_
    refine s_val rfl rfl (r_ldA (cs := [.string x7.key, .string x7.val]) rfl ty56 rfl rfl (H.elsR 0 rfl hx8 rfl)) ?_
    refine s_alloc rfl rfl rfl zr56 H (fun b10 w H => ?_)
    refine s_st rfl rfl rfl ty56 rfl rfl H rfl (Nat.le_of_ble_eq_true rfl) (fun u hu => by simp [Value.cells] at hu; rcases hu with rfl | rfl <;> rfl) (fun w H => ?_)
    replace H : Hd _ _ _ [blk b10 [.string x7.key, .string x7.val] 56, osl kStr l (ofL (xs.take k) key)] [rsl kPair (.slice A1 xs.length c2) xs] := H
    refine s_nil ?_
    refine q_then ?_
    refine c_env [(1, .string key), (4, .slice none 0 0), (5, l), (7, .pointer (some ⟨b10, 0, none⟩)), (8, .slice A1 xs.length c2), (9, .int .i64 ((xs.length : Nat) : Int)), (10, .int .i64 ((k : Nat) : Int))] ⟨rfl, rfl, rfl, rfl, rfl, rfl, rfl, trivial⟩ ?_
    refine c_seq ?_
    refine c_reg ?_
    refine s_val rfl rfl (r_fa rfl fo56_0 rfl) ?_
    refine s_val rfl rfl (r_ld rfl ty9 rfl (H.cellI 0 rfl rfl)) ?_
    refine s_val rfl rfl (r_mv rfl rfl) ?_
    refine s_val rfl rfl (r_eqS rfl rfl rfl) ?_
    refine s_nil ?_
    refine q_then ?_
    refine c_env [(1, .string key), (4, .slice none 0 0), (5, l), (7, .pointer (some ⟨b10, 0, none⟩)), (8, .slice A1 xs.length c2), (9, .int .i64 ((xs.length : Nat) : Int)), (10, .int .i64 ((k : Nat) : Int)), (17, .bool (decide (x7.key = key)))] ⟨rfl, rfl, rfl, rfl, rfl, rfl, rfl, rfl, trivial⟩ ?_
    refine c_dec (p := x7.key = key) rfl (fun h11 => ?_) (fun h11 => ?_)
    · skip
      refine c_reg ?_
      refine s_val rfl rfl (r_mv rfl rfl) ?_
      refine s_val rfl rfl (r_fa rfl fo56_1 rfl) ?_
      refine s_val rfl rfl (r_ld rfl ty9 rfl (H.cellI 0 rfl rfl)) ?_
      refine s_bsl (parts := [(0, .tmp 20)]) (vs := [.string x7.val]) (cs := [.string x7.val]) rfl rfl rfl sl75 zr9 rfl (by decide) (by decide) rfl rfl H (fun b12 w H => ?_)
      replace H := H.pick 2 rfl
      refine s_appF (xs := ofL (xs.take k) key) (ys := [x7.val]) rfl rfl rfl sl75 zr9 rfl (by decide) rfl rfl H (by omega) (fun F hA hR => blk_rsl (hA _ (List.mem_of_getElem? (i := 0) rfl)) rfl (by decide) (RepsR.flat_eq.2 rfl)) (fun v13 w H => ?_)
      refine s_val rfl rfl (r_as rfl rfl) ?_
      refine s_nil ?_
      refine q_blockN ?_
      refine q_then ?_
      replace H : Hd _ _ _ [osl kStr v13 ((ofL (xs.take k) key) ++ [x7.val]), blk b12 [.string x7.val] 9, blk b10 [.string x7.key, .string x7.val] 56] [rsl kPair (.slice A1 xs.length c2) xs] := H
      refine c_env [(1, .string key), (4, .slice none 0 0), (5, v13), (8, .slice A1 xs.length c2), (9, .int .i64 ((xs.length : Nat) : Int)), (10, .int .i64 ((k : Nat) : Int))] ⟨rfl, rfl, rfl, rfl, rfl, rfl, trivial⟩ ?_
      refine c_reg ?_
      refine s_val rfl rfl (r_add (z := ((k + 1 : Nat) : Int)) rfl rfl rfl (by rw [w64 (by omega) (by omega)]; omega)) ?_
      refine s_val rfl rfl (r_mv rfl rfl) ?_
      refine s_nil ?_
      rw [← ofk_yes hx8 h11] at H
      replace H := H.keep 1
      exact q_round (s := (k, undef)) (k + 1, v13) ⟨rfl, rfl, rfl, rfl, rfl, rfl, trivial⟩ ⟨H, by (try dsimp only); omega⟩ (by (try dsimp only); omega)
    · skip
      refine c_skip ?_
      refine q_blockN ?_
      refine q_then ?_
      refine c_env [(1, .string key), (4, .slice none 0 0), (5, l), (8, .slice A1 xs.length c2), (9, .int .i64 ((xs.length : Nat) : Int)), (10, .int .i64 ((k : Nat) : Int))] ⟨rfl, rfl, rfl, rfl, rfl, rfl, trivial⟩ ?_
      refine c_reg ?_
      refine s_val rfl rfl (r_add (z := ((k + 1 : Nat) : Int)) rfl rfl rfl (by rw [w64 (by omega) (by omega)]; omega)) ?_
      refine s_val rfl rfl (r_mv rfl rfl) ?_
      refine s_nil ?_
      rw [← ofk_no hx8 h11] at H
      replace H := H.pick 1 rfl
      replace H := H.keep 1
      exact q_round (s := (k, undef)) (k + 1, l) ⟨rfl, rfl, rfl, rfl, rfl, rfl, trivial⟩ ⟨H, by (try dsimp only); omega⟩ (by (try dsimp only); omega)
  · skip
    refine c_exit ?_
    refine q_thenE ?_
    refine q_thenE ?_
    refine q_blockE ?_
    refine q_then ?_
    refine c_env [(4, .slice none 0 0), (5, l)] ⟨rfl, rfl, trivial⟩ ?_
    refine c_seq ?_
    refine c_reg ?_
    refine s_val rfl rfl (r_mv rfl rfl) ?_
    refine s_val rfl rfl (r_as rfl rfl) ?_
    refine s_nil ?_
    refine q_then ?_
    refine c_env [(4, l)] ⟨rfl, trivial⟩ ?_
    refine c_ret ?_
    refine q_ret1 rfl rfl ?_
    rw [List.take_of_length_le (show xs.length ≤ k by omega)] at H
    exact fin rfl H

set_option maxHeartbeats 1000000 in
theorem pKeys_ok (vxs : Value) (xs : List Pair) (hb : xs.length ≤ 1000000) :
    Cn Tryz.prog 53 [vxs] [] [rsl kPair vxs xs] (fun v Bs => Bs = [osl kStr v (keysL xs)]) := by
  intro w0 F0 H
  obtain ⟨A1, c2, rfl, hc3, hm4, hp5⟩ := H.fR 0 rfl
  refine enter (args := [.slice A1 xs.length c2]) Tryz.func53 rfl rfl (Nat.le_of_ble_eq_true rfl) ?_
  refine c_seq ?_
  refine c_reg ?_
  refine s_val rfl rfl (r_as rfl rfl) ?_
  refine s_nil ?_
  refine q_then ?_
  replace H : Hd _ _ _ [] [rsl kPair (.slice A1 xs.length c2) xs] := H
  refine c_env [(0, .slice A1 xs.length c2), (2, .slice none 0 0)] ⟨rfl, rfl, trivial⟩ ?_
  refine c_seq ?_
  refine c_reg ?_
  refine s_val rfl rfl (r_as rfl rfl) ?_
  refine s_nil ?_
  refine q_then ?_
  refine c_env [(0, .slice A1 xs.length c2), (2, .slice none 0 0), (3, .slice none 0 0)] ⟨rfl, rfl, rfl, trivial⟩ ?_
  refine c_seq ?_
  refine c_seq ?_
  refine c_reg ?_
  refine s_val rfl rfl (r_mv rfl rfl) ?_
  refine s_val rfl rfl (r_lenL rfl un23 rfl) ?_
  refine s_val rfl rfl (r_mv rfl rfl) ?_
  refine s_nil ?_
  refine q_then ?_
  refine c_env [(2, .slice none 0 0), (3, .slice none 0 0), (6, .slice A1 xs.length c2), (7, .int .i64 ((xs.length : Nat) : Int)), (8, .int .i64 0)] ⟨rfl, rfl, rfl, rfl, rfl, trivial⟩ ?_
  refine c_block ?_
  replace H := H.newnil kStr
  refine c_loop (σ := Nat × Value) (fun (k, l) => [(2, .slice none 0 0), (3, l), (6, .slice A1 xs.length c2), (7, .int .i64 ((xs.length : Nat) : Int)), (8, .int .i64 ((k : Nat) : Int))]) (fun (k, l) w => (Hd w0 F0 w [osl kStr l ((xs.take k).map (·.key))] [rsl kPair (.slice A1 xs.length c2) xs]) ∧ (k ≤ xs.length)) (fun (k, l) => xs.length - k) (0, .slice none 0 0) ⟨rfl, rfl, rfl, rfl, rfl, trivial⟩ ⟨H, by (try dsimp only); omega⟩ ?_
  rintro ⟨k, l⟩ w ⟨H, hk⟩
  have hjt : ((xs.take k).map (·.key)).length ≤ xs.length := by simp; omega
  refine c_seq ?_
  refine c_reg ?_
  refine s_val rfl rfl (r_lt rfl rfl rfl) ?_
  refine s_nil ?_
  refine q_then ?_
  refine c_env [(2, .slice none 0 0), (3, l), (6, .slice A1 xs.length c2), (7, .int .i64 ((xs.length : Nat) : Int)), (8, .int .i64 ((k : Nat) : Int)), (9, .bool (decide (((k : Nat) : Int) < ((xs.length : Nat) : Int))))] ⟨rfl, rfl, rfl, rfl, rfl, rfl, trivial⟩ ?_
  refine c_seq ?_
  refine c_dec (p := ((k : Nat) : Int) < ((xs.length : Nat) : Int)) rfl (fun h6 => ?_) (fun h6 => ?_)
  · skip
    refine c_skip ?_
    refine q_then ?_
    refine c_env [(2, .slice none 0 0), (3, l), (6, .slice A1 xs.length c2), (7, .int .i64 ((xs.length : Nat) : Int)), (8, .int .i64 ((k : Nat) : Int))] ⟨rfl, rfl, rfl, rfl, rfl, trivial⟩ ?_
    refine c_seq ?_
    refine c_block ?_
    refine c_seq ?_
    refine c_reg ?_
    obtain ⟨x7, hx8⟩ : ∃ z9, xs[k]? = some z9 := ⟨_, List.getElem?_eq_getElem (show k < xs.length by omega)⟩
    have th9 := H.thR 0 rfl hx8
    refine s_val rfl rfl (r_iaE (p := oOf A1 + k * 2) rfl sl23 rfl rfl (by omega) (by omega) th9 rfl) ?_
    refine s_val rfl rfl (r_ldA (cs := [.string x7.key, .string x7.val]) rfl ty56 rfl rfl (H.elsR 0 rfl hx8 rfl)) ?_
    refine s_alloc rfl rfl rfl zr56 H (fun b10 w H => ?_)
    refine s_st rfl rfl rfl ty56 rfl rfl H rfl (Nat.le_of_ble_eq_true rfl) (fun u hu => by simp [Value.cells] at hu; rcases hu with rfl | rfl <;> rfl) (fun w H => ?_)
    replace H : Hd _ _ _ [blk b10 [.string x7.key, .string x7.val] 56, osl kStr l ((xs.take k).map (·.key))] [rsl kPair (.slice A1 xs.length c2) xs] := H
    refine s_nil ?_
    refine q_then ?_
    refine c_env [(2, .slice none 0 0), (3, l), (5, .pointer (some ⟨b10, 0, none⟩)), (6, .slice A1 xs.length c2), (7, .int .i64 ((xs.length : Nat) : Int)), (8, .int .i64 ((k : Nat) : Int))] ⟨rfl, rfl, rfl, rfl, rfl, rfl, trivial⟩ ?_
    refine c_reg ?_
    refine s_val rfl rfl (r_mv rfl rfl) ?_
    refine s_val rfl rfl (r_fa rfl fo56_0 rfl) ?_
    refine s_val rfl rfl (r_ld rfl ty9 rfl (H.cellI 0 rfl rfl)) ?_
    refine s_bsl (parts := [(0, .tmp 14)]) (vs := [.string x7.key]) (cs := [.string x7.key]) rfl rfl rfl sl75 zr9 rfl (by decide) (by decide) rfl rfl H (fun b11 w H => ?_)
    replace H := H.pick 2 rfl
    refine s_appF (xs := (xs.take k).map (·.key)) (ys := [x7.key]) rfl rfl rfl sl75 zr9 rfl (by decide) rfl rfl H (by omega) (fun F hA hR => blk_rsl (hA _ (List.mem_of_getElem? (i := 0) rfl)) rfl (by decide) (RepsR.flat_eq.2 rfl)) (fun v12 w H => ?_)
    refine s_val rfl rfl (r_as rfl rfl) ?_
    refine s_nil ?_
    refine q_blockN ?_
    refine q_then ?_
    replace H : Hd _ _ _ [osl kStr v12 (((xs.take k).map (·.key)) ++ [x7.key]), blk b11 [.string x7.key] 9, blk b10 [.string x7.key, .string x7.val] 56] [rsl kPair (.slice A1 xs.length c2) xs] := H
    refine c_env [(2, .slice none 0 0), (3, v12), (6, .slice A1 xs.length c2), (7, .int .i64 ((xs.length : Nat) : Int)), (8, .int .i64 ((k : Nat) : Int))] ⟨rfl, rfl, rfl, rfl, rfl, trivial⟩ ?_
    refine c_reg ?_
    refine s_val rfl rfl (r_add (z := ((k + 1 : Nat) : Int)) rfl rfl rfl (by rw [w64 (by omega) (by omega)]; omega)) ?_
    refine s_val rfl rfl (r_mv rfl rfl) ?_
    refine s_nil ?_
    rw [← keyk hx8] at H
    replace H := H.keep 1
    exact q_round (s := (k, undef)) (k + 1, v12) ⟨rfl, rfl, rfl, rfl, rfl, trivial⟩ ⟨H, by (try dsimp only); omega⟩ (by (try dsimp only); omega)
  · skip
    refine c_exit ?_
    refine q_thenE ?_
    refine q_thenE ?_
    refine q_blockE ?_
    refine q_then ?_
    refine c_env [(2, .slice none 0 0), (3, l)] ⟨rfl, rfl, trivial⟩ ?_
    refine c_seq ?_
    refine c_reg ?_
    refine s_val rfl rfl (r_mv rfl rfl) ?_
    refine sc (sortStr_ok l ((xs.take k).map (·.key)) (by first | omega | (rw [sortS_len]; omega))) H l0 rfl rfl (e_fn kn69 rfl rfl) ?_
    rintro v13 _ w rfl H
    refine s_nil ?_
    refine q_then ?_
    replace H : Hd _ _ _ [osl kStr l (sortS ((xs.take k).map (·.key)))] [rsl kPair (.slice A1 xs.length c2) xs] := H
    refine c_env [(2, .slice none 0 0), (3, l)] ⟨rfl, rfl, trivial⟩ ?_
    refine c_seq ?_
    refine c_reg ?_
    refine s_val rfl rfl (r_mv rfl rfl) ?_
    refine sc (compStr_ok l (sortS ((xs.take k).map (·.key))) (by first | omega | (rw [sortS_len]; omega))) H l0 rfl rfl (e_fn kn70 rfl rfl) ?_
    rintro v14 _ w rfl H
    refine s_val rfl rfl (r_as rfl rfl) ?_
    refine s_nil ?_
    refine q_then ?_
    replace H : Hd _ _ _ [osl kStr v14 (compS (sortS ((xs.take k).map (·.key))))] [rsl kPair (.slice A1 xs.length c2) xs] := H
    refine c_env [(2, v14)] ⟨rfl, trivial⟩ ?_
    refine c_ret ?_
    refine q_ret1 rfl rfl ?_
    rw [List.take_of_length_le (show xs.length ≤ k by omega)] at H
    exact fin rfl H

set_option maxHeartbeats 1000000 in
theorem indexFP_ok (f : FuncId) (cap : List Value) (Ex : List SP) (p : Pair → Bool) (hkf : Known Tryz.prog f) (hp : ∀ x, Cn Tryz.prog f ([.agg #[.string x.key, .string x.val]] ++ cap) [] Ex (fun v Bs => v = .bool (p x) ∧ Bs = [])) (v : Value) (xs : List Pair) :
    Cn Tryz.prog 72 [v, .func (.func f) #[] (cap).toArray] [] (rsl kPair v xs :: Ex) (fun v Bs => v = .int .i64 (fidx p xs) ∧ Bs = []) := by
  intro w0 F0 H
  obtain ⟨A1, c2, rfl, hc3, hm4, hp5⟩ := H.fR 0 rfl
  refine enter (args := [.slice A1 xs.length c2, .func (.func f) #[] (cap).toArray]) Tryz.func72 rfl rfl (Nat.le_of_ble_eq_true rfl) ?_
  refine c_seq ?_
  refine c_reg ?_
  refine s_val rfl rfl (r_as rfl rfl) ?_
  refine s_nil ?_
  refine q_then ?_
  replace H : Hd _ _ _ [] (rsl kPair (.slice A1 xs.length c2) xs :: Ex) := H
  refine c_env [(0, .slice A1 xs.length c2), (1, .func (.func f) #[] (cap).toArray), (4, .int .i64 0)] ⟨rfl, rfl, rfl, trivial⟩ ?_
  refine c_seq ?_
  refine c_seq ?_
  refine c_reg ?_
  refine s_val rfl rfl (r_mv rfl rfl) ?_
  refine s_val rfl rfl (r_lenL rfl un23 rfl) ?_
  refine s_val rfl rfl (r_mv rfl rfl) ?_
  refine s_nil ?_
  refine q_then ?_
  refine c_env [(0, .slice A1 xs.length c2), (1, .func (.func f) #[] (cap).toArray), (4, .int .i64 0), (7, .int .i64 ((xs.length : Nat) : Int)), (8, .int .i64 0)] ⟨rfl, rfl, rfl, rfl, rfl, trivial⟩ ?_
  refine c_block ?_
  refine c_loop (σ := Nat) (fun k => [(0, .slice A1 xs.length c2), (1, .func (.func f) #[] (cap).toArray), (7, .int .i64 ((xs.length : Nat) : Int)), (8, .int .i64 ((k : Nat) : Int))]) (fun k w => (Hd w0 F0 w [] (rsl kPair (.slice A1 xs.length c2) xs :: Ex)) ∧ (k ≤ xs.length) ∧ (∀ y ∈ xs.take k, p y = false)) (fun k => xs.length - k) 0 ⟨rfl, rfl, rfl, rfl, trivial⟩ ⟨H, by omega, by simp⟩ ?_
  rintro k w ⟨H, hk, hn⟩
  refine c_seq ?_
  refine c_reg ?_
  refine s_val rfl rfl (r_lt rfl rfl rfl) ?_
  refine s_nil ?_
  refine q_then ?_
  refine c_env [(0, .slice A1 xs.length c2), (1, .func (.func f) #[] (cap).toArray), (7, .int .i64 ((xs.length : Nat) : Int)), (8, .int .i64 ((k : Nat) : Int)), (9, .bool (decide (((k : Nat) : Int) < ((xs.length : Nat) : Int))))] ⟨rfl, rfl, rfl, rfl, rfl, trivial⟩ ?_
  refine c_seq ?_
  refine c_dec (p := ((k : Nat) : Int) < ((xs.length : Nat) : Int)) rfl (fun h6 => ?_) (fun h6 => ?_)
  · skip
    refine c_skip ?_
    refine q_then ?_
    refine c_env [(0, .slice A1 xs.length c2), (1, .func (.func f) #[] (cap).toArray), (7, .int .i64 ((xs.length : Nat) : Int)), (8, .int .i64 ((k : Nat) : Int))] ⟨rfl, rfl, rfl, rfl, trivial⟩ ?_
    refine c_seq ?_
    refine c_block ?_
    refine c_seq ?_
    refine c_reg ?_
    refine s_val rfl rfl (r_mv rfl rfl) ?_
    refine s_val rfl rfl (r_as rfl rfl) ?_
    refine s_nil ?_
    refine q_then ?_
    refine c_env [(0, .slice A1 xs.length c2), (1, .func (.func f) #[] (cap).toArray), (5, .int .i64 ((k : Nat) : Int)), (7, .int .i64 ((xs.length : Nat) : Int)), (8, .int .i64 ((k : Nat) : Int))] ⟨rfl, rfl, rfl, rfl, rfl, trivial⟩ ?_
    refine c_seq ?_
    refine c_reg ?_
    refine s_val rfl rfl (r_mv rfl rfl) ?_
    refine s_val rfl rfl (r_mv rfl rfl) ?_
    refine s_val rfl rfl (r_mv rfl rfl) ?_
    obtain ⟨x7, hx8⟩ : ∃ z9, xs[k]? = some z9 := ⟨_, List.getElem?_eq_getElem (show k < xs.length by omega)⟩
    have th9 := H.thR 0 rfl hx8
    refine s_val rfl rfl (r_iaE (p := oOf A1 + k * 2) rfl sl23 rfl rfl (by omega) (by omega) th9 rfl) ?_
    refine s_val rfl rfl (r_ldA (cs := [.string x7.key, .string x7.val]) rfl ty56 rfl rfl (H.elsR 0 rfl hx8 rfl)) ?_
    refine sc (hp x7) H (fun S hS F hA hR => hR S (List.mem_cons_of_mem _ hS)) rfl rfl (e_val (vs := [.agg #[.string x7.key, .string x7.val]]) (fs := #[]) (cs := cap.toArray) hkf rfl rfl rfl) ?_
    rintro _ _ w ⟨rfl, rfl⟩ H
    refine s_nil ?_
    refine q_then ?_
    refine c_env [(0, .slice A1 xs.length c2), (1, .func (.func f) #[] (cap).toArray), (5, .int .i64 ((k : Nat) : Int)), (7, .int .i64 ((xs.length : Nat) : Int)), (8, .int .i64 ((k : Nat) : Int)), (16, .bool (p x7))] ⟨rfl, rfl, rfl, rfl, rfl, rfl, trivial⟩ ?_
    refine c_cond (b := p x7) rfl (fun h10 => ?_) (fun h10 => ?_)
    · skip
      refine c_seq ?_
      refine c_reg ?_
      refine s_val rfl rfl (r_mv rfl rfl) ?_
      refine s_val rfl rfl (r_as rfl rfl) ?_
      refine s_nil ?_
      refine q_then ?_
      refine c_env [(0, .slice A1 xs.length c2), (1, .func (.func f) #[] (cap).toArray), (4, .int .i64 ((k : Nat) : Int)), (7, .int .i64 ((xs.length : Nat) : Int)), (8, .int .i64 ((k : Nat) : Int))] ⟨rfl, rfl, rfl, rfl, rfl, trivial⟩ ?_
      refine c_ret ?_
      refine q_blockR ?_
      refine q_thenR ?_
      refine q_thenR ?_
      refine q_blockR ?_
      refine q_thenR ?_
      refine q_ret1 rfl rfl ?_
      exact fin ⟨by rw [fidx_hit hn hx8 h10], rfl⟩ H
    · skip
      refine c_skip ?_
      refine q_blockN ?_
      refine q_then ?_
      refine c_env [(0, .slice A1 xs.length c2), (1, .func (.func f) #[] (cap).toArray), (7, .int .i64 ((xs.length : Nat) : Int)), (8, .int .i64 ((k : Nat) : Int))] ⟨rfl, rfl, rfl, rfl, trivial⟩ ?_
      refine c_reg ?_
      refine s_val rfl rfl (r_add (z := ((k + 1 : Nat) : Int)) rfl rfl rfl (by rw [w64 (by omega) (by omega)]; omega)) ?_
      refine s_val rfl rfl (r_mv rfl rfl) ?_
      refine s_nil ?_
      exact q_round (s := k) (k + 1) ⟨rfl, rfl, rfl, rfl, trivial⟩ ⟨H, by omega, take_false hn hx8 h10⟩ (by (try dsimp only); omega)
  · skip
    refine c_exit ?_
    refine q_thenE ?_
    refine q_thenE ?_
    refine q_blockE ?_
    refine q_then ?_
    refine c_env [] trivial ?_
    refine c_seq ?_
    refine c_reg ?_
    refine s_val rfl rfl (r_as rfl rfl) ?_
    refine s_nil ?_
    refine q_then ?_
    refine c_env [(4, .int .i64 (-1))] ⟨rfl, trivial⟩ ?_
    refine c_ret ?_
    refine q_ret1 rfl rfl ?_
    have hn2 : ∀ y ∈ xs, p y = false := by rw [← take_all (xs := xs) (k := k) (by omega)]; exact hn
    exact fin ⟨by rw [fidx_miss hn2], rfl⟩ H

set_option maxHeartbeats 1000000 in
theorem containsFP_ok (f : FuncId) (cap : List Value) (Ex : List SP) (p : Pair → Bool) (hkf : Known Tryz.prog f) (hp : ∀ x, Cn Tryz.prog f ([.agg #[.string x.key, .string x.val]] ++ cap) [] Ex (fun v Bs => v = .bool (p x) ∧ Bs = [])) (v : Value) (xs : List Pair) :
    Cn Tryz.prog 56 [v, .func (.func f) #[] (cap).toArray] [] (rsl kPair v xs :: Ex) (fun v Bs => v = .bool (xs.any p) ∧ Bs = []) := by
  intro w0 F0 H
  refine enter (args := [v, .func (.func f) #[] (cap).toArray]) Tryz.func56 rfl rfl (Nat.le_of_ble_eq_true rfl) ?_
  refine c_seq ?_
  refine c_reg ?_
  refine s_val rfl rfl (r_as rfl rfl) ?_
  refine s_nil ?_
  refine q_then ?_
  refine c_env [(0, v), (1, .func (.func f) #[] (cap).toArray), (4, .bool false)] ⟨rfl, rfl, rfl, trivial⟩ ?_
  refine c_seq ?_
  refine c_reg ?_
  refine s_val rfl rfl (r_mv rfl rfl) ?_
  refine s_val rfl rfl (r_mv rfl rfl) ?_
  refine sc (indexFP_ok f cap Ex p hkf hp v xs) H lAll rfl rfl (e_fn kn72 rfl rfl) ?_
  rintro _ _ w ⟨rfl, rfl⟩ H
  refine s_val rfl rfl (r_ge rfl rfl rfl) ?_
  refine s_val rfl rfl (r_as rfl rfl) ?_
  refine s_nil ?_
  refine q_then ?_
  refine c_env [(4, .bool (decide ((0 : Int) ≤ (fidx p xs))))] ⟨rfl, trivial⟩ ?_
  refine c_ret ?_
  refine q_ret1 rfl rfl ?_
  exact fin ⟨congrArg Value.bool (fidx_nonneg p xs), rfl⟩ H

set_option maxHeartbeats 1000000 in
theorem mayF_ok (x : Pair) :
    Cn Tryz.prog 66 [.agg #[.string x.key, .string x.val]] [] [] (fun v Bs => v = .bool (!decide (mayP x)) ∧ Bs = []) := by
  intro w0 F0 H
  refine enter (args := [.agg #[.string x.key, .string x.val]]) Tryz.func66 rfl rfl (Nat.le_of_ble_eq_true rfl) ?_
  refine c_seq ?_
  refine c_reg ?_
  refine s_box rfl rfl rfl rfl H (fun b1 w H => ?_)
  refine s_val rfl rfl (r_as rfl rfl) ?_
  refine s_nil ?_
  refine q_then ?_
  replace H : Hd _ _ _ [blk b1 [.string x.key, .string x.val] 56] [] := H
  refine c_env [(1, .pointer (some ⟨b1, 0, none⟩)), (2, .bool false)] ⟨rfl, rfl, trivial⟩ ?_
  refine c_seq ?_
  refine c_reg ?_
  refine s_val rfl rfl (r_fa rfl fo56_0 rfl) ?_
  refine s_val rfl rfl (r_ld rfl ty9 rfl (H.cellI 0 rfl rfl)) ?_
  refine s_val rfl rfl (r_lenS rfl un9 rfl) ?_
  refine s_val rfl rfl (r_gt rfl rfl rfl) ?_
  refine s_val rfl rfl (r_mv rfl rfl) ?_
  refine s_dec (d := 7) (p := (16 : Int) < ((x.key.size : Nat) : Int)) rfl (fun h2 => ?_) (fun h2 => ?_)
  · skip
    refine s_no rfl rfl ?_
    refine s_no rfl rfl ?_
    refine s_no rfl rfl ?_
    refine s_no rfl rfl ?_
    refine s_val rfl rfl (r_pickT rfl rfl rfl) ?_
    refine s_val rfl rfl (r_as rfl rfl) ?_
    refine s_nil ?_
    refine q_then ?_
    refine c_env [(2, .bool true)] ⟨rfl, trivial⟩ ?_
    refine c_ret ?_
    refine q_ret1 rfl rfl ?_
    replace H := H.keep 0
    exact fin ⟨by rw [decide_eq_false (by unfold mayP; omega)]; rfl, rfl⟩ H
  · skip
    refine s_val rfl rfl (r_fa rfl fo56_1 rfl) ?_
    refine s_val rfl rfl (r_ld rfl ty9 rfl (H.cellI 0 rfl rfl)) ?_
    refine s_val rfl rfl (r_lenS rfl un9 rfl) ?_
    refine s_val rfl rfl (r_gt rfl rfl rfl) ?_
    refine s_val rfl rfl (r_pickF rfl rfl rfl) ?_
    refine s_val rfl rfl (r_as rfl rfl) ?_
    refine s_nil ?_
    refine q_then ?_
    refine c_env [(2, .bool (decide ((64 : Int) < ((x.val.size : Nat) : Int))))] ⟨rfl, trivial⟩ ?_
    refine c_ret ?_
    refine q_ret1 rfl rfl ?_
    replace H := H.keep 0
    exact fin ⟨congrArg Value.bool (by rw [← decide_not]; exact decide_eq_decide.2 (by unfold mayP; omega)), rfl⟩ H

set_option maxHeartbeats 1000000 in
theorem pMayL_ok (vxs : Value) (xs : List Pair) :
    Cn Tryz.prog 43 [vxs] [] [rsl kPair vxs xs] (fun v Bs => v = .bool (decide (mayL xs)) ∧ Bs = []) := by
  intro w0 F0 H
  obtain ⟨A1, c2, rfl, hc3, hm4, hp5⟩ := H.fR 0 rfl
  refine enter (args := [.slice A1 xs.length c2]) Tryz.func43 rfl rfl (Nat.le_of_ble_eq_true rfl) ?_
  refine c_seq ?_
  refine c_reg ?_
  refine s_val rfl rfl (r_as rfl rfl) ?_
  refine s_nil ?_
  refine q_then ?_
  replace H : Hd _ _ _ [] [rsl kPair (.slice A1 xs.length c2) xs] := H
  refine c_env [(0, .slice A1 xs.length c2), (2, .bool false)] ⟨rfl, rfl, trivial⟩ ?_
  refine c_seq ?_
  refine c_reg ?_
  refine s_val rfl rfl (r_mv rfl rfl) ?_
  refine sc (containsFP_ok 66 [] [] (fun p => !decide (mayP p)) kn66 (fun x => mayF_ok x) (.slice A1 xs.length c2) xs) H (lR 0 rfl l0) rfl rfl (e_fn kn56 rfl rfl) ?_
  rintro _ _ w ⟨rfl, rfl⟩ H
  refine s_val rfl rfl (r_not rfl rfl rfl) ?_
  refine s_val rfl rfl (r_as rfl rfl) ?_
  refine s_nil ?_
  refine q_then ?_
  refine c_env [(2, .bool (!(xs.any (fun p => !decide (mayP p)))))] ⟨rfl, trivial⟩ ?_
  refine c_ret ?_
  refine q_ret1 rfl rfl ?_
  exact fin ⟨congrArg Value.bool (may_any xs), rfl⟩ H

end Go.Proofs.YtlpgdkbokakniaaGreatDoor.X

set_option linter.unusedVariables false
namespace Go.Proofs.YtlpgdkbokakniaaGreatDoor.X
open Go
theorem emit_len {told : List Pair} {k v : ByteArray} (h : told.length ≤ 40) : (emitM told k v).2.length ≤ 40 := by
  unfold emitM
  split
  · exact h
  · split
    · exact h
    · simp only [List.length_append, List.length_cons, List.length_nil]; omega
theorem nextM_told (m : VM) : (nextM m).1.told = m.told := by
  rw [next_S]
def TL (r : VM × Int) : Prop := r.1.told.length ≤ 40
theorem ite_p {c : Prop} [Decidable c] {x y : VM × Int} (hx : TL x) (hy : TL y) : TL (if c then x else y) := by
  split
  · exact hx
  · exact hy
theorem act_told {D : Dig} {key : ByteArray} {m : VM} {i : Ins} {v : List Val} (h : m.told.length ≤ 40) : (actM D key m i v).1.told.length ≤ 40 := by
  have hn : TL (nextM m) := by unfold TL; rw [nextM_told]; exact h
  have h20 : TL (if (v.getD 0 val0).n ≠ 0 then {m with pos := i.a} else m, 0) := by
    unfold TL
    dsimp only
    split <;> exact h
  exact ite_p h (ite_p h (ite_p h (ite_p h (ite_p h (ite_p h (ite_p hn (ite_p h (ite_p h (ite_p h (ite_p h (ite_p h (ite_p h (ite_p h (ite_p h (ite_p h (ite_p h20 (ite_p h (ite_p h (ite_p (emit_len h) h)))))))))))))))))))
theorem does_told {D : Dig} {key : ByteArray} {m : VM} {i : Ins} (h : m.told.length ≤ 40) : (doesM D key m i).1.told.length ≤ 40 := by
  unfold doesM
  split
  · exact h
  · exact act_told h
theorem play_told {D : Dig} {p : List Ins} {key : ByteArray} : ∀ (k : Nat) {m : VM}, m.told.length ≤ 40 → (playM D p key k m).1.told.length ≤ 40
  | 0, m, h => by
    unfold playM
    split <;> exact h
  | k + 1, m, h => by
    unfold playM
    split
    · split
      · split
        · exact does_told h
        · exact play_told k (does_told h)
      · exact h
    · exact h
theorem run_told (D : Dig) (p : List Ins) (key : ByteArray) (vals : List ByteArray) (fuel : Int) : (runM D p key vals fuel).1.length ≤ 40 := by
  unfold runM
  split
  · exact Nat.zero_le _
  · split
    · exact Nat.zero_le _
    · exact play_told _ (Nat.zero_le _)

def otherKey (k : ByteArray) (l : List Pair) : Bool := l.any fun x => decide (x.key ≠ k)
/-- Key by key. -/
def eachGo (D : Dig) (p : List Ins) (ps : List Pair) (fuel : Int) (own : Bool) : List ByteArray → List Pair → List Pair × Int
  | [], out => (out, 0)
  | k :: ks, out =>
    if (runM D p k (ofL ps k) fuel).2 ≠ 0 then ([], (runM D p k (ofL ps k) fuel).2)
    else if own = true ∧ otherKey k (runM D p k (ofL ps k) fuel).1 = true then ([], 6)
    else if 40 < out.length + (runM D p k (ofL ps k) fuel).1.length then ([], 5)
    else eachGo D p ps fuel own ks (out ++ (runM D p k (ofL ps k) fuel).1)
def eachM (D : Dig) (p : List Ins) (ps : List Pair) (fuel : Int) (own : Bool) : List Pair × Int := eachGo D p ps fuel own (keysL ps) []
def combM (D : Dig) (p : List Ins) (ps : List Pair) (fuel : Int) : List Pair × Int := if p.length = 0 then (srt ps, 0) else eachM D p ps fuel true
section
variable {D : Dig} {p : List Ins} {ps : List Pair} {fuel : Int} {own : Bool} {ks : List ByteArray} {k : ByteArray} {out : List Pair} {i : Nat}
theorem go_end (h : ks.length ≤ i) : eachGo D p ps fuel own (ks.drop i) out = (out, 0) := by
  rw [List.drop_eq_nil_of_le h]; rfl
theorem go_why (hk : ks[i]? = some k) (h : (runM D p k (ofL ps k) fuel).2 ≠ 0) : eachGo D p ps fuel own (ks.drop i) out = ([], (runM D p k (ofL ps k) fuel).2) := by
  rw [drop_at hk]; exact if_pos h
theorem go_key (hk : ks[i]? = some k) (h : ¬ (runM D p k (ofL ps k) fuel).2 ≠ 0) (h2 : own = true) (h3 : otherKey k (runM D p k (ofL ps k) fuel).1 = true) : eachGo D p ps fuel own (ks.drop i) out = ([], 6) := by
  rw [drop_at hk]; unfold eachGo; rw [if_neg h, if_pos ⟨h2, h3⟩]
theorem go_many (hk : ks[i]? = some k) (h : ¬ (runM D p k (ofL ps k) fuel).2 ≠ 0) (h2 : ¬ (own = true ∧ otherKey k (runM D p k (ofL ps k) fuel).1 = true)) (h3 : 40 < out.length + (runM D p k (ofL ps k) fuel).1.length) : eachGo D p ps fuel own (ks.drop i) out = ([], 5) := by
  rw [drop_at hk]; unfold eachGo; rw [if_neg h, if_neg h2, if_pos h3]
theorem go_on (hk : ks[i]? = some k) (h : ¬ (runM D p k (ofL ps k) fuel).2 ≠ 0) (h2 : ¬ (own = true ∧ otherKey k (runM D p k (ofL ps k) fuel).1 = true)) (h3 : ¬ 40 < out.length + (runM D p k (ofL ps k) fuel).1.length) :
    eachGo D p ps fuel own (ks.drop (i + 1)) (out ++ (runM D p k (ofL ps k) fuel).1) = eachGo D p ps fuel own (ks.drop i) out := by
  rw [drop_at hk]; conv => rhs; unfold eachGo
  rw [if_neg h, if_neg h2, if_neg h3]
end
theorem each_len (D : Dig) (p : List Ins) (ps : List Pair) (fuel : Int) (own : Bool) : ∀ (ks : List ByteArray) (out : List Pair), out.length ≤ 40 → (eachGo D p ps fuel own ks out).1.length ≤ 40
  | [], out, h => h
  | k :: ks, out, h => by
    unfold eachGo
    split
    · exact Nat.zero_le _
    · split
      · exact Nat.zero_le _
      · split
        · exact Nat.zero_le _
        · exact each_len D p ps fuel own ks _ (by simp only [List.length_append]; omega)
def firstP : List Ins := [⟨6, 0, ⟨#[]⟩⟩, ⟨7, 0, ⟨#[]⟩⟩, ⟨4, 0, ⟨#[]⟩⟩, ⟨23, 0, ⟨#[]⟩⟩]
theorem in64_first : ∀ i ∈ firstP, In64 i.a := by
  intro i hi
  simp only [firstP, List.mem_cons, List.not_mem_nil, or_false] at hi
  rcases hi with rfl | rfl | rfl | rfl <;> exact in0
end Go.Proofs.YtlpgdkbokakniaaGreatDoor.X

