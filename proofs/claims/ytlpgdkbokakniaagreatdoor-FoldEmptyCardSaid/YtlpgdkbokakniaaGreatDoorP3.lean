/- Pairs. -/
import Derived.Test.YtlpgdkbokakniaaGreatDoorP2
import Derived.Test.YtlpgdkbokakniaaGreatDoorP1
set_option linter.unusedVariables false
set_option linter.unusedSimpArgs false
namespace Go.Proofs.YtlpgdkbokakniaaGreatDoor.X
open Go
set_option maxHeartbeats 1000000 in
theorem samePairs_ok (v1 v2 : Value) (xs ys : List Pair) :
    Cn Tryz.prog 19 [v1, v2] [] [rsl kPair v1 xs, rsl kPair v2 ys] (fun v Bs => v = .bool (decide (xs = ys)) ∧ Bs = []) := by
  intro w0 F0 H
  obtain ⟨A1, c2, rfl, hc3, hm4, hp5⟩ := H.fR 0 rfl
  obtain ⟨A6, c7, rfl, hc8, hm9, hp10⟩ := H.fR 1 rfl
  refine enter (args := [.slice A1 xs.length c2, .slice A6 ys.length c7]) Tryz.func19 rfl rfl (Nat.le_of_ble_eq_true rfl) ?_
  refine c_seq ?_
  refine c_reg ?_
  refine s_val rfl rfl (r_as rfl rfl) ?_
  refine s_nil ?_
  refine q_then ?_
  replace H : Hd _ _ _ [] [rsl kPair (.slice A1 xs.length c2) xs, rsl kPair (.slice A6 ys.length c7) ys] := H
  refine c_env [(0, .slice A1 xs.length c2), (1, .slice A6 ys.length c7), (4, .bool false)] ⟨rfl, rfl, rfl, trivial⟩ ?_
  refine c_seq ?_
  refine c_seq ?_
  refine c_reg ?_
  refine s_val rfl rfl (r_mv rfl rfl) ?_
  refine s_val rfl rfl (r_lenL rfl un23 rfl) ?_
  refine s_val rfl rfl (r_mv rfl rfl) ?_
  refine s_val rfl rfl (r_lenL rfl un23 rfl) ?_
  refine s_val rfl rfl (r_ne rfl rfl rfl) ?_
  refine s_nil ?_
  refine q_then ?_
  refine c_env [(0, .slice A1 xs.length c2), (1, .slice A6 ys.length c7), (4, .bool false), (10, .bool (decide (((xs.length : Nat) : Int) ≠ ((ys.length : Nat) : Int))))] ⟨rfl, rfl, rfl, rfl, trivial⟩ ?_
  refine c_dec (p := ((xs.length : Nat) : Int) ≠ ((ys.length : Nat) : Int)) rfl (fun h11 => ?_) (fun h11 => ?_)
  · skip
    refine c_seq ?_
    refine c_reg ?_
    refine s_val rfl rfl (r_as rfl rfl) ?_
    refine s_nil ?_
    refine q_then ?_
    refine c_env [(0, .slice A1 xs.length c2), (1, .slice A6 ys.length c7), (4, .bool false)] ⟨rfl, rfl, rfl, trivial⟩ ?_
    refine c_ret ?_
    refine q_thenR ?_
    refine q_ret1 rfl rfl ?_
    have e : ¬ xs = ys := fun e => h11 (by rw [e])
    exact fin ⟨by rw [decide_eq_false e], rfl⟩ H
  · skip
    refine c_skip ?_
    refine q_then ?_
    refine c_env [(0, .slice A1 xs.length c2), (1, .slice A6 ys.length c7), (4, .bool false)] ⟨rfl, rfl, rfl, trivial⟩ ?_
    refine c_seq ?_
    refine c_seq ?_
    refine c_reg ?_
    refine s_val rfl rfl (r_as rfl rfl) ?_
    refine s_nil ?_
    refine q_then ?_
    refine c_env [(0, .slice A1 xs.length c2), (1, .slice A6 ys.length c7), (4, .bool false), (5, .int .i64 0)] ⟨rfl, rfl, rfl, rfl, trivial⟩ ?_
    refine c_block ?_
    have hle : xs.length = ys.length := by omega
    refine c_loop (σ := Nat) (fun k => [(0, .slice A1 xs.length c2), (1, .slice A6 ys.length c7), (5, .int .i64 ((k : Nat) : Int))]) (fun k w => (Hd w0 F0 w [] [rsl kPair (.slice A1 xs.length c2) xs, rsl kPair (.slice A6 ys.length c7) ys]) ∧ (k ≤ xs.length) ∧ (xs.length = ys.length) ∧ (xs.take k = ys.take k)) (fun k => xs.length - k) 0 ⟨rfl, rfl, rfl, trivial⟩ ⟨H, by omega, hle, rfl⟩ ?_
    rintro k w ⟨H, hk, hle, ht⟩
    refine c_seq ?_
    refine c_seq ?_
    refine c_reg ?_
    refine s_val rfl rfl (r_mv rfl rfl) ?_
    refine s_val rfl rfl (r_mv rfl rfl) ?_
    refine s_val rfl rfl (r_lenL rfl un23 rfl) ?_
    refine s_val rfl rfl (r_lt rfl rfl rfl) ?_
    refine s_nil ?_
    refine q_then ?_
    refine c_env [(0, .slice A1 xs.length c2), (1, .slice A6 ys.length c7), (5, .int .i64 ((k : Nat) : Int)), (14, .bool (decide (((k : Nat) : Int) < ((xs.length : Nat) : Int))))] ⟨rfl, rfl, rfl, rfl, trivial⟩ ?_
    refine c_dec (p := ((k : Nat) : Int) < ((xs.length : Nat) : Int)) rfl (fun h12 => ?_) (fun h12 => ?_)
    · skip
      refine c_skip ?_
      refine q_then ?_
      refine c_env [(0, .slice A1 xs.length c2), (1, .slice A6 ys.length c7), (5, .int .i64 ((k : Nat) : Int))] ⟨rfl, rfl, rfl, trivial⟩ ?_
      refine c_seq ?_
      refine c_block ?_
      refine c_seq ?_
      refine c_draw mo (by kernel_rfl) H ?_
      refine u_val rfl rfl (fun w H => r_mv rfl rfl) ?_
      refine u_val rfl rfl (fun w H => r_mv rfl rfl) ?_
      obtain ⟨x13, hx14⟩ : ∃ z9, xs[k]? = some z9 := ⟨_, List.getElem?_eq_getElem (show k < xs.length by omega)⟩
      have th15 := H.thR 0 rfl hx14
      refine u_val rfl rfl (fun w H => r_iaE (p := oOf A1 + k * 2) rfl sl23 rfl rfl (by omega) (by omega) th15 rfl) ?_
      refine u_val rfl rfl (fun w H => r_ldA (cs := [.string x13.key, .string x13.val]) rfl ty56 rfl rfl (H.elsR 0 rfl hx14 rfl)) ?_
      refine u_val rfl rfl (fun w H => r_mv rfl rfl) ?_
      refine u_val rfl rfl (fun w H => r_mv rfl rfl) ?_
      obtain ⟨x16, hx17⟩ : ∃ z9, ys[k]? = some z9 := ⟨_, List.getElem?_eq_getElem (show k < ys.length by omega)⟩
      have th18 := H.thR 1 rfl hx17
      refine u_val rfl rfl (fun w H => r_iaE (p := oOf A6 + k * 2) rfl sl23 rfl rfl (by omega) (by omega) th18 rfl) ?_
      refine u_val rfl rfl (fun w H => r_ldA (cs := [.string x16.key, .string x16.val]) rfl ty56 rfl rfl (H.elsR 1 rfl hx17 rfl)) ?_
      refine u_val rfl rfl (fun w H => r_nePair (p := x13) (q := x16) rfl eqz56 rfl rfl) ?_
      refine u_end (fun w H => ?_)
      refine q_then ?_
      refine c_env [(0, .slice A1 xs.length c2), (1, .slice A6 ys.length c7), (5, .int .i64 ((k : Nat) : Int)), (25, .bool (decide (x13 ≠ x16)))] ⟨rfl, rfl, rfl, rfl, trivial⟩ ?_
      refine c_dec (p := x13 ≠ x16) rfl (fun h19 => ?_) (fun h19 => ?_)
      · skip
        refine c_seq ?_
        refine c_reg ?_
        refine s_val rfl rfl (r_as rfl rfl) ?_
        refine s_nil ?_
        refine q_then ?_
        refine c_env [(0, .slice A1 xs.length c2), (1, .slice A6 ys.length c7), (4, .bool false), (5, .int .i64 ((k : Nat) : Int))] ⟨rfl, rfl, rfl, rfl, trivial⟩ ?_
        refine c_ret ?_
        refine q_blockR ?_
        refine q_thenR ?_
        refine q_thenR ?_
        refine q_blockR ?_
        refine q_thenR ?_
        refine q_ret1 rfl rfl ?_
        have e : ¬ xs = ys := fun e => h19 (by rw [e, hx17] at hx14; exact (Option.some.inj hx14).symm)
        exact fin ⟨by rw [decide_eq_false e], rfl⟩ H
      · skip
        refine c_skip ?_
        refine q_blockN ?_
        refine q_then ?_
        refine c_env [(0, .slice A1 xs.length c2), (1, .slice A6 ys.length c7), (5, .int .i64 ((k : Nat) : Int))] ⟨rfl, rfl, rfl, trivial⟩ ?_
        refine c_reg ?_
        refine s_val rfl rfl (r_mv rfl rfl) ?_
        refine s_val rfl rfl (r_add (z := ((k + 1 : Nat) : Int)) rfl rfl rfl (by rw [w64 (by omega) (by omega)]; omega)) ?_
        refine s_val rfl rfl (r_as rfl rfl) ?_
        refine s_nil ?_
        have e : x13 = x16 := Classical.not_not.1 h19
        subst e
        exact q_round (s := k) (k + 1) ⟨rfl, rfl, rfl, trivial⟩ ⟨H, by omega, hle, take_more hx14 hx17 ht⟩ (by (try dsimp only); omega)
    · skip
      refine c_exit ?_
      refine q_thenE ?_
      refine q_thenE ?_
      refine q_blockE ?_
      refine q_then ?_
      refine c_env [] trivial ?_
      refine c_seq ?_
      refine c_reg ?_
      refine s_val rfl rfl (r_as rfl rfl) ?_
      refine s_nil ?_
      refine q_then ?_
      refine c_env [(4, .bool true)] ⟨rfl, trivial⟩ ?_
      refine c_ret ?_
      refine q_ret1 rfl rfl ?_
      have e : xs = ys := by rw [← take_all (xs := xs) (k := k) (by omega), ← take_all (xs := ys) (k := k) (by omega)]; exact ht
      exact fin ⟨by rw [decide_eq_true e], rfl⟩ H


set_option maxHeartbeats 1000000 in
theorem overPairs_ok (v : Value) (xs : List Pair) (hb : xs.length ≤ 1000000) :
    Cn Tryz.prog 20 [v] [osl kPair v xs] [] (fun _ Bs => Bs = []) := by
  intro w0 F0 H
  obtain ⟨A1, c2, rfl, hc3, hm4, hp5⟩ := H.fA 0 rfl
  refine enter (args := [.slice A1 xs.length c2]) Tryz.func20 rfl rfl (Nat.le_of_ble_eq_true rfl) ?_
  refine c_seq ?_
  refine c_seq ?_
  refine c_reg ?_
  refine s_val rfl rfl (r_as rfl rfl) ?_
  refine s_nil ?_
  refine q_then ?_
  replace H : Hd _ _ _ [osl kPair (.slice A1 xs.length c2) xs] [] := H
  refine c_env [(0, .slice A1 xs.length c2), (2, .int .i64 0)] ⟨rfl, rfl, trivial⟩ ?_
  refine c_block ?_
  refine c_loop (σ := Nat × List Pair) (fun (k, ys) => [(0, .slice A1 xs.length c2), (2, .int .i64 ((k : Nat) : Int))]) (fun (k, ys) w => (Hd w0 F0 w [osl kPair (.slice A1 xs.length c2) ys] []) ∧ (k ≤ xs.length) ∧ (ys.length = xs.length)) (fun (k, ys) => xs.length - k) (0, xs) ⟨rfl, rfl, trivial⟩ ⟨H, by omega, rfl⟩ ?_
  rintro ⟨k, ys⟩ w ⟨H, hk, hl⟩
  refine c_seq ?_
  refine c_seq ?_
  refine c_reg ?_
  refine s_val rfl rfl (r_mv rfl rfl) ?_
  refine s_val rfl rfl (r_mv rfl rfl) ?_
  refine s_val rfl rfl (r_lenL rfl un23 rfl) ?_
  refine s_val rfl rfl (r_lt rfl rfl rfl) ?_
  refine s_nil ?_
  refine q_then ?_
  refine c_env [(0, .slice A1 xs.length c2), (2, .int .i64 ((k : Nat) : Int)), (6, .bool (decide (((k : Nat) : Int) < ((xs.length : Nat) : Int))))] ⟨rfl, rfl, rfl, trivial⟩ ?_
  refine c_dec (p := ((k : Nat) : Int) < ((xs.length : Nat) : Int)) rfl (fun h6 => ?_) (fun h6 => ?_)
  · skip
    refine c_skip ?_
    refine q_then ?_
    refine c_env [(0, .slice A1 xs.length c2), (2, .int .i64 ((k : Nat) : Int))] ⟨rfl, rfl, trivial⟩ ?_
    refine c_seq ?_
    refine c_block ?_
    refine c_reg ?_
    refine s_val rfl rfl (r_mv rfl rfl) ?_
    refine s_val rfl rfl (r_mv rfl rfl) ?_
    refine s_val rfl rfl (r_bd (parts := [(0, .const (.string ⟨#[111, 118, 101, 114]⟩))]) (vs := [.string ⟨#[111, 118, 101, 114]⟩]) (cs := [.string ⟨#[111, 118, 101, 114]⟩, .string ⟨#[]⟩]) rfl bd56 rfl rfl) ?_
    obtain ⟨x7, hx8⟩ : ∃ z9, ys[k]? = some z9 := ⟨_, List.getElem?_eq_getElem (show k < ys.length by omega)⟩
    have th9 := H.thA 0 rfl hx8
    refine s_val rfl rfl (r_iaE (p := oOf A1 + k * 2) rfl sl23 rfl rfl (by omega) (by omega) th9 rfl) ?_
    refine s_stO (i := k) (a := (⟨⟨#[111, 118, 101, 114]⟩, ⟨#[]⟩⟩ : Pair)) rfl rfl rfl ty56 rfl rfl rfl H (by omega) rfl (fun w H => ?_)
    refine s_nil ?_
    refine q_blockN ?_
    refine q_then ?_
    replace H : Hd _ _ _ [osl kPair (.slice A1 xs.length c2) (ys.set k (⟨⟨#[111, 118, 101, 114]⟩, ⟨#[]⟩⟩ : Pair))] [] := H
    refine c_env [(0, .slice A1 xs.length c2), (2, .int .i64 ((k : Nat) : Int))] ⟨rfl, rfl, trivial⟩ ?_
    refine c_reg ?_
    refine s_val rfl rfl (r_mv rfl rfl) ?_
    refine s_val rfl rfl (r_add (z := ((k + 1 : Nat) : Int)) rfl rfl rfl (by rw [w64 (by omega) (by omega)]; omega)) ?_
    refine s_val rfl rfl (r_as rfl rfl) ?_
    refine s_nil ?_
    have hl2 : (ys.set k (⟨⟨#[111, 118, 101, 114]⟩, ⟨#[]⟩⟩ : Pair)).length = xs.length := by rw [List.length_set]; exact hl
    exact q_round (s := (k, ys)) (k + 1, ys.set k (⟨⟨#[111, 118, 101, 114]⟩, ⟨#[]⟩⟩ : Pair)) ⟨rfl, rfl, trivial⟩ ⟨H, by omega, hl2⟩ (by (try dsimp only); omega)
  · skip
    refine c_exit ?_
    refine q_thenE ?_
    refine q_thenE ?_
    refine q_blockE ?_
    refine q_then ?_
    refine c_env [(0, .slice A1 xs.length c2)] ⟨rfl, trivial⟩ ?_
    refine c_reg ?_
    refine s_val rfl rfl (r_mv rfl rfl) ?_
    refine s_val rfl rfl (r_bd (parts := [(0, .const (.string ⟨#[111, 118, 101, 114]⟩))]) (vs := [.string ⟨#[111, 118, 101, 114]⟩]) (cs := [.string ⟨#[111, 118, 101, 114]⟩, .string ⟨#[]⟩]) rfl bd56 rfl rfl) ?_
    refine s_bsl (parts := [(0, .tmp 14)]) (vs := [.agg #[.string ⟨#[111, 118, 101, 114]⟩, .string ⟨#[]⟩]]) (cs := [.string ⟨#[111, 118, 101, 114]⟩, .string ⟨#[]⟩]) rfl rfl rfl sl23 zr56 rfl (by decide) (by decide) rfl rfl H (fun b10 w H => ?_)
    replace H := H.pick 1 rfl
    refine s_appF (xs := ys) (ys := [(⟨⟨#[111, 118, 101, 114]⟩, ⟨#[]⟩⟩ : Pair)]) rfl rfl rfl sl23 zr56 rfl (by decide) rfl rfl H (by omega) (fun F hA hR => blk_rsl (hA _ (List.mem_of_getElem? (i := 0) rfl)) rfl (by decide) (RepsR.flat_eq.2 rfl)) (fun v11 w H => ?_)
    refine s_nil ?_
    refine q_end rfl ?_
    replace H := H.keep 0
    exact fin rfl H


set_option maxHeartbeats 1000000 in
theorem greatPairs_ok (vxs : Value) (xs : List Pair) (n : Int) :
    Cn Tryz.prog 14 [vxs, .int .i64 n] [] [rsl kPair vxs xs] (fun v Bs => v = .bool (greatP xs n) ∧ Bs = []) := by
  intro w0 F0 H
  obtain ⟨A1, c2, rfl, hc3, hm4, hp5⟩ := H.fR 0 rfl
  refine enter (args := [.slice A1 xs.length c2, .int .i64 n]) Tryz.func14 rfl rfl (Nat.le_of_ble_eq_true rfl) ?_
  refine c_seq ?_
  refine c_reg ?_
  refine s_val rfl rfl (r_as rfl rfl) ?_
  refine s_nil ?_
  refine q_then ?_
  replace H : Hd _ _ _ [] [rsl kPair (.slice A1 xs.length c2) xs] := H
  refine c_env [(0, .slice A1 xs.length c2), (1, .int .i64 n), (4, .bool false)] ⟨rfl, rfl, rfl, trivial⟩ ?_
  refine c_seq ?_
  refine c_seq ?_
  refine c_reg ?_
  refine s_val rfl rfl (r_as rfl rfl) ?_
  refine s_nil ?_
  refine q_then ?_
  refine c_env [(0, .slice A1 xs.length c2), (1, .int .i64 n), (4, .bool false), (5, .int .i64 0)] ⟨rfl, rfl, rfl, rfl, trivial⟩ ?_
  refine c_block ?_
  refine c_loop (σ := Nat) (fun k => [(0, .slice A1 xs.length c2), (1, .int .i64 n), (5, .int .i64 ((k : Nat) : Int))]) (fun k w => (Hd w0 F0 w [] [rsl kPair (.slice A1 xs.length c2) xs]) ∧ (k ≤ xs.length) ∧ (∀ y ∈ xs.take k, y.key.size ≤ 100 ∧ y.val.size ≤ 100)) (fun k => xs.length - k) 0 ⟨rfl, rfl, rfl, trivial⟩ ⟨H, by omega, by simp⟩ ?_
  rintro k w ⟨H, hk, hn⟩
  refine c_seq ?_
  refine c_seq ?_
  refine c_reg ?_
  refine s_val rfl rfl (r_mv rfl rfl) ?_
  refine s_val rfl rfl (r_mv rfl rfl) ?_
  refine s_val rfl rfl (r_lenL rfl un23 rfl) ?_
  refine s_val rfl rfl (r_lt rfl rfl rfl) ?_
  refine s_val rfl rfl (r_mv rfl rfl) ?_
  refine s_dec (d := 10) (p := ((k : Nat) : Int) < ((xs.length : Nat) : Int)) rfl (fun h6 => ?_) (fun h6 => ?_)
  · skip
    refine s_val rfl rfl (r_mv rfl rfl) ?_
    refine s_val rfl rfl (r_lenL rfl un23 rfl) ?_
    refine s_val rfl rfl (r_mv rfl rfl) ?_
    refine s_val rfl rfl (r_le rfl rfl rfl) ?_
    refine s_val rfl rfl (r_pickT rfl rfl rfl) ?_
    refine s_nil ?_
    refine q_then ?_
    refine c_env [(0, .slice A1 xs.length c2), (1, .int .i64 n), (5, .int .i64 ((k : Nat) : Int)), (15, .bool (decide (((xs.length : Nat) : Int) ≤ n)))] ⟨rfl, rfl, rfl, rfl, trivial⟩ ?_
    refine c_dec (p := ((xs.length : Nat) : Int) ≤ n) rfl (fun h7 => ?_) (fun h7 => ?_)
    · skip
      refine c_skip ?_
      refine q_then ?_
      refine c_env [(0, .slice A1 xs.length c2), (1, .int .i64 n), (5, .int .i64 ((k : Nat) : Int))] ⟨rfl, rfl, rfl, trivial⟩ ?_
      refine c_seq ?_
      refine c_block ?_
      refine c_seq ?_
      refine c_reg ?_
      refine s_val rfl rfl (r_mv rfl rfl) ?_
      refine s_val rfl rfl (r_mv rfl rfl) ?_
      obtain ⟨x8, hx9⟩ : ∃ z9, xs[k]? = some z9 := ⟨_, List.getElem?_eq_getElem (show k < xs.length by omega)⟩
      have th10 := H.thR 0 rfl hx9
      refine s_val rfl rfl (r_iaE (p := oOf A1 + k * 2) rfl sl23 rfl rfl (by omega) (by omega) th10 rfl) ?_
      refine s_val rfl rfl (r_fa rfl fo56_0 rfl) ?_
      refine s_val rfl rfl (r_ld rfl ty9 rfl (H.elR 0 rfl hx9 (q := 0) rfl rfl)) ?_
      refine s_val rfl rfl (r_lenS rfl un9 rfl) ?_
      refine s_val rfl rfl (r_gt rfl rfl rfl) ?_
      refine s_val rfl rfl (r_mv rfl rfl) ?_
      refine s_dec (d := 25) (p := (100 : Int) < ((x8.key.size : Nat) : Int)) rfl (fun h11 => ?_) (fun h11 => ?_)
      · skip
        refine s_no rfl rfl ?_
        refine s_no rfl rfl ?_
        refine s_no rfl rfl ?_
        refine s_no rfl rfl ?_
        refine s_no rfl rfl ?_
        refine s_no rfl rfl ?_
        refine s_no rfl rfl ?_
        refine s_val rfl rfl (r_pickT rfl rfl rfl) ?_
        refine s_nil ?_
        refine q_then ?_
        refine c_env [(0, .slice A1 xs.length c2), (1, .int .i64 n), (5, .int .i64 ((k : Nat) : Int)), (33, .bool true)] ⟨rfl, rfl, rfl, rfl, trivial⟩ ?_
        refine c_yes rfl ?_
        refine c_seq ?_
        refine c_reg ?_
        refine s_val rfl rfl (r_as rfl rfl) ?_
        refine s_nil ?_
        refine q_then ?_
        refine c_env [(0, .slice A1 xs.length c2), (1, .int .i64 n), (4, .bool true), (5, .int .i64 ((k : Nat) : Int))] ⟨rfl, rfl, rfl, rfl, trivial⟩ ?_
        refine c_ret ?_
        refine q_blockR ?_
        refine q_thenR ?_
        refine q_thenR ?_
        refine q_blockR ?_
        refine q_thenR ?_
        refine q_ret1 rfl rfl ?_
        exact fin ⟨congrArg Value.bool (greatP_hit hx9 (by omega)), rfl⟩ H
      · skip
        refine s_val rfl rfl (r_mv rfl rfl) ?_
        refine s_val rfl rfl (r_mv rfl rfl) ?_
        have th12 := H.thR 0 rfl hx9
        refine s_val rfl rfl (r_iaE (p := oOf A1 + k * 2) rfl sl23 rfl rfl (by omega) (by omega) th12 rfl) ?_
        refine s_val rfl rfl (r_fa rfl fo56_1 rfl) ?_
        refine s_val rfl rfl (r_ld rfl ty9 rfl (H.elR 0 rfl hx9 (q := 1) rfl rfl)) ?_
        refine s_val rfl rfl (r_lenS rfl un9 rfl) ?_
        refine s_val rfl rfl (r_gt rfl rfl rfl) ?_
        refine s_val rfl rfl (r_pickF rfl rfl rfl) ?_
        refine s_nil ?_
        refine q_then ?_
        refine c_env [(0, .slice A1 xs.length c2), (1, .int .i64 n), (5, .int .i64 ((k : Nat) : Int)), (33, .bool (decide ((100 : Int) < ((x8.val.size : Nat) : Int))))] ⟨rfl, rfl, rfl, rfl, trivial⟩ ?_
        refine c_dec (p := (100 : Int) < ((x8.val.size : Nat) : Int)) rfl (fun h13 => ?_) (fun h13 => ?_)
        · skip
          refine c_seq ?_
          refine c_reg ?_
          refine s_val rfl rfl (r_as rfl rfl) ?_
          refine s_nil ?_
          refine q_then ?_
          refine c_env [(0, .slice A1 xs.length c2), (1, .int .i64 n), (4, .bool true), (5, .int .i64 ((k : Nat) : Int))] ⟨rfl, rfl, rfl, rfl, trivial⟩ ?_
          refine c_ret ?_
          refine q_blockR ?_
          refine q_thenR ?_
          refine q_thenR ?_
          refine q_blockR ?_
          refine q_thenR ?_
          refine q_ret1 rfl rfl ?_
          exact fin ⟨congrArg Value.bool (greatP_hit hx9 (by omega)), rfl⟩ H
        · skip
          refine c_skip ?_
          refine q_blockN ?_
          refine q_then ?_
          refine c_env [(0, .slice A1 xs.length c2), (1, .int .i64 n), (5, .int .i64 ((k : Nat) : Int))] ⟨rfl, rfl, rfl, trivial⟩ ?_
          refine c_reg ?_
          refine s_val rfl rfl (r_mv rfl rfl) ?_
          refine s_val rfl rfl (r_add (z := ((k + 1 : Nat) : Int)) rfl rfl rfl (by rw [w64 (by omega) (by omega)]; omega)) ?_
          refine s_val rfl rfl (r_as rfl rfl) ?_
          refine s_nil ?_
          exact q_round (s := k) (k + 1) ⟨rfl, rfl, rfl, trivial⟩ ⟨H, by (try dsimp only); omega, take_prop hn hx9 (by omega)⟩ (by (try dsimp only); omega)
    · skip
      refine c_exit ?_
      refine q_thenE ?_
      refine q_thenE ?_
      refine q_blockE ?_
      refine q_then ?_
      refine c_env [(0, .slice A1 xs.length c2), (1, .int .i64 n)] ⟨rfl, rfl, trivial⟩ ?_
      refine c_seq ?_
      refine c_reg ?_
      refine s_val rfl rfl (r_mv rfl rfl) ?_
      refine s_val rfl rfl (r_lenL rfl un23 rfl) ?_
      refine s_val rfl rfl (r_mv rfl rfl) ?_
      refine s_val rfl rfl (r_gt rfl rfl rfl) ?_
      refine s_val rfl rfl (r_as rfl rfl) ?_
      refine s_nil ?_
      refine q_then ?_
      refine c_env [(4, .bool (decide (n < ((xs.length : Nat) : Int))))] ⟨rfl, trivial⟩ ?_
      refine c_ret ?_
      refine q_ret1 rfl rfl ?_
      exact fin ⟨congrArg Value.bool (greatP_end hn (by omega)), rfl⟩ H
  · skip
    refine s_no rfl rfl ?_
    refine s_no rfl rfl ?_
    refine s_no rfl rfl ?_
    refine s_no rfl rfl ?_
    refine s_val rfl rfl (r_pickF rfl rfl rfl) ?_
    refine s_nil ?_
    refine q_then ?_
    refine c_env [(0, .slice A1 xs.length c2), (1, .int .i64 n), (5, .int .i64 ((k : Nat) : Int)), (15, .bool false)] ⟨rfl, rfl, rfl, rfl, trivial⟩ ?_
    refine c_no rfl ?_
    refine c_exit ?_
    refine q_thenE ?_
    refine q_thenE ?_
    refine q_blockE ?_
    refine q_then ?_
    refine c_env [(0, .slice A1 xs.length c2), (1, .int .i64 n)] ⟨rfl, rfl, trivial⟩ ?_
    refine c_seq ?_
    refine c_reg ?_
    refine s_val rfl rfl (r_mv rfl rfl) ?_
    refine s_val rfl rfl (r_lenL rfl un23 rfl) ?_
    refine s_val rfl rfl (r_mv rfl rfl) ?_
    refine s_val rfl rfl (r_gt rfl rfl rfl) ?_
    refine s_val rfl rfl (r_as rfl rfl) ?_
    refine s_nil ?_
    refine q_then ?_
    refine c_env [(4, .bool (decide (n < ((xs.length : Nat) : Int))))] ⟨rfl, trivial⟩ ?_
    refine c_ret ?_
    refine q_ret1 rfl rfl ?_
    exact fin ⟨congrArg Value.bool (greatP_end hn (by omega)), rfl⟩ H

set_option maxHeartbeats 1000000 in
theorem pOf_ok (vxs : Value) (xs : List Pair) (key : ByteArray) (hb : xs.length ≤ 1000000) :
    Cn Tryz.prog 55 [vxs, .string key] [] [rsl kPair vxs xs] (fun v Bs => Bs = [osl kStr v (ofL xs key)]) := by
  intro w0 F0 H
  obtain ⟨A1, c2, rfl, hc3, hm4, hp5⟩ := H.fR 0 rfl
  refine enter (args := [.slice A1 xs.length c2, .string key]) Tryz.func55 rfl rfl (Nat.le_of_ble_eq_true rfl) ?_
  refine c_seq ?_
  refine c_reg ?_
  refine s_val rfl rfl (r_as rfl rfl) ?_
  refine s_nil ?_
  refine q_then ?_
  replace H : Hd _ _ _ [] [rsl kPair (.slice A1 xs.length c2) xs] := H
  refine c_env [(0, .slice A1 xs.length c2), (1, .string key), (4, .slice none 0 0)] ⟨rfl, rfl, rfl, trivial⟩ ?_
  refine c_seq ?_
  refine c_reg ?_
  refine s_val rfl rfl (r_as rfl rfl) ?_
  refine s_nil ?_
  refine q_then ?_
  refine c_env [(0, .slice A1 xs.length c2), (1, .string key), (4, .slice none 0 0), (5, .slice none 0 0)] ⟨rfl, rfl, rfl, rfl, trivial⟩ ?_
  refine c_seq ?_
  refine c_seq ?_
  refine c_reg ?_
  refine s_val rfl rfl (r_mv rfl rfl) ?_
  refine s_val rfl rfl (r_lenL rfl un23 rfl) ?_
  refine s_val rfl rfl (r_mv rfl rfl) ?_
  refine s_nil ?_
  refine q_then ?_
  refine c_env [(1, .string key), (4, .slice none 0 0), (5, .slice none 0 0), (8, .slice A1 xs.length c2), (9, .int .i64 ((xs.length : Nat) : Int)), (10, .int .i64 0)] ⟨rfl, rfl, rfl, rfl, rfl, rfl, trivial⟩ ?_
  refine c_block ?_
  replace H := H.newnil kStr
  refine c_loop (σ := Nat × Value) (fun (k, l) => [(1, .string key), (4, .slice none 0 0), (5, l), (8, .slice A1 xs.length c2), (9, .int .i64 ((xs.length : Nat) : Int)), (10, .int .i64 ((k : Nat) : Int))]) (fun (k, l) w => (Hd w0 F0 w [osl kStr l (ofL (xs.take k) key)] [rsl kPair (.slice A1 xs.length c2) xs]) ∧ (k ≤ xs.length)) (fun (k, l) => xs.length - k) (0, .slice none 0 0) ⟨rfl, rfl, rfl, rfl, rfl, rfl, trivial⟩ ⟨H, by (try dsimp only); omega⟩ ?_
  rintro ⟨k, l⟩ w ⟨H, hk⟩
  have hjl := ofL_len (xs.take k) key
  have hjt : (xs.take k).length ≤ xs.length := by simp; omega
  refine c_seq ?_
  refine c_reg ?_
  refine s_val rfl rfl (r_lt rfl rfl rfl) ?_
  refine s_nil ?_
  refine q_then ?_
  refine c_env [(1, .string key), (4, .slice none 0 0), (5, l), (8, .slice A1 xs.length c2), (9, .int .i64 ((xs.length : Nat) : Int)), (10, .int .i64 ((k : Nat) : Int)), (11, .bool (decide (((k : Nat) : Int) < ((xs.length : Nat) : Int))))] ⟨rfl, rfl, rfl, rfl, rfl, rfl, rfl, trivial⟩ ?_
  refine c_seq ?_
  refine c_dec (p := ((k : Nat) : Int) < ((xs.length : Nat) : Int)) rfl (fun h6 => ?_) (fun h6 => ?_)
  · skip
    refine c_skip ?_
    refine q_then ?_
    refine c_env [(1, .string key), (4, .slice none 0 0), (5, l), (8, .slice A1 xs.length c2), (9, .int .i64 ((xs.length : Nat) : Int)), (10, .int .i64 ((k : Nat) : Int))] ⟨rfl, rfl, rfl, rfl, rfl, rfl, trivial⟩ ?_
    refine c_seq ?_
    refine c_block ?_
    refine c_seq ?_
    refine c_reg ?_
    obtain ⟨x7, hx8⟩ : ∃ z9, xs[k]? = some z9 := ⟨_, List.getElem?_eq_getElem (show k < xs.length by omega)⟩
    have th9 := H.thR 0 rfl hx8
    refine s_val rfl rfl (r_iaE (p := oOf A1 + k * 2) rfl sl23 rfl rfl (by omega) (by omega) th9 rfl) ?_
    refine s_val rfl rfl (r_ldA (cs := [.string x7.key, .string x7.val]) rfl ty56 rfl rfl (H.elsR 0 rfl hx8 rfl)) ?_
    refine s_alloc rfl rfl rfl zr56 H (fun b10 w H => ?_)
    refine s_st rfl rfl rfl ty56 rfl rfl H rfl (Nat.le_of_ble_eq_true rfl) (fun u hu => by simp [Value.cells] at hu; rcases hu with rfl | rfl <;> rfl) (fun w H => ?_)
    replace H : Hd _ _ _ [blk b10 [.string x7.key, .string x7.val] 56, osl kStr l (ofL (xs.take k) key)] [rsl kPair (.slice A1 xs.length c2) xs] := H
    refine s_nil ?_
    refine q_then ?_
    refine c_env [(1, .string key), (4, .slice none 0 0), (5, l), (7, .pointer (some ⟨b10, 0, none⟩)), (8, .slice A1 xs.length c2), (9, .int .i64 ((xs.length : Nat) : Int)), (10, .int .i64 ((k : Nat) : Int))] ⟨rfl, rfl, rfl, rfl, rfl, rfl, rfl, trivial⟩ ?_
    refine c_seq ?_
    refine c_reg ?_
    refine s_val rfl rfl (r_fa rfl fo56_0 rfl) ?_
    refine s_val rfl rfl (r_ld rfl ty9 rfl (H.cellI 0 rfl rfl)) ?_
    refine s_val rfl rfl (r_mv rfl rfl) ?_
    refine s_val rfl rfl (r_eqS rfl rfl rfl) ?_
    refine s_nil ?_
    refine q_then ?_
    refine c_env [(1, .string key), (4, .slice none 0 0), (5, l), (7, .pointer (some ⟨b10, 0, none⟩)), (8, .slice A1 xs.length c2), (9, .int .i64 ((xs.length : Nat) : Int)), (10, .int .i64 ((k : Nat) : Int)), (17, .bool (decide (x7.key = key)))] ⟨rfl, rfl, rfl, rfl, rfl, rfl, rfl, rfl, trivial⟩ ?_
    refine c_dec (p := x7.key = key) rfl (fun h11 => ?_) (fun h11 => ?_)
    · skip
      refine c_reg ?_
      refine s_val rfl rfl (r_mv rfl rfl) ?_
      refine s_val rfl rfl (r_fa rfl fo56_1 rfl) ?_
      refine s_val rfl rfl (r_ld rfl ty9 rfl (H.cellI 0 rfl rfl)) ?_
      refine s_bsl (parts := [(0, .tmp 20)]) (vs := [.string x7.val]) (cs := [.string x7.val]) rfl rfl rfl sl75 zr9 rfl (by decide) (by decide) rfl rfl H (fun b12 w H => ?_)
      replace H := H.pick 2 rfl
      refine s_appF (xs := ofL (xs.take k) key) (ys := [x7.val]) rfl rfl rfl sl75 zr9 rfl (by decide) rfl rfl H (by omega) (fun F hA hR => blk_rsl (hA _ (List.mem_of_getElem? (i := 0) rfl)) rfl (by decide) (RepsR.flat_eq.2 rfl)) (fun v13 w H => ?_)
      refine s_val rfl rfl (r_as rfl rfl) ?_
      refine s_nil ?_
      refine q_blockN ?_
      refine q_then ?_
      replace H : Hd _ _ _ [osl kStr v13 ((ofL (xs.take k) key) ++ [x7.val]), blk b12 [.string x7.val] 9, blk b10 [.string x7.key, .string x7.val] 56] [rsl kPair (.slice A1 xs.length c2) xs] := H
      refine c_env [(1, .string key), (4, .slice none 0 0), (5, v13), (8, .slice A1 xs.length c2), (9, .int .i64 ((xs.length : Nat) : Int)), (10, .int .i64 ((k : Nat) : Int))] ⟨rfl, rfl, rfl, rfl, rfl, rfl, trivial⟩ ?_
      refine c_reg ?_
      refine s_val rfl rfl (r_add (z := ((k + 1 : Nat) : Int)) rfl rfl rfl (by rw [w64 (by omega) (by omega)]; omega)) ?_
      refine s_val rfl rfl (r_mv rfl rfl) ?_
      refine s_nil ?_
      rw [← ofk_yes hx8 h11] at H
      replace H := H.keep 1
      exact q_round (s := (k, undef)) (k + 1, v13) ⟨rfl, rfl, rfl, rfl, rfl, rfl, trivial⟩ ⟨H, by (try dsimp only); omega⟩ (by (try dsimp only); omega)
    · skip
      refine c_skip ?_
      refine q_blockN ?_
      refine q_then ?_
      refine c_env [(1, .string key), (4, .slice none 0 0), (5, l), (8, .slice A1 xs.length c2), (9, .int .i64 ((xs.length : Nat) : Int)), (10, .int .i64 ((k : Nat) : Int))] ⟨rfl, rfl, rfl, rfl, rfl, rfl, trivial⟩ ?_
      refine c_reg ?_
      refine s_val rfl rfl (r_add (z := ((k + 1 : Nat) : Int)) rfl rfl rfl (by rw [w64 (by omega) (by omega)]; omega)) ?_
      refine s_val rfl rfl (r_mv rfl rfl) ?_
      refine s_nil ?_
      rw [← ofk_no hx8 h11] at H
      replace H := H.pick 1 rfl
      replace H := H.keep 1
      exact q_round (s := (k, undef)) (k + 1, l) ⟨rfl, rfl, rfl, rfl, rfl, rfl, trivial⟩ ⟨H, by (try dsimp only); omega⟩ (by (try dsimp only); omega)
  · skip
    refine c_exit ?_
    refine q_thenE ?_
    refine q_thenE ?_
    refine q_blockE ?_
    refine q_then ?_
    refine c_env [(4, .slice none 0 0), (5, l)] ⟨rfl, rfl, trivial⟩ ?_
    refine c_seq ?_
    refine c_reg ?_
    refine s_val rfl rfl (r_mv rfl rfl) ?_
    refine s_val rfl rfl (r_as rfl rfl) ?_
    refine s_nil ?_
    refine q_then ?_
    refine c_env [(4, l)] ⟨rfl, trivial⟩ ?_
    refine c_ret ?_
    refine q_ret1 rfl rfl ?_
    rw [List.take_of_length_le (show xs.length ≤ k by omega)] at H
    exact fin rfl H

set_option maxHeartbeats 1000000 in
theorem rOf_ok (vxs : Value) (xs : List Pair) (key : ByteArray) (hb : xs.length ≤ 1000000) :
    Cn Tryz.prog 83 [vxs, .string key] [] [rsl kPair vxs xs] (fun v Bs => Bs = [osl kStr v (ofL xs key)]) := by
  intro w0 F0 H
  obtain ⟨A1, c2, rfl, hc3, hm4, hp5⟩ := H.fR 0 rfl
  refine enter (args := [.slice A1 xs.length c2, .string key]) Tryz.func83 rfl rfl (Nat.le_of_ble_eq_true rfl) ?_
  refine c_seq ?_
  refine c_reg ?_
  refine s_val rfl rfl (r_as rfl rfl) ?_
  refine s_nil ?_
  refine q_then ?_
  replace H : Hd _ _ _ [] [rsl kPair (.slice A1 xs.length c2) xs] := H
  refine c_env [(0, .slice A1 xs.length c2), (1, .string key), (4, .slice none 0 0)] ⟨rfl, rfl, rfl, trivial⟩ ?_
  refine c_seq ?_
  refine c_reg ?_
  refine s_val rfl rfl (r_as rfl rfl) ?_
  refine s_nil ?_
  refine q_then ?_
  refine c_env [(0, .slice A1 xs.length c2), (1, .string key), (4, .slice none 0 0), (5, .slice none 0 0)] ⟨rfl, rfl, rfl, rfl, trivial⟩ ?_
  refine c_seq ?_
  refine c_seq ?_
  refine c_reg ?_
  refine s_val rfl rfl (r_as rfl rfl) ?_
  refine s_nil ?_
  refine q_then ?_
  refine c_env [(0, .slice A1 xs.length c2), (1, .string key), (4, .slice none 0 0), (5, .slice none 0 0), (6, .int .i64 0)] ⟨rfl, rfl, rfl, rfl, rfl, trivial⟩ ?_
  refine c_block ?_
  replace H := H.newnil kStr
  refine c_loop (σ := Nat × Value) (fun (k, l) => [(0, .slice A1 xs.length c2), (1, .string key), (4, .slice none 0 0), (5, l), (6, .int .i64 ((k : Nat) : Int))]) (fun (k, l) w => (Hd w0 F0 w [osl kStr l (ofL (xs.take k) key)] [rsl kPair (.slice A1 xs.length c2) xs]) ∧ (k ≤ xs.length)) (fun (k, l) => xs.length - k) (0, .slice none 0 0) ⟨rfl, rfl, rfl, rfl, rfl, trivial⟩ ⟨H, by (try dsimp only); omega⟩ ?_
  rintro ⟨k, l⟩ w ⟨H, hk⟩
  have hjl := ofL_len (xs.take k) key
  have hjt : (xs.take k).length ≤ xs.length := by simp; omega
  refine c_seq ?_
  refine c_seq ?_
  refine c_reg ?_
  refine s_val rfl rfl (r_mv rfl rfl) ?_
  refine s_val rfl rfl (r_mv rfl rfl) ?_
  refine s_val rfl rfl (r_lenL rfl un23 rfl) ?_
  refine s_val rfl rfl (r_lt rfl rfl rfl) ?_
  refine s_nil ?_
  refine q_then ?_
  refine c_env [(0, .slice A1 xs.length c2), (1, .string key), (4, .slice none 0 0), (5, l), (6, .int .i64 ((k : Nat) : Int)), (10, .bool (decide (((k : Nat) : Int) < ((xs.length : Nat) : Int))))] ⟨rfl, rfl, rfl, rfl, rfl, rfl, trivial⟩ ?_
  refine c_dec (p := ((k : Nat) : Int) < ((xs.length : Nat) : Int)) rfl (fun h6 => ?_) (fun h6 => ?_)
  · skip
    refine c_skip ?_
    refine q_then ?_
    refine c_env [(0, .slice A1 xs.length c2), (1, .string key), (4, .slice none 0 0), (5, l), (6, .int .i64 ((k : Nat) : Int))] ⟨rfl, rfl, rfl, rfl, rfl, trivial⟩ ?_
    refine c_seq ?_
    refine c_block ?_
    refine c_seq ?_
    refine c_reg ?_
    refine s_val rfl rfl (r_mv rfl rfl) ?_
    refine s_val rfl rfl (r_mv rfl rfl) ?_
    obtain ⟨x7, hx8⟩ : ∃ z9, xs[k]? = some z9 := ⟨_, List.getElem?_eq_getElem (show k < xs.length by omega)⟩
    have th9 := H.thR 0 rfl hx8
    refine s_val rfl rfl (r_iaE (p := oOf A1 + k * 2) rfl sl23 rfl rfl (by omega) (by omega) th9 rfl) ?_
    refine s_val rfl rfl (r_fa rfl fo56_0 rfl) ?_
    refine s_val rfl rfl (r_ld rfl ty9 rfl (H.elR 0 rfl hx8 (q := 0) rfl rfl)) ?_
    refine s_val rfl rfl (r_mv rfl rfl) ?_
    refine s_val rfl rfl (r_eqS rfl rfl rfl) ?_
    refine s_nil ?_
    refine q_then ?_
    refine c_env [(0, .slice A1 xs.length c2), (1, .string key), (4, .slice none 0 0), (5, l), (6, .int .i64 ((k : Nat) : Int)), (19, .bool (decide (x7.key = key)))] ⟨rfl, rfl, rfl, rfl, rfl, rfl, trivial⟩ ?_
    refine c_dec (p := x7.key = key) rfl (fun h10 => ?_) (fun h10 => ?_)
    · skip
      refine c_reg ?_
      refine s_val rfl rfl (r_mv rfl rfl) ?_
      refine s_val rfl rfl (r_mv rfl rfl) ?_
      refine s_val rfl rfl (r_mv rfl rfl) ?_
      have th11 := H.thR 0 rfl hx8
      refine s_val rfl rfl (r_iaE (p := oOf A1 + k * 2) rfl sl23 rfl rfl (by omega) (by omega) th11 rfl) ?_
      refine s_val rfl rfl (r_fa rfl fo56_1 rfl) ?_
      refine s_val rfl rfl (r_ld rfl ty9 rfl (H.elR 0 rfl hx8 (q := 1) rfl rfl)) ?_
      refine s_bsl (parts := [(0, .tmp 25)]) (vs := [.string x7.val]) (cs := [.string x7.val]) rfl rfl rfl sl75 zr9 rfl (by decide) (by decide) rfl rfl H (fun b12 w H => ?_)
      replace H := H.pick 1 rfl
      refine s_appF (xs := ofL (xs.take k) key) (ys := [x7.val]) rfl rfl rfl sl75 zr9 rfl (by decide) rfl rfl H (by omega) (fun F hA hR => blk_rsl (hA _ (List.mem_of_getElem? (i := 0) rfl)) rfl (by decide) (RepsR.flat_eq.2 rfl)) (fun v13 w H => ?_)
      refine s_val rfl rfl (r_as rfl rfl) ?_
      refine s_nil ?_
      refine q_blockN ?_
      refine q_then ?_
      replace H : Hd _ _ _ [osl kStr v13 ((ofL (xs.take k) key) ++ [x7.val]), blk b12 [.string x7.val] 9] [rsl kPair (.slice A1 xs.length c2) xs] := H
      refine c_env [(0, .slice A1 xs.length c2), (1, .string key), (4, .slice none 0 0), (5, v13), (6, .int .i64 ((k : Nat) : Int))] ⟨rfl, rfl, rfl, rfl, rfl, trivial⟩ ?_
      refine c_reg ?_
      refine s_val rfl rfl (r_mv rfl rfl) ?_
      refine s_val rfl rfl (r_add (z := ((k + 1 : Nat) : Int)) rfl rfl rfl (by rw [w64 (by omega) (by omega)]; omega)) ?_
      refine s_val rfl rfl (r_as rfl rfl) ?_
      refine s_nil ?_
      rw [← ofk_yes hx8 h10] at H
      replace H := H.keep 1
      exact q_round (s := (k, undef)) (k + 1, v13) ⟨rfl, rfl, rfl, rfl, rfl, trivial⟩ ⟨H, by (try dsimp only); omega⟩ (by (try dsimp only); omega)
    · skip
      refine c_skip ?_
      refine q_blockN ?_
      refine q_then ?_
      refine c_env [(0, .slice A1 xs.length c2), (1, .string key), (4, .slice none 0 0), (5, l), (6, .int .i64 ((k : Nat) : Int))] ⟨rfl, rfl, rfl, rfl, rfl, trivial⟩ ?_
      refine c_reg ?_
      refine s_val rfl rfl (r_mv rfl rfl) ?_
      refine s_val rfl rfl (r_add (z := ((k + 1 : Nat) : Int)) rfl rfl rfl (by rw [w64 (by omega) (by omega)]; omega)) ?_
      refine s_val rfl rfl (r_as rfl rfl) ?_
      refine s_nil ?_
      rw [← ofk_no hx8 h10] at H
      exact q_round (s := (k, undef)) (k + 1, l) ⟨rfl, rfl, rfl, rfl, rfl, trivial⟩ ⟨H, by (try dsimp only); omega⟩ (by (try dsimp only); omega)
  · skip
    refine c_exit ?_
    refine q_thenE ?_
    refine q_thenE ?_
    refine q_blockE ?_
    refine q_then ?_
    refine c_env [(4, .slice none 0 0), (5, l)] ⟨rfl, rfl, trivial⟩ ?_
    refine c_seq ?_
    refine c_reg ?_
    refine s_val rfl rfl (r_mv rfl rfl) ?_
    refine s_val rfl rfl (r_as rfl rfl) ?_
    refine s_nil ?_
    refine q_then ?_
    refine c_env [(4, l)] ⟨rfl, trivial⟩ ?_
    refine c_ret ?_
    refine q_ret1 rfl rfl ?_
    rw [List.take_of_length_le (show xs.length ≤ k by omega)] at H
    exact fin rfl H

set_option maxHeartbeats 1000000 in
theorem pKeys_ok (vxs : Value) (xs : List Pair) (hb : xs.length ≤ 1000000) :
    Cn Tryz.prog 53 [vxs] [] [rsl kPair vxs xs] (fun v Bs => Bs = [osl kStr v (keysL xs)]) := by
  intro w0 F0 H
  obtain ⟨A1, c2, rfl, hc3, hm4, hp5⟩ := H.fR 0 rfl
  refine enter (args := [.slice A1 xs.length c2]) Tryz.func53 rfl rfl (Nat.le_of_ble_eq_true rfl) ?_
  refine c_seq ?_
  refine c_reg ?_
  refine s_val rfl rfl (r_as rfl rfl) ?_
  refine s_nil ?_
  refine q_then ?_
  replace H : Hd _ _ _ [] [rsl kPair (.slice A1 xs.length c2) xs] := H
  refine c_env [(0, .slice A1 xs.length c2), (2, .slice none 0 0)] ⟨rfl, rfl, trivial⟩ ?_
  refine c_seq ?_
  refine c_reg ?_
  refine s_val rfl rfl (r_as rfl rfl) ?_
  refine s_nil ?_
  refine q_then ?_
  refine c_env [(0, .slice A1 xs.length c2), (2, .slice none 0 0), (3, .slice none 0 0)] ⟨rfl, rfl, rfl, trivial⟩ ?_
  refine c_seq ?_
  refine c_seq ?_
  refine c_reg ?_
  refine s_val rfl rfl (r_mv rfl rfl) ?_
  refine s_val rfl rfl (r_lenL rfl un23 rfl) ?_
  refine s_val rfl rfl (r_mv rfl rfl) ?_
  refine s_nil ?_
  refine q_then ?_
  refine c_env [(2, .slice none 0 0), (3, .slice none 0 0), (6, .slice A1 xs.length c2), (7, .int .i64 ((xs.length : Nat) : Int)), (8, .int .i64 0)] ⟨rfl, rfl, rfl, rfl, rfl, trivial⟩ ?_
  refine c_block ?_
  replace H := H.newnil kStr
  refine c_loop (σ := Nat × Value) (fun (k, l) => [(2, .slice none 0 0), (3, l), (6, .slice A1 xs.length c2), (7, .int .i64 ((xs.length : Nat) : Int)), (8, .int .i64 ((k : Nat) : Int))]) (fun (k, l) w => (Hd w0 F0 w [osl kStr l ((xs.take k).map (·.key))] [rsl kPair (.slice A1 xs.length c2) xs]) ∧ (k ≤ xs.length)) (fun (k, l) => xs.length - k) (0, .slice none 0 0) ⟨rfl, rfl, rfl, rfl, rfl, trivial⟩ ⟨H, by (try dsimp only); omega⟩ ?_
  rintro ⟨k, l⟩ w ⟨H, hk⟩
  have hjt : ((xs.take k).map (·.key)).length ≤ xs.length := by simp; omega
  refine c_seq ?_
  refine c_reg ?_
  refine s_val rfl rfl (r_lt rfl rfl rfl) ?_
  refine s_nil ?_
  refine q_then ?_
  refine c_env [(2, .slice none 0 0), (3, l), (6, .slice A1 xs.length c2), (7, .int .i64 ((xs.length : Nat) : Int)), (8, .int .i64 ((k : Nat) : Int)), (9, .bool (decide (((k : Nat) : Int) < ((xs.length : Nat) : Int))))] ⟨rfl, rfl, rfl, rfl, rfl, rfl, trivial⟩ ?_
  refine c_seq ?_
  refine c_dec (p := ((k : Nat) : Int) < ((xs.length : Nat) : Int)) rfl (fun h6 => ?_) (fun h6 => ?_)
  · skip
    refine c_skip ?_
    refine q_then ?_
    refine c_env [(2, .slice none 0 0), (3, l), (6, .slice A1 xs.length c2), (7, .int .i64 ((xs.length : Nat) : Int)), (8, .int .i64 ((k : Nat) : Int))] ⟨rfl, rfl, rfl, rfl, rfl, trivial⟩ ?_
    refine c_seq ?_
    refine c_block ?_
    refine c_seq ?_
    refine c_reg ?_
    obtain ⟨x7, hx8⟩ : ∃ z9, xs[k]? = some z9 := ⟨_, List.getElem?_eq_getElem (show k < xs.length by omega)⟩
    have th9 := H.thR 0 rfl hx8
    refine s_val rfl rfl (r_iaE (p := oOf A1 + k * 2) rfl sl23 rfl rfl (by omega) (by omega) th9 rfl) ?_
    refine s_val rfl rfl (r_ldA (cs := [.string x7.key, .string x7.val]) rfl ty56 rfl rfl (H.elsR 0 rfl hx8 rfl)) ?_
    refine s_alloc rfl rfl rfl zr56 H (fun b10 w H => ?_)
    refine s_st rfl rfl rfl ty56 rfl rfl H rfl (Nat.le_of_ble_eq_true rfl) (fun u hu => by simp [Value.cells] at hu; rcases hu with rfl | rfl <;> rfl) (fun w H => ?_)
    replace H : Hd _ _ _ [blk b10 [.string x7.key, .string x7.val] 56, osl kStr l ((xs.take k).map (·.key))] [rsl kPair (.slice A1 xs.length c2) xs] := H
    refine s_nil ?_
    refine q_then ?_
    refine c_env [(2, .slice none 0 0), (3, l), (5, .pointer (some ⟨b10, 0, none⟩)), (6, .slice A1 xs.length c2), (7, .int .i64 ((xs.length : Nat) : Int)), (8, .int .i64 ((k : Nat) : Int))] ⟨rfl, rfl, rfl, rfl, rfl, rfl, trivial⟩ ?_
    refine c_reg ?_
    refine s_val rfl rfl (r_mv rfl rfl) ?_
    refine s_val rfl rfl (r_fa rfl fo56_0 rfl) ?_
    refine s_val rfl rfl (r_ld rfl ty9 rfl (H.cellI 0 rfl rfl)) ?_
    refine s_bsl (parts := [(0, .tmp 14)]) (vs := [.string x7.key]) (cs := [.string x7.key]) rfl rfl rfl sl75 zr9 rfl (by decide) (by decide) rfl rfl H (fun b11 w H => ?_)
    replace H := H.pick 2 rfl
    refine s_appF (xs := (xs.take k).map (·.key)) (ys := [x7.key]) rfl rfl rfl sl75 zr9 rfl (by decide) rfl rfl H (by omega) (fun F hA hR => blk_rsl (hA _ (List.mem_of_getElem? (i := 0) rfl)) rfl (by decide) (RepsR.flat_eq.2 rfl)) (fun v12 w H => ?_)
    refine s_val rfl rfl (r_as rfl rfl) ?_
    refine s_nil ?_
    refine q_blockN ?_
    refine q_then ?_
    replace H : Hd _ _ _ [osl kStr v12 (((xs.take k).map (·.key)) ++ [x7.key]), blk b11 [.string x7.key] 9, blk b10 [.string x7.key, .string x7.val] 56] [rsl kPair (.slice A1 xs.length c2) xs] := H
    refine c_env [(2, .slice none 0 0), (3, v12), (6, .slice A1 xs.length c2), (7, .int .i64 ((xs.length : Nat) : Int)), (8, .int .i64 ((k : Nat) : Int))] ⟨rfl, rfl, rfl, rfl, rfl, trivial⟩ ?_
    refine c_reg ?_
    refine s_val rfl rfl (r_add (z := ((k + 1 : Nat) : Int)) rfl rfl rfl (by rw [w64 (by omega) (by omega)]; omega)) ?_
    refine s_val rfl rfl (r_mv rfl rfl) ?_
    refine s_nil ?_
    rw [← keyk hx8] at H
    replace H := H.keep 1
    exact q_round (s := (k, undef)) (k + 1, v12) ⟨rfl, rfl, rfl, rfl, rfl, trivial⟩ ⟨H, by (try dsimp only); omega⟩ (by (try dsimp only); omega)
  · skip
    refine c_exit ?_
    refine q_thenE ?_
    refine q_thenE ?_
    refine q_blockE ?_
    refine q_then ?_
    refine c_env [(2, .slice none 0 0), (3, l)] ⟨rfl, rfl, trivial⟩ ?_
    refine c_seq ?_
    refine c_reg ?_
    refine s_val rfl rfl (r_mv rfl rfl) ?_
    refine sc (sortStr_ok l ((xs.take k).map (·.key)) (by first | omega | (rw [sortS_len]; omega))) H l0 rfl rfl (e_fn kn69 rfl rfl) ?_
    rintro v13 _ w rfl H
    refine s_nil ?_
    refine q_then ?_
    replace H : Hd _ _ _ [osl kStr l (sortS ((xs.take k).map (·.key)))] [rsl kPair (.slice A1 xs.length c2) xs] := H
    refine c_env [(2, .slice none 0 0), (3, l)] ⟨rfl, rfl, trivial⟩ ?_
    refine c_seq ?_
    refine c_reg ?_
    refine s_val rfl rfl (r_mv rfl rfl) ?_
    refine sc (compStr_ok l (sortS ((xs.take k).map (·.key))) (by first | omega | (rw [sortS_len]; omega))) H l0 rfl rfl (e_fn kn70 rfl rfl) ?_
    rintro v14 _ w rfl H
    refine s_val rfl rfl (r_as rfl rfl) ?_
    refine s_nil ?_
    refine q_then ?_
    replace H : Hd _ _ _ [osl kStr v14 (compS (sortS ((xs.take k).map (·.key))))] [rsl kPair (.slice A1 xs.length c2) xs] := H
    refine c_env [(2, v14)] ⟨rfl, trivial⟩ ?_
    refine c_ret ?_
    refine q_ret1 rfl rfl ?_
    rw [List.take_of_length_le (show xs.length ≤ k by omega)] at H
    exact fin rfl H

set_option maxHeartbeats 1000000 in
theorem indexFP_ok (f : FuncId) (cap : List Value) (Ex : List SP) (p : Pair → Bool) (hkf : Known Tryz.prog f) (hp : ∀ x, Cn Tryz.prog f ([.agg #[.string x.key, .string x.val]] ++ cap) [] Ex (fun v Bs => v = .bool (p x) ∧ Bs = [])) (v : Value) (xs : List Pair) :
    Cn Tryz.prog 72 [v, .func (.func f) #[] (cap).toArray] [] (rsl kPair v xs :: Ex) (fun v Bs => v = .int .i64 (fidx p xs) ∧ Bs = []) := by
  intro w0 F0 H
  obtain ⟨A1, c2, rfl, hc3, hm4, hp5⟩ := H.fR 0 rfl
  refine enter (args := [.slice A1 xs.length c2, .func (.func f) #[] (cap).toArray]) Tryz.func72 rfl rfl (Nat.le_of_ble_eq_true rfl) ?_
  refine c_seq ?_
  refine c_reg ?_
  refine s_val rfl rfl (r_as rfl rfl) ?_
  refine s_nil ?_
  refine q_then ?_
  replace H : Hd _ _ _ [] (rsl kPair (.slice A1 xs.length c2) xs :: Ex) := H
  refine c_env [(0, .slice A1 xs.length c2), (1, .func (.func f) #[] (cap).toArray), (4, .int .i64 0)] ⟨rfl, rfl, rfl, trivial⟩ ?_
  refine c_seq ?_
  refine c_seq ?_
  refine c_reg ?_
  refine s_val rfl rfl (r_mv rfl rfl) ?_
  refine s_val rfl rfl (r_lenL rfl un23 rfl) ?_
  refine s_val rfl rfl (r_mv rfl rfl) ?_
  refine s_nil ?_
  refine q_then ?_
  refine c_env [(0, .slice A1 xs.length c2), (1, .func (.func f) #[] (cap).toArray), (4, .int .i64 0), (7, .int .i64 ((xs.length : Nat) : Int)), (8, .int .i64 0)] ⟨rfl, rfl, rfl, rfl, rfl, trivial⟩ ?_
  refine c_block ?_
  refine c_loop (σ := Nat) (fun k => [(0, .slice A1 xs.length c2), (1, .func (.func f) #[] (cap).toArray), (7, .int .i64 ((xs.length : Nat) : Int)), (8, .int .i64 ((k : Nat) : Int))]) (fun k w => (Hd w0 F0 w [] (rsl kPair (.slice A1 xs.length c2) xs :: Ex)) ∧ (k ≤ xs.length) ∧ (∀ y ∈ xs.take k, p y = false)) (fun k => xs.length - k) 0 ⟨rfl, rfl, rfl, rfl, trivial⟩ ⟨H, by omega, by simp⟩ ?_
  rintro k w ⟨H, hk, hn⟩
  refine c_seq ?_
  refine c_reg ?_
  refine s_val rfl rfl (r_lt rfl rfl rfl) ?_
  refine s_nil ?_
  refine q_then ?_
  refine c_env [(0, .slice A1 xs.length c2), (1, .func (.func f) #[] (cap).toArray), (7, .int .i64 ((xs.length : Nat) : Int)), (8, .int .i64 ((k : Nat) : Int)), (9, .bool (decide (((k : Nat) : Int) < ((xs.length : Nat) : Int))))] ⟨rfl, rfl, rfl, rfl, rfl, trivial⟩ ?_
  refine c_seq ?_
  refine c_dec (p := ((k : Nat) : Int) < ((xs.length : Nat) : Int)) rfl (fun h6 => ?_) (fun h6 => ?_)
  · skip
    refine c_skip ?_
    refine q_then ?_
    refine c_env [(0, .slice A1 xs.length c2), (1, .func (.func f) #[] (cap).toArray), (7, .int .i64 ((xs.length : Nat) : Int)), (8, .int .i64 ((k : Nat) : Int))] ⟨rfl, rfl, rfl, rfl, trivial⟩ ?_
    refine c_seq ?_
    refine c_block ?_
    refine c_seq ?_
    refine c_reg ?_
    refine s_val rfl rfl (r_mv rfl rfl) ?_
    refine s_val rfl rfl (r_as rfl rfl) ?_
    refine s_nil ?_
    refine q_then ?_
    refine c_env [(0, .slice A1 xs.length c2), (1, .func (.func f) #[] (cap).toArray), (5, .int .i64 ((k : Nat) : Int)), (7, .int .i64 ((xs.length : Nat) : Int)), (8, .int .i64 ((k : Nat) : Int))] ⟨rfl, rfl, rfl, rfl, rfl, trivial⟩ ?_
    refine c_seq ?_
    refine c_reg ?_
    refine s_val rfl rfl (r_mv rfl rfl) ?_
    refine s_val rfl rfl (r_mv rfl rfl) ?_
    refine s_val rfl rfl (r_mv rfl rfl) ?_
    obtain ⟨x7, hx8⟩ : ∃ z9, xs[k]? = some z9 := ⟨_, List.getElem?_eq_getElem (show k < xs.length by omega)⟩
    have th9 := H.thR 0 rfl hx8
    refine s_val rfl rfl (r_iaE (p := oOf A1 + k * 2) rfl sl23 rfl rfl (by omega) (by omega) th9 rfl) ?_
    refine s_val rfl rfl (r_ldA (cs := [.string x7.key, .string x7.val]) rfl ty56 rfl rfl (H.elsR 0 rfl hx8 rfl)) ?_
    refine sc (hp x7) H (fun S hS F hA hR => hR S (List.mem_cons_of_mem _ hS)) rfl rfl (e_val (vs := [.agg #[.string x7.key, .string x7.val]]) (fs := #[]) (cs := cap.toArray) hkf rfl rfl rfl) ?_
    rintro _ _ w ⟨rfl, rfl⟩ H
    refine s_nil ?_
    refine q_then ?_
    refine c_env [(0, .slice A1 xs.length c2), (1, .func (.func f) #[] (cap).toArray), (5, .int .i64 ((k : Nat) : Int)), (7, .int .i64 ((xs.length : Nat) : Int)), (8, .int .i64 ((k : Nat) : Int)), (16, .bool (p x7))] ⟨rfl, rfl, rfl, rfl, rfl, rfl, trivial⟩ ?_
    refine c_cond (b := p x7) rfl (fun h10 => ?_) (fun h10 => ?_)
    · skip
      refine c_seq ?_
      refine c_reg ?_
      refine s_val rfl rfl (r_mv rfl rfl) ?_
      refine s_val rfl rfl (r_as rfl rfl) ?_
      refine s_nil ?_
      refine q_then ?_
      refine c_env [(0, .slice A1 xs.length c2), (1, .func (.func f) #[] (cap).toArray), (4, .int .i64 ((k : Nat) : Int)), (7, .int .i64 ((xs.length : Nat) : Int)), (8, .int .i64 ((k : Nat) : Int))] ⟨rfl, rfl, rfl, rfl, rfl, trivial⟩ ?_
      refine c_ret ?_
      refine q_blockR ?_
      refine q_thenR ?_
      refine q_thenR ?_
      refine q_blockR ?_
      refine q_thenR ?_
      refine q_ret1 rfl rfl ?_
      exact fin ⟨by rw [fidx_hit hn hx8 h10], rfl⟩ H
    · skip
      refine c_skip ?_
      refine q_blockN ?_
      refine q_then ?_
      refine c_env [(0, .slice A1 xs.length c2), (1, .func (.func f) #[] (cap).toArray), (7, .int .i64 ((xs.length : Nat) : Int)), (8, .int .i64 ((k : Nat) : Int))] ⟨rfl, rfl, rfl, rfl, trivial⟩ ?_
      refine c_reg ?_
      refine s_val rfl rfl (r_add (z := ((k + 1 : Nat) : Int)) rfl rfl rfl (by rw [w64 (by omega) (by omega)]; omega)) ?_
      refine s_val rfl rfl (r_mv rfl rfl) ?_
      refine s_nil ?_
      exact q_round (s := k) (k + 1) ⟨rfl, rfl, rfl, rfl, trivial⟩ ⟨H, by omega, take_false hn hx8 h10⟩ (by (try dsimp only); omega)
  · skip
    refine c_exit ?_
    refine q_thenE ?_
    refine q_thenE ?_
    refine q_blockE ?_
    refine q_then ?_
    refine c_env [] trivial ?_
    refine c_seq ?_
    refine c_reg ?_
    refine s_val rfl rfl (r_as rfl rfl) ?_
    refine s_nil ?_
    refine q_then ?_
    refine c_env [(4, .int .i64 (-1))] ⟨rfl, trivial⟩ ?_
    refine c_ret ?_
    refine q_ret1 rfl rfl ?_
    have hn2 : ∀ y ∈ xs, p y = false := by rw [← take_all (xs := xs) (k := k) (by omega)]; exact hn
    exact fin ⟨by rw [fidx_miss hn2], rfl⟩ H

set_option maxHeartbeats 1000000 in
theorem containsFP_ok (f : FuncId) (cap : List Value) (Ex : List SP) (p : Pair → Bool) (hkf : Known Tryz.prog f) (hp : ∀ x, Cn Tryz.prog f ([.agg #[.string x.key, .string x.val]] ++ cap) [] Ex (fun v Bs => v = .bool (p x) ∧ Bs = [])) (v : Value) (xs : List Pair) :
    Cn Tryz.prog 56 [v, .func (.func f) #[] (cap).toArray] [] (rsl kPair v xs :: Ex) (fun v Bs => v = .bool (xs.any p) ∧ Bs = []) := by
  intro w0 F0 H
  refine enter (args := [v, .func (.func f) #[] (cap).toArray]) Tryz.func56 rfl rfl (Nat.le_of_ble_eq_true rfl) ?_
  refine c_seq ?_
  refine c_reg ?_
  refine s_val rfl rfl (r_as rfl rfl) ?_
  refine s_nil ?_
  refine q_then ?_
  refine c_env [(0, v), (1, .func (.func f) #[] (cap).toArray), (4, .bool false)] ⟨rfl, rfl, rfl, trivial⟩ ?_
  refine c_seq ?_
  refine c_reg ?_
  refine s_val rfl rfl (r_mv rfl rfl) ?_
  refine s_val rfl rfl (r_mv rfl rfl) ?_
  refine sc (indexFP_ok f cap Ex p hkf hp v xs) H lAll rfl rfl (e_fn kn72 rfl rfl) ?_
  rintro _ _ w ⟨rfl, rfl⟩ H
  refine s_val rfl rfl (r_ge rfl rfl rfl) ?_
  refine s_val rfl rfl (r_as rfl rfl) ?_
  refine s_nil ?_
  refine q_then ?_
  refine c_env [(4, .bool (decide ((0 : Int) ≤ (fidx p xs))))] ⟨rfl, trivial⟩ ?_
  refine c_ret ?_
  refine q_ret1 rfl rfl ?_
  exact fin ⟨congrArg Value.bool (fidx_nonneg p xs), rfl⟩ H

set_option maxHeartbeats 1000000 in
theorem mayF_ok (x : Pair) :
    Cn Tryz.prog 66 [.agg #[.string x.key, .string x.val]] [] [] (fun v Bs => v = .bool (!decide (mayP x)) ∧ Bs = []) := by
  intro w0 F0 H
  refine enter (args := [.agg #[.string x.key, .string x.val]]) Tryz.func66 rfl rfl (Nat.le_of_ble_eq_true rfl) ?_
  refine c_seq ?_
  refine c_reg ?_
  refine s_box rfl rfl rfl rfl H (fun b1 w H => ?_)
  refine s_val rfl rfl (r_as rfl rfl) ?_
  refine s_nil ?_
  refine q_then ?_
  replace H : Hd _ _ _ [blk b1 [.string x.key, .string x.val] 56] [] := H
  refine c_env [(1, .pointer (some ⟨b1, 0, none⟩)), (2, .bool false)] ⟨rfl, rfl, trivial⟩ ?_
  refine c_seq ?_
  refine c_reg ?_
  refine s_val rfl rfl (r_fa rfl fo56_0 rfl) ?_
  refine s_val rfl rfl (r_ld rfl ty9 rfl (H.cellI 0 rfl rfl)) ?_
  refine s_val rfl rfl (r_lenS rfl un9 rfl) ?_
  refine s_val rfl rfl (r_gt rfl rfl rfl) ?_
  refine s_val rfl rfl (r_mv rfl rfl) ?_
  refine s_dec (d := 7) (p := (16 : Int) < ((x.key.size : Nat) : Int)) rfl (fun h2 => ?_) (fun h2 => ?_)
  · skip
    refine s_no rfl rfl ?_
    refine s_no rfl rfl ?_
    refine s_no rfl rfl ?_
    refine s_no rfl rfl ?_
    refine s_val rfl rfl (r_pickT rfl rfl rfl) ?_
    refine s_val rfl rfl (r_as rfl rfl) ?_
    refine s_nil ?_
    refine q_then ?_
    refine c_env [(2, .bool true)] ⟨rfl, trivial⟩ ?_
    refine c_ret ?_
    refine q_ret1 rfl rfl ?_
    replace H := H.keep 0
    exact fin ⟨by rw [decide_eq_false (by unfold mayP; omega)]; rfl, rfl⟩ H
  · skip
    refine s_val rfl rfl (r_fa rfl fo56_1 rfl) ?_
    refine s_val rfl rfl (r_ld rfl ty9 rfl (H.cellI 0 rfl rfl)) ?_
    refine s_val rfl rfl (r_lenS rfl un9 rfl) ?_
    refine s_val rfl rfl (r_gt rfl rfl rfl) ?_
    refine s_val rfl rfl (r_pickF rfl rfl rfl) ?_
    refine s_val rfl rfl (r_as rfl rfl) ?_
    refine s_nil ?_
    refine q_then ?_
    refine c_env [(2, .bool (decide ((64 : Int) < ((x.val.size : Nat) : Int))))] ⟨rfl, trivial⟩ ?_
    refine c_ret ?_
    refine q_ret1 rfl rfl ?_
    replace H := H.keep 0
    exact fin ⟨congrArg Value.bool (by rw [← decide_not]; exact decide_eq_decide.2 (by unfold mayP; omega)), rfl⟩ H

set_option maxHeartbeats 1000000 in
theorem pMayL_ok (vxs : Value) (xs : List Pair) :
    Cn Tryz.prog 43 [vxs] [] [rsl kPair vxs xs] (fun v Bs => v = .bool (decide (mayL xs)) ∧ Bs = []) := by
  intro w0 F0 H
  obtain ⟨A1, c2, rfl, hc3, hm4, hp5⟩ := H.fR 0 rfl
  refine enter (args := [.slice A1 xs.length c2]) Tryz.func43 rfl rfl (Nat.le_of_ble_eq_true rfl) ?_
  refine c_seq ?_
  refine c_reg ?_
  refine s_val rfl rfl (r_as rfl rfl) ?_
  refine s_nil ?_
  refine q_then ?_
  replace H : Hd _ _ _ [] [rsl kPair (.slice A1 xs.length c2) xs] := H
  refine c_env [(0, .slice A1 xs.length c2), (2, .bool false)] ⟨rfl, rfl, trivial⟩ ?_
  refine c_seq ?_
  refine c_reg ?_
  refine s_val rfl rfl (r_mv rfl rfl) ?_
  refine sc (containsFP_ok 66 [] [] (fun p => !decide (mayP p)) kn66 (fun x => mayF_ok x) (.slice A1 xs.length c2) xs) H (lR 0 rfl l0) rfl rfl (e_fn kn56 rfl rfl) ?_
  rintro _ _ w ⟨rfl, rfl⟩ H
  refine s_val rfl rfl (r_not rfl rfl rfl) ?_
  refine s_val rfl rfl (r_as rfl rfl) ?_
  refine s_nil ?_
  refine q_then ?_
  refine c_env [(2, .bool (!(xs.any (fun p => !decide (mayP p)))))] ⟨rfl, trivial⟩ ?_
  refine c_ret ?_
  refine q_ret1 rfl rfl ?_
  exact fin ⟨congrArg Value.bool (may_any xs), rfl⟩ H





set_option maxHeartbeats 1000000 in
theorem rKeys_ok (vxs : Value) (xs : List Pair) (hb : xs.length ≤ 1000000) :
    Cn Tryz.prog 81 [vxs] [] [rsl kPair vxs xs] (fun v Bs => Bs = [osl kStr v (refK [] (xs.map (·.key)))]) := by
  intro w0 F0 H
  obtain ⟨A1, c2, rfl, hc3, hm4, hp5⟩ := H.fR 0 rfl
  refine enter (args := [.slice A1 xs.length c2]) Tryz.func81 rfl rfl (Nat.le_of_ble_eq_true rfl) ?_
  refine c_seq ?_
  refine c_reg ?_
  refine s_val rfl rfl (r_as rfl rfl) ?_
  refine s_nil ?_
  refine q_then ?_
  replace H : Hd _ _ _ [] [rsl kPair (.slice A1 xs.length c2) xs] := H
  refine c_env [(0, .slice A1 xs.length c2), (2, .slice none 0 0)] ⟨rfl, rfl, trivial⟩ ?_
  refine c_seq ?_
  refine c_reg ?_
  refine s_val rfl rfl (r_as rfl rfl) ?_
  refine s_nil ?_
  refine q_then ?_
  refine c_env [(0, .slice A1 xs.length c2), (2, .slice none 0 0), (3, .slice none 0 0)] ⟨rfl, rfl, rfl, trivial⟩ ?_
  refine c_seq ?_
  refine c_seq ?_
  refine c_reg ?_
  refine s_val rfl rfl (r_as rfl rfl) ?_
  refine s_nil ?_
  refine q_then ?_
  refine c_env [(0, .slice A1 xs.length c2), (2, .slice none 0 0), (3, .slice none 0 0), (4, .int .i64 0)] ⟨rfl, rfl, rfl, rfl, trivial⟩ ?_
  refine c_block ?_
  replace H := H.newnil kStr
  refine c_loop (σ := Nat × Value) (fun (i, l) => [(0, .slice A1 xs.length c2), (2, .slice none 0 0), (3, l), (4, .int .i64 ((i : Nat) : Int))]) (fun (i, l) w => (Hd w0 F0 w [osl kStr l (outL xs i)] [rsl kPair (.slice A1 xs.length c2) xs]) ∧ (i ≤ xs.length)) (fun (i, l) => xs.length - i) (0, .slice none 0 0) ⟨rfl, rfl, rfl, rfl, trivial⟩ ⟨H, by (try dsimp only); omega⟩ ?_
  rintro ⟨i, l⟩ w ⟨H, hi⟩
  have hol := outL_len xs i
  obtain ⟨A6, c7, rfl, hc8, hm9, hp10⟩ := H.fA 0 rfl
  refine c_seq ?_
  refine c_seq ?_
  refine c_reg ?_
  refine s_val rfl rfl (r_mv rfl rfl) ?_
  refine s_val rfl rfl (r_mv rfl rfl) ?_
  refine s_val rfl rfl (r_lenL rfl un23 rfl) ?_
  refine s_val rfl rfl (r_lt rfl rfl rfl) ?_
  refine s_nil ?_
  refine q_then ?_
  replace H : Hd _ _ _ [osl kStr (.slice A6 ((outL xs i).length) c7) (outL xs i)] [rsl kPair (.slice A1 xs.length c2) xs] := H
  refine c_env [(0, .slice A1 xs.length c2), (2, .slice none 0 0), (3, .slice A6 ((outL xs i).length) c7), (4, .int .i64 ((i : Nat) : Int)), (9, .bool (decide (((i : Nat) : Int) < ((xs.length : Nat) : Int))))] ⟨rfl, rfl, rfl, rfl, rfl, trivial⟩ ?_
  refine c_dec (p := ((i : Nat) : Int) < ((xs.length : Nat) : Int)) rfl (fun h11 => ?_) (fun h11 => ?_)
  · skip
    refine c_skip ?_
    refine q_then ?_
    refine c_env [(0, .slice A1 xs.length c2), (2, .slice none 0 0), (3, .slice A6 ((outL xs i).length) c7), (4, .int .i64 ((i : Nat) : Int))] ⟨rfl, rfl, rfl, rfl, trivial⟩ ?_
    refine c_seq ?_
    refine c_block ?_
    refine c_seq ?_
    refine c_reg ?_
    refine s_val rfl rfl (r_as rfl rfl) ?_
    refine s_nil ?_
    refine q_then ?_
    refine c_env [(0, .slice A1 xs.length c2), (2, .slice none 0 0), (3, .slice A6 ((outL xs i).length) c7), (4, .int .i64 ((i : Nat) : Int)), (5, .int .i64 0)] ⟨rfl, rfl, rfl, rfl, rfl, trivial⟩ ?_
    refine c_seq ?_
    refine c_block ?_
    obtain ⟨x12, hx13⟩ : ∃ z9, xs[i]? = some z9 := ⟨_, List.getElem?_eq_getElem (show i < xs.length by omega)⟩
    refine c_loop (σ := Nat) (fun k => [(0, .slice A1 xs.length c2), (2, .slice none 0 0), (3, .slice A6 ((outL xs i).length) c7), (4, .int .i64 ((i : Nat) : Int)), (5, .int .i64 ((k : Nat) : Int))]) (fun k w => (Hd w0 F0 w [osl kStr (.slice A6 ((outL xs i).length) c7) (outL xs i)] [rsl kPair (.slice A1 xs.length c2) xs]) ∧ (k ≤ (outL xs i).length) ∧ (∀ y ∈ (outL xs i).take k, ltS y x12.key = true)) (fun k => (outL xs i).length - k) 0 ⟨rfl, rfl, rfl, rfl, rfl, trivial⟩ ⟨H, by omega, by simp⟩ ?_
    rintro k w ⟨H, hk, hn⟩
    refine c_seq ?_
    refine c_seq ?_
    refine c_draw mo (by kernel_rfl) H ?_
    refine u_val rfl rfl (fun w H => r_mv rfl rfl) ?_
    refine u_val rfl rfl (fun w H => r_mv rfl rfl) ?_
    refine u_val rfl rfl (fun w H => r_lenL rfl un75 rfl) ?_
    refine u_val rfl rfl (fun w H => r_lt rfl rfl rfl) ?_
    refine u_val rfl rfl (fun w H => r_mv rfl rfl) ?_
    refine u_dec (d := 16) (p := ((k : Nat) : Int) < (((outL xs i).length : Nat) : Int)) rfl (fun h14 => ?_) (fun h14 => ?_)
    · skip
      refine u_val rfl rfl (fun w H => r_mv rfl rfl) ?_
      refine u_val rfl rfl (fun w H => r_mv rfl rfl) ?_
      obtain ⟨x15, hx16⟩ : ∃ z9, (outL xs i)[k]? = some z9 := ⟨_, List.getElem?_eq_getElem (show k < (outL xs i).length by omega)⟩
      have th17 := H.thA 0 rfl hx16
      refine u_val rfl rfl (fun w H => r_iaE (p := oOf A6 + k * 1) rfl sl75 rfl rfl (by omega) (by omega) th17 rfl) ?_
      refine u_val rfl rfl (fun w H => r_ld rfl ty9 rfl (H.elA 0 rfl hx16 (q := 0) rfl rfl)) ?_
      refine u_val rfl rfl (fun w H => r_mv rfl rfl) ?_
      refine u_val rfl rfl (fun w H => r_mv rfl rfl) ?_
      have th18 := H.thR 0 rfl hx13
      refine u_val rfl rfl (fun w H => r_iaE (p := oOf A1 + i * 2) rfl sl23 rfl rfl (by omega) (by omega) th18 rfl) ?_
      refine u_val rfl rfl (fun w H => r_fa rfl fo56_0 rfl) ?_
      refine u_val rfl rfl (fun w H => r_ld rfl ty9 rfl (H.elR 0 rfl hx13 (q := 0) rfl rfl)) ?_
      refine u_val rfl rfl (fun w H => r_ltS rfl rfl rfl) ?_
      refine u_val rfl rfl (fun w H => r_pickT rfl rfl rfl) ?_
      refine u_end (fun w H => ?_)
      refine q_then ?_
      refine c_env [(0, .slice A1 xs.length c2), (2, .slice none 0 0), (3, .slice A6 ((outL xs i).length) c7), (4, .int .i64 ((i : Nat) : Int)), (5, .int .i64 ((k : Nat) : Int)), (27, .bool (decide (ltS x15 x12.key = true)))] ⟨rfl, rfl, rfl, rfl, rfl, rfl, trivial⟩ ?_
      refine c_dec (p := ltS x15 x12.key = true) rfl (fun h19 => ?_) (fun h19 => ?_)
      · skip
        refine c_skip ?_
        refine q_then ?_
        refine c_env [(0, .slice A1 xs.length c2), (2, .slice none 0 0), (3, .slice A6 ((outL xs i).length) c7), (4, .int .i64 ((i : Nat) : Int)), (5, .int .i64 ((k : Nat) : Int))] ⟨rfl, rfl, rfl, rfl, rfl, trivial⟩ ?_
        refine c_block ?_
        refine c_reg ?_
        refine s_val rfl rfl (r_mv rfl rfl) ?_
        refine s_val rfl rfl (r_add (z := ((k + 1 : Nat) : Int)) rfl rfl rfl (by rw [w64 (by omega) (by omega)]; omega)) ?_
        refine s_val rfl rfl (r_as rfl rfl) ?_
        refine s_nil ?_
        refine q_blockN ?_
        exact q_round (s := k) (k + 1) ⟨rfl, rfl, rfl, rfl, rfl, trivial⟩ ⟨H, by (try dsimp only); omega, take_prop hn hx16 h19⟩ (by (try dsimp only); omega)
      · skip
        refine c_exit ?_
        refine q_thenE ?_
        refine q_thenE ?_
        refine q_blockE ?_
        refine q_then ?_
        refine c_env [(0, .slice A1 xs.length c2), (2, .slice none 0 0), (3, .slice A6 ((outL xs i).length) c7), (4, .int .i64 ((i : Nat) : Int)), (5, .int .i64 ((k : Nat) : Int))] ⟨rfl, rfl, rfl, rfl, rfl, trivial⟩ ?_
        refine c_seq ?_
        refine c_seq ?_
        refine c_draw mo (by kernel_rfl) H ?_
        refine u_val rfl rfl (fun w H => r_mv rfl rfl) ?_
        refine u_val rfl rfl (fun w H => r_mv rfl rfl) ?_
        refine u_val rfl rfl (fun w H => r_lenL rfl un75 rfl) ?_
        refine u_val rfl rfl (fun w H => r_lt rfl rfl rfl) ?_
        refine u_val rfl rfl (fun w H => r_mv rfl rfl) ?_
        refine u_dec (d := 34) (p := ((k : Nat) : Int) < (((outL xs i).length : Nat) : Int)) rfl (fun h20 => ?_) (fun h20 => ?_)
        · skip
          refine u_val rfl rfl (fun w H => r_mv rfl rfl) ?_
          refine u_val rfl rfl (fun w H => r_mv rfl rfl) ?_
          have th21 := H.thA 0 rfl hx16
          refine u_val rfl rfl (fun w H => r_iaE (p := oOf A6 + k * 1) rfl sl75 rfl rfl (by omega) (by omega) th21 rfl) ?_
          refine u_val rfl rfl (fun w H => r_ld rfl ty9 rfl (H.elA 0 rfl hx16 (q := 0) rfl rfl)) ?_
          refine u_val rfl rfl (fun w H => r_mv rfl rfl) ?_
          refine u_val rfl rfl (fun w H => r_mv rfl rfl) ?_
          have th22 := H.thR 0 rfl hx13
          refine u_val rfl rfl (fun w H => r_iaE (p := oOf A1 + i * 2) rfl sl23 rfl rfl (by omega) (by omega) th22 rfl) ?_
          refine u_val rfl rfl (fun w H => r_fa rfl fo56_0 rfl) ?_
          refine u_val rfl rfl (fun w H => r_ld rfl ty9 rfl (H.elR 0 rfl hx13 (q := 0) rfl rfl)) ?_
          refine u_val rfl rfl (fun w H => r_eqS rfl rfl rfl) ?_
          refine u_val rfl rfl (fun w H => r_pickT rfl rfl rfl) ?_
          refine u_end (fun w H => ?_)
          refine q_then ?_
          refine c_env [(0, .slice A1 xs.length c2), (2, .slice none 0 0), (3, .slice A6 ((outL xs i).length) c7), (4, .int .i64 ((i : Nat) : Int)), (5, .int .i64 ((k : Nat) : Int)), (45, .bool (decide (x15 = x12.key)))] ⟨rfl, rfl, rfl, rfl, rfl, rfl, trivial⟩ ?_
          refine c_dec (p := x15 = x12.key) rfl (fun h23 => ?_) (fun h23 => ?_)
          · skip
            have hhit : (outL xs i)[k]? = some x12.key := by rw [hx16, h23]
            refine c_exit ?_
            refine q_thenE ?_
            refine q_blockE ?_
            refine q_then ?_
            refine c_env [(0, .slice A1 xs.length c2), (2, .slice none 0 0), (3, .slice A6 ((outL xs i).length) c7), (4, .int .i64 ((i : Nat) : Int))] ⟨rfl, rfl, rfl, rfl, trivial⟩ ?_
            refine c_reg ?_
            refine s_val rfl rfl (r_mv rfl rfl) ?_
            refine s_val rfl rfl (r_add (z := ((i + 1 : Nat) : Int)) rfl rfl rfl (by rw [w64 (by omega) (by omega)]; omega)) ?_
            refine s_val rfl rfl (r_as rfl rfl) ?_
            refine s_nil ?_
            replace H : Hd w0 F0 w [osl kStr (.slice A6 ((outL xs i).length) c7) (outL xs (i + 1))] [rsl kPair (.slice A1 xs.length c2) xs] := by rw [outL_step hx13, insK_hit (k := k) hn hhit]; exact H
            exact q_round (s := (i, undef)) (i + 1, .slice A6 ((outL xs i).length) c7) ⟨rfl, rfl, rfl, rfl, trivial⟩ ⟨H, by (try dsimp only); omega⟩ (by (try dsimp only); omega)
          · skip
            refine c_skip ?_
            refine q_then ?_
            refine c_env [(0, .slice A1 xs.length c2), (2, .slice none 0 0), (3, .slice A6 ((outL xs i).length) c7), (4, .int .i64 ((i : Nat) : Int)), (5, .int .i64 ((k : Nat) : Int))] ⟨rfl, rfl, rfl, rfl, rfl, trivial⟩ ?_
            refine c_ord (.e 0 (.e 1 (.e 2 (.e 4 (.e 5 (.e 6 (.e 7 (.e 8 (.e 11 (.e 12 (.e 13 (.b 3 9 (.m 9 (.m 10 (.m 14 (.e 15 .z)))) (.m 3 (.m 10 (.m 14 (.e 15 .z)))))))))))))))) (fun w => ∃ Ar, Hd w0 F0 w (osl kStr (.slice A6 ((outL xs i).length) c7) (outL xs i) :: Ar) [rsl kPair (.slice A1 xs.length c2) xs]) mo (by kernel_rfl) (fun w H => ⟨_, H⟩) H (fun w H => ?_)
            refine d_val rfl rfl rfl (fun w ⟨Ar, H⟩ => r_mv rfl rfl) ?_
            refine d_val rfl rfl rfl (fun w ⟨Ar, H⟩ => r_mv rfl rfl) ?_
            refine d_val rfl rfl rfl (fun w ⟨Ar, H⟩ => r_cutP rfl sl75 rfl rfl (by omega) (by omega) rfl) ?_
            refine d_val rfl rfl rfl (fun w ⟨Ar, H⟩ => r_mv rfl rfl) ?_
            refine d_val rfl rfl rfl (fun w ⟨Ar, H⟩ => r_mv rfl rfl) ?_
            have th24 := H.thR 0 rfl hx13
            refine d_val rfl rfl rfl (fun w ⟨Ar, H⟩ => r_iaE (p := oOf A1 + i * 2) rfl sl23 rfl rfl (by omega) (by omega) th24 rfl) ?_
            refine d_val rfl rfl rfl (fun w ⟨Ar, H⟩ => r_fa rfl fo56_0 rfl) ?_
            refine d_val rfl rfl rfl (fun w ⟨Ar, H⟩ => r_ld rfl ty9 rfl (H.elR 0 rfl hx13 (q := 0) rfl rfl)) ?_
            refine d_val rfl rfl rfl (fun w ⟨Ar, H⟩ => r_mv rfl rfl) ?_
            refine d_val rfl rfl rfl (fun w ⟨Ar, H⟩ => r_mv rfl rfl) ?_
            refine d_val rfl rfl rfl (fun w ⟨Ar, H⟩ => r_cutS rfl sl75 rfl rfl (by omega) (by omega) rfl) ?_
            refine d_both rfl rfl ?_ ?_
            · skip
              replace H := H.newnil kStr
              refine s_appF (xs := []) (ys := (outL xs i).take k) rfl rfl rfl sl75 zr9 rfl (by decide) rfl rfl H (by first | omega | (simp only [List.length_append, List.length_cons, List.length_nil, List.length_take, List.length_drop]; omega)) (fun F hA hR => rsl_pre (own_rd F (hA _ (List.mem_of_getElem? (i := 0) rfl))) (i := k) (by omega)) (fun v25 w H => ?_)
              replace H := H.pick 1 rfl
              replace H : Hd _ _ _ [osl kStr (.slice A6 ((outL xs i).length) c7) (outL xs i), osl kStr v25 ([] ++ ((outL xs i).take k))] [rsl kPair (.slice A1 xs.length c2) xs] := H
              refine d_back ⟨_, H⟩ ?_
              refine d_main rfl ?_
              refine s_bsl (parts := [(0, .tmp 54)]) (vs := [.string x12.key]) (cs := [.string x12.key]) rfl rfl rfl sl75 zr9 rfl (by decide) (by decide) rfl rfl H (fun b26 w H => ?_)
              replace H := H.pick 1 rfl
              replace H : Hd _ _ _ [osl kStr (.slice A6 ((outL xs i).length) c7) (outL xs i), blk b26 [.string x12.key] 9, osl kStr v25 ([] ++ ((outL xs i).take k))] [rsl kPair (.slice A1 xs.length c2) xs] := H
              refine d_back ⟨_, H⟩ ?_
              refine d_main rfl ?_
              replace H := H.pick 2 rfl
              refine s_appF (xs := [] ++ ((outL xs i).take k)) (ys := [x12.key]) rfl rfl rfl sl75 zr9 rfl (by decide) rfl rfl H (by first | omega | (simp only [List.length_append, List.length_cons, List.length_nil, List.length_take, List.length_drop]; omega)) (fun F hA hR => blk_rsl (hA _ (List.mem_of_getElem? (i := 1) rfl)) rfl (by decide) (RepsR.flat_eq.2 rfl)) (fun v27 w H => ?_)
              replace H := H.pick 1 rfl
              replace H : Hd _ _ _ [osl kStr (.slice A6 ((outL xs i).length) c7) (outL xs i), osl kStr v27 (([] ++ ((outL xs i).take k)) ++ [x12.key]), blk b26 [.string x12.key] 9] [rsl kPair (.slice A1 xs.length c2) xs] := H
              refine d_back ⟨_, H⟩ ?_
              refine d_main rfl ?_
              replace H := H.pick 1 rfl
              refine s_appF (xs := ([] ++ ((outL xs i).take k)) ++ [x12.key]) (ys := (outL xs i).drop k) rfl rfl rfl sl75 zr9 rfl (by decide) rfl rfl H (by first | omega | (simp only [List.length_append, List.length_cons, List.length_nil, List.length_take, List.length_drop]; omega)) (fun F hA hR => rsl_suf (own_rd F (hA _ (List.mem_of_getElem? (i := 0) rfl))) (i := k) (by omega)) (fun v28 w H => ?_)
              replace H := H.pick 1 rfl
              replace H : Hd _ _ _ [osl kStr (.slice A6 ((outL xs i).length) c7) (outL xs i), osl kStr v28 ((([] ++ ((outL xs i).take k)) ++ [x12.key]) ++ ((outL xs i).drop k)), blk b26 [.string x12.key] 9] [rsl kPair (.slice A1 xs.length c2) xs] := H
              refine d_back ⟨_, H⟩ ?_
              refine d_val rfl rfl rfl (fun w ⟨Ar, H⟩ => r_as rfl rfl) ?_
              refine d_nil ?_
              refine q_blockN ?_
              refine q_then ?_
              refine c_env [(0, .slice A1 xs.length c2), (2, .slice none 0 0), (3, v28), (4, .int .i64 ((i : Nat) : Int))] ⟨rfl, rfl, rfl, rfl, trivial⟩ ?_
              refine c_reg ?_
              refine s_val rfl rfl (r_mv rfl rfl) ?_
              refine s_val rfl rfl (r_add (z := ((i + 1 : Nat) : Int)) rfl rfl rfl (by rw [w64 (by omega) (by omega)]; omega)) ?_
              refine s_val rfl rfl (r_as rfl rfl) ?_
              refine s_nil ?_
              replace H := H.pick 1 rfl
              replace H := H.keep 1
              replace H : Hd w0 F0 w [osl kStr v28 (outL xs (i + 1))] [rsl kPair (.slice A1 xs.length c2) xs] := by rw [outL_step hx13, insK_put (k := k) (by omega) hn (.inr ⟨x15, hx16, h19, h23⟩)]; exact H
              exact q_round (s := (i, undef)) (i + 1, v28) ⟨rfl, rfl, rfl, rfl, trivial⟩ ⟨H, by (try dsimp only); omega⟩ (by (try dsimp only); omega)
            · skip
              refine s_bsl (parts := [(0, .tmp 54)]) (vs := [.string x12.key]) (cs := [.string x12.key]) rfl rfl rfl sl75 zr9 rfl (by decide) (by decide) rfl rfl H (fun b29 w H => ?_)
              replace H := H.pick 1 rfl
              replace H : Hd _ _ _ [osl kStr (.slice A6 ((outL xs i).length) c7) (outL xs i), blk b29 [.string x12.key] 9] [rsl kPair (.slice A1 xs.length c2) xs] := H
              refine d_back ⟨_, H⟩ ?_
              refine d_main rfl ?_
              replace H := H.newnil kStr
              refine s_appF (xs := []) (ys := (outL xs i).take k) rfl rfl rfl sl75 zr9 rfl (by decide) rfl rfl H (by first | omega | (simp only [List.length_append, List.length_cons, List.length_nil, List.length_take, List.length_drop]; omega)) (fun F hA hR => rsl_pre (own_rd F (hA _ (List.mem_of_getElem? (i := 0) rfl))) (i := k) (by omega)) (fun v30 w H => ?_)
              replace H := H.pick 1 rfl
              replace H : Hd _ _ _ [osl kStr (.slice A6 ((outL xs i).length) c7) (outL xs i), osl kStr v30 ([] ++ ((outL xs i).take k)), blk b29 [.string x12.key] 9] [rsl kPair (.slice A1 xs.length c2) xs] := H
              refine d_back ⟨_, H⟩ ?_
              refine d_main rfl ?_
              replace H := H.pick 1 rfl
              refine s_appF (xs := [] ++ ((outL xs i).take k)) (ys := [x12.key]) rfl rfl rfl sl75 zr9 rfl (by decide) rfl rfl H (by first | omega | (simp only [List.length_append, List.length_cons, List.length_nil, List.length_take, List.length_drop]; omega)) (fun F hA hR => blk_rsl (hA _ (List.mem_of_getElem? (i := 1) rfl)) rfl (by decide) (RepsR.flat_eq.2 rfl)) (fun v31 w H => ?_)
              replace H := H.pick 1 rfl
              replace H : Hd _ _ _ [osl kStr (.slice A6 ((outL xs i).length) c7) (outL xs i), osl kStr v31 (([] ++ ((outL xs i).take k)) ++ [x12.key]), blk b29 [.string x12.key] 9] [rsl kPair (.slice A1 xs.length c2) xs] := H
              refine d_back ⟨_, H⟩ ?_
              refine d_main rfl ?_
              replace H := H.pick 1 rfl
              refine s_appF (xs := ([] ++ ((outL xs i).take k)) ++ [x12.key]) (ys := (outL xs i).drop k) rfl rfl rfl sl75 zr9 rfl (by decide) rfl rfl H (by first | omega | (simp only [List.length_append, List.length_cons, List.length_nil, List.length_take, List.length_drop]; omega)) (fun F hA hR => rsl_suf (own_rd F (hA _ (List.mem_of_getElem? (i := 0) rfl))) (i := k) (by omega)) (fun v32 w H => ?_)
              replace H := H.pick 1 rfl
              replace H : Hd _ _ _ [osl kStr (.slice A6 ((outL xs i).length) c7) (outL xs i), osl kStr v32 ((([] ++ ((outL xs i).take k)) ++ [x12.key]) ++ ((outL xs i).drop k)), blk b29 [.string x12.key] 9] [rsl kPair (.slice A1 xs.length c2) xs] := H
              refine d_back ⟨_, H⟩ ?_
              refine d_val rfl rfl rfl (fun w ⟨Ar, H⟩ => r_as rfl rfl) ?_
              refine d_nil ?_
              refine q_blockN ?_
              refine q_then ?_
              refine c_env [(0, .slice A1 xs.length c2), (2, .slice none 0 0), (3, v32), (4, .int .i64 ((i : Nat) : Int))] ⟨rfl, rfl, rfl, rfl, trivial⟩ ?_
              refine c_reg ?_
              refine s_val rfl rfl (r_mv rfl rfl) ?_
              refine s_val rfl rfl (r_add (z := ((i + 1 : Nat) : Int)) rfl rfl rfl (by rw [w64 (by omega) (by omega)]; omega)) ?_
              refine s_val rfl rfl (r_as rfl rfl) ?_
              refine s_nil ?_
              replace H := H.pick 1 rfl
              replace H := H.keep 1
              replace H : Hd w0 F0 w [osl kStr v32 (outL xs (i + 1))] [rsl kPair (.slice A1 xs.length c2) xs] := by rw [outL_step hx13, insK_put (k := k) (by omega) hn (.inr ⟨x15, hx16, h19, h23⟩)]; exact H
              exact q_round (s := (i, undef)) (i + 1, v32) ⟨rfl, rfl, rfl, rfl, trivial⟩ ⟨H, by (try dsimp only); omega⟩ (by (try dsimp only); omega)
        · exfalso; omega
    · skip
      refine u_no rfl rfl ?_
      refine u_no rfl rfl ?_
      refine u_no rfl rfl ?_
      refine u_no rfl rfl ?_
      refine u_no rfl rfl ?_
      refine u_no rfl rfl ?_
      refine u_no rfl rfl ?_
      refine u_no rfl rfl ?_
      refine u_no rfl rfl ?_
      refine u_no rfl rfl ?_
      refine u_val rfl rfl (fun w H => r_pickF rfl rfl rfl) ?_
      refine u_end (fun w H => ?_)
      refine q_then ?_
      refine c_env [(0, .slice A1 xs.length c2), (2, .slice none 0 0), (3, .slice A6 ((outL xs i).length) c7), (4, .int .i64 ((i : Nat) : Int)), (5, .int .i64 ((k : Nat) : Int)), (27, .bool false)] ⟨rfl, rfl, rfl, rfl, rfl, rfl, trivial⟩ ?_
      refine c_no rfl ?_
      refine c_exit ?_
      refine q_thenE ?_
      refine q_thenE ?_
      refine q_blockE ?_
      refine q_then ?_
      refine c_env [(0, .slice A1 xs.length c2), (2, .slice none 0 0), (3, .slice A6 ((outL xs i).length) c7), (4, .int .i64 ((i : Nat) : Int)), (5, .int .i64 ((k : Nat) : Int))] ⟨rfl, rfl, rfl, rfl, rfl, trivial⟩ ?_
      refine c_seq ?_
      refine c_seq ?_
      refine c_draw mo (by kernel_rfl) H ?_
      refine u_val rfl rfl (fun w H => r_mv rfl rfl) ?_
      refine u_val rfl rfl (fun w H => r_mv rfl rfl) ?_
      refine u_val rfl rfl (fun w H => r_lenL rfl un75 rfl) ?_
      refine u_val rfl rfl (fun w H => r_lt rfl rfl rfl) ?_
      refine u_val rfl rfl (fun w H => r_mv rfl rfl) ?_
      refine u_dec (d := 34) (p := ((k : Nat) : Int) < (((outL xs i).length : Nat) : Int)) rfl (fun h33 => ?_) (fun h33 => ?_)
      · exfalso; omega
      · skip
        refine u_no rfl rfl ?_
        refine u_no rfl rfl ?_
        refine u_no rfl rfl ?_
        refine u_no rfl rfl ?_
        refine u_no rfl rfl ?_
        refine u_no rfl rfl ?_
        refine u_no rfl rfl ?_
        refine u_no rfl rfl ?_
        refine u_no rfl rfl ?_
        refine u_no rfl rfl ?_
        refine u_val rfl rfl (fun w H => r_pickF rfl rfl rfl) ?_
        refine u_end (fun w H => ?_)
        refine q_then ?_
        refine c_env [(0, .slice A1 xs.length c2), (2, .slice none 0 0), (3, .slice A6 ((outL xs i).length) c7), (4, .int .i64 ((i : Nat) : Int)), (5, .int .i64 ((k : Nat) : Int)), (45, .bool false)] ⟨rfl, rfl, rfl, rfl, rfl, rfl, trivial⟩ ?_
        refine c_no rfl ?_
        refine c_skip ?_
        refine q_then ?_
        refine c_env [(0, .slice A1 xs.length c2), (2, .slice none 0 0), (3, .slice A6 ((outL xs i).length) c7), (4, .int .i64 ((i : Nat) : Int)), (5, .int .i64 ((k : Nat) : Int))] ⟨rfl, rfl, rfl, rfl, rfl, trivial⟩ ?_
        refine c_ord (.e 0 (.e 1 (.e 2 (.e 4 (.e 5 (.e 6 (.e 7 (.e 8 (.e 11 (.e 12 (.e 13 (.b 3 9 (.m 9 (.m 10 (.m 14 (.e 15 .z)))) (.m 3 (.m 10 (.m 14 (.e 15 .z)))))))))))))))) (fun w => ∃ Ar, Hd w0 F0 w (osl kStr (.slice A6 ((outL xs i).length) c7) (outL xs i) :: Ar) [rsl kPair (.slice A1 xs.length c2) xs]) mo (by kernel_rfl) (fun w H => ⟨_, H⟩) H (fun w H => ?_)
        refine d_val rfl rfl rfl (fun w ⟨Ar, H⟩ => r_mv rfl rfl) ?_
        refine d_val rfl rfl rfl (fun w ⟨Ar, H⟩ => r_mv rfl rfl) ?_
        refine d_val rfl rfl rfl (fun w ⟨Ar, H⟩ => r_cutP rfl sl75 rfl rfl (by omega) (by omega) rfl) ?_
        refine d_val rfl rfl rfl (fun w ⟨Ar, H⟩ => r_mv rfl rfl) ?_
        refine d_val rfl rfl rfl (fun w ⟨Ar, H⟩ => r_mv rfl rfl) ?_
        have th34 := H.thR 0 rfl hx13
        refine d_val rfl rfl rfl (fun w ⟨Ar, H⟩ => r_iaE (p := oOf A1 + i * 2) rfl sl23 rfl rfl (by omega) (by omega) th34 rfl) ?_
        refine d_val rfl rfl rfl (fun w ⟨Ar, H⟩ => r_fa rfl fo56_0 rfl) ?_
        refine d_val rfl rfl rfl (fun w ⟨Ar, H⟩ => r_ld rfl ty9 rfl (H.elR 0 rfl hx13 (q := 0) rfl rfl)) ?_
        refine d_val rfl rfl rfl (fun w ⟨Ar, H⟩ => r_mv rfl rfl) ?_
        refine d_val rfl rfl rfl (fun w ⟨Ar, H⟩ => r_mv rfl rfl) ?_
        refine d_val rfl rfl rfl (fun w ⟨Ar, H⟩ => r_cutS rfl sl75 rfl rfl (by omega) (by omega) rfl) ?_
        refine d_both rfl rfl ?_ ?_
        · skip
          replace H := H.newnil kStr
          refine s_appF (xs := []) (ys := (outL xs i).take k) rfl rfl rfl sl75 zr9 rfl (by decide) rfl rfl H (by first | omega | (simp only [List.length_append, List.length_cons, List.length_nil, List.length_take, List.length_drop]; omega)) (fun F hA hR => rsl_pre (own_rd F (hA _ (List.mem_of_getElem? (i := 0) rfl))) (i := k) (by omega)) (fun v35 w H => ?_)
          replace H := H.pick 1 rfl
          replace H : Hd _ _ _ [osl kStr (.slice A6 ((outL xs i).length) c7) (outL xs i), osl kStr v35 ([] ++ ((outL xs i).take k))] [rsl kPair (.slice A1 xs.length c2) xs] := H
          refine d_back ⟨_, H⟩ ?_
          refine d_main rfl ?_
          refine s_bsl (parts := [(0, .tmp 54)]) (vs := [.string x12.key]) (cs := [.string x12.key]) rfl rfl rfl sl75 zr9 rfl (by decide) (by decide) rfl rfl H (fun b36 w H => ?_)
          replace H := H.pick 1 rfl
          replace H : Hd _ _ _ [osl kStr (.slice A6 ((outL xs i).length) c7) (outL xs i), blk b36 [.string x12.key] 9, osl kStr v35 ([] ++ ((outL xs i).take k))] [rsl kPair (.slice A1 xs.length c2) xs] := H
          refine d_back ⟨_, H⟩ ?_
          refine d_main rfl ?_
          replace H := H.pick 2 rfl
          refine s_appF (xs := [] ++ ((outL xs i).take k)) (ys := [x12.key]) rfl rfl rfl sl75 zr9 rfl (by decide) rfl rfl H (by first | omega | (simp only [List.length_append, List.length_cons, List.length_nil, List.length_take, List.length_drop]; omega)) (fun F hA hR => blk_rsl (hA _ (List.mem_of_getElem? (i := 1) rfl)) rfl (by decide) (RepsR.flat_eq.2 rfl)) (fun v37 w H => ?_)
          replace H := H.pick 1 rfl
          replace H : Hd _ _ _ [osl kStr (.slice A6 ((outL xs i).length) c7) (outL xs i), osl kStr v37 (([] ++ ((outL xs i).take k)) ++ [x12.key]), blk b36 [.string x12.key] 9] [rsl kPair (.slice A1 xs.length c2) xs] := H
          refine d_back ⟨_, H⟩ ?_
          refine d_main rfl ?_
          replace H := H.pick 1 rfl
          refine s_appF (xs := ([] ++ ((outL xs i).take k)) ++ [x12.key]) (ys := (outL xs i).drop k) rfl rfl rfl sl75 zr9 rfl (by decide) rfl rfl H (by first | omega | (simp only [List.length_append, List.length_cons, List.length_nil, List.length_take, List.length_drop]; omega)) (fun F hA hR => rsl_suf (own_rd F (hA _ (List.mem_of_getElem? (i := 0) rfl))) (i := k) (by omega)) (fun v38 w H => ?_)
          replace H := H.pick 1 rfl
          replace H : Hd _ _ _ [osl kStr (.slice A6 ((outL xs i).length) c7) (outL xs i), osl kStr v38 ((([] ++ ((outL xs i).take k)) ++ [x12.key]) ++ ((outL xs i).drop k)), blk b36 [.string x12.key] 9] [rsl kPair (.slice A1 xs.length c2) xs] := H
          refine d_back ⟨_, H⟩ ?_
          refine d_val rfl rfl rfl (fun w ⟨Ar, H⟩ => r_as rfl rfl) ?_
          refine d_nil ?_
          refine q_blockN ?_
          refine q_then ?_
          refine c_env [(0, .slice A1 xs.length c2), (2, .slice none 0 0), (3, v38), (4, .int .i64 ((i : Nat) : Int))] ⟨rfl, rfl, rfl, rfl, trivial⟩ ?_
          refine c_reg ?_
          refine s_val rfl rfl (r_mv rfl rfl) ?_
          refine s_val rfl rfl (r_add (z := ((i + 1 : Nat) : Int)) rfl rfl rfl (by rw [w64 (by omega) (by omega)]; omega)) ?_
          refine s_val rfl rfl (r_as rfl rfl) ?_
          refine s_nil ?_
          replace H := H.pick 1 rfl
          replace H := H.keep 1
          replace H : Hd w0 F0 w [osl kStr v38 (outL xs (i + 1))] [rsl kPair (.slice A1 xs.length c2) xs] := by rw [outL_step hx13, insK_put (k := k) (by omega) hn (.inl (by omega))]; exact H
          exact q_round (s := (i, undef)) (i + 1, v38) ⟨rfl, rfl, rfl, rfl, trivial⟩ ⟨H, by (try dsimp only); omega⟩ (by (try dsimp only); omega)
        · skip
          refine s_bsl (parts := [(0, .tmp 54)]) (vs := [.string x12.key]) (cs := [.string x12.key]) rfl rfl rfl sl75 zr9 rfl (by decide) (by decide) rfl rfl H (fun b39 w H => ?_)
          replace H := H.pick 1 rfl
          replace H : Hd _ _ _ [osl kStr (.slice A6 ((outL xs i).length) c7) (outL xs i), blk b39 [.string x12.key] 9] [rsl kPair (.slice A1 xs.length c2) xs] := H
          refine d_back ⟨_, H⟩ ?_
          refine d_main rfl ?_
          replace H := H.newnil kStr
          refine s_appF (xs := []) (ys := (outL xs i).take k) rfl rfl rfl sl75 zr9 rfl (by decide) rfl rfl H (by first | omega | (simp only [List.length_append, List.length_cons, List.length_nil, List.length_take, List.length_drop]; omega)) (fun F hA hR => rsl_pre (own_rd F (hA _ (List.mem_of_getElem? (i := 0) rfl))) (i := k) (by omega)) (fun v40 w H => ?_)
          replace H := H.pick 1 rfl
          replace H : Hd _ _ _ [osl kStr (.slice A6 ((outL xs i).length) c7) (outL xs i), osl kStr v40 ([] ++ ((outL xs i).take k)), blk b39 [.string x12.key] 9] [rsl kPair (.slice A1 xs.length c2) xs] := H
          refine d_back ⟨_, H⟩ ?_
          refine d_main rfl ?_
          replace H := H.pick 1 rfl
          refine s_appF (xs := [] ++ ((outL xs i).take k)) (ys := [x12.key]) rfl rfl rfl sl75 zr9 rfl (by decide) rfl rfl H (by first | omega | (simp only [List.length_append, List.length_cons, List.length_nil, List.length_take, List.length_drop]; omega)) (fun F hA hR => blk_rsl (hA _ (List.mem_of_getElem? (i := 1) rfl)) rfl (by decide) (RepsR.flat_eq.2 rfl)) (fun v41 w H => ?_)
          replace H := H.pick 1 rfl
          replace H : Hd _ _ _ [osl kStr (.slice A6 ((outL xs i).length) c7) (outL xs i), osl kStr v41 (([] ++ ((outL xs i).take k)) ++ [x12.key]), blk b39 [.string x12.key] 9] [rsl kPair (.slice A1 xs.length c2) xs] := H
          refine d_back ⟨_, H⟩ ?_
          refine d_main rfl ?_
          replace H := H.pick 1 rfl
          refine s_appF (xs := ([] ++ ((outL xs i).take k)) ++ [x12.key]) (ys := (outL xs i).drop k) rfl rfl rfl sl75 zr9 rfl (by decide) rfl rfl H (by first | omega | (simp only [List.length_append, List.length_cons, List.length_nil, List.length_take, List.length_drop]; omega)) (fun F hA hR => rsl_suf (own_rd F (hA _ (List.mem_of_getElem? (i := 0) rfl))) (i := k) (by omega)) (fun v42 w H => ?_)
          replace H := H.pick 1 rfl
          replace H : Hd _ _ _ [osl kStr (.slice A6 ((outL xs i).length) c7) (outL xs i), osl kStr v42 ((([] ++ ((outL xs i).take k)) ++ [x12.key]) ++ ((outL xs i).drop k)), blk b39 [.string x12.key] 9] [rsl kPair (.slice A1 xs.length c2) xs] := H
          refine d_back ⟨_, H⟩ ?_
          refine d_val rfl rfl rfl (fun w ⟨Ar, H⟩ => r_as rfl rfl) ?_
          refine d_nil ?_
          refine q_blockN ?_
          refine q_then ?_
          refine c_env [(0, .slice A1 xs.length c2), (2, .slice none 0 0), (3, v42), (4, .int .i64 ((i : Nat) : Int))] ⟨rfl, rfl, rfl, rfl, trivial⟩ ?_
          refine c_reg ?_
          refine s_val rfl rfl (r_mv rfl rfl) ?_
          refine s_val rfl rfl (r_add (z := ((i + 1 : Nat) : Int)) rfl rfl rfl (by rw [w64 (by omega) (by omega)]; omega)) ?_
          refine s_val rfl rfl (r_as rfl rfl) ?_
          refine s_nil ?_
          replace H := H.pick 1 rfl
          replace H := H.keep 1
          replace H : Hd w0 F0 w [osl kStr v42 (outL xs (i + 1))] [rsl kPair (.slice A1 xs.length c2) xs] := by rw [outL_step hx13, insK_put (k := k) (by omega) hn (.inl (by omega))]; exact H
          exact q_round (s := (i, undef)) (i + 1, v42) ⟨rfl, rfl, rfl, rfl, trivial⟩ ⟨H, by (try dsimp only); omega⟩ (by (try dsimp only); omega)
  · skip
    refine c_exit ?_
    refine q_thenE ?_
    refine q_thenE ?_
    refine q_blockE ?_
    refine q_then ?_
    refine c_env [(2, .slice none 0 0), (3, .slice A6 ((outL xs i).length) c7)] ⟨rfl, rfl, trivial⟩ ?_
    refine c_seq ?_
    refine c_reg ?_
    refine s_val rfl rfl (r_mv rfl rfl) ?_
    refine s_val rfl rfl (r_as rfl rfl) ?_
    refine s_nil ?_
    refine q_then ?_
    refine c_env [(2, .slice A6 ((outL xs i).length) c7)] ⟨rfl, trivial⟩ ?_
    refine c_ret ?_
    refine q_ret1 rfl rfl ?_
    have e : outL xs i = refK [] (xs.map (·.key)) := by unfold outL; rw [List.take_of_length_le (by omega)]
    replace H : Hd w0 F0 w [osl kStr (.slice A6 ((outL xs i).length) c7) (refK [] (xs.map (·.key)))] [rsl kPair (.slice A1 xs.length c2) xs] := by rw [← e]; exact H
    exact fin rfl H

set_option maxHeartbeats 1000000 in
theorem rSort_ok (vxs : Value) (xs : List Pair) (hb : xs.length ≤ 1000000) :
    Cn Tryz.prog 65 [vxs] [] [rsl kPair vxs xs] (fun v Bs => Bs = [osl kPair v (srt xs)]) := by
  intro w0 F0 H
  obtain ⟨A1, c2, rfl, hc3, hm4, hp5⟩ := H.fR 0 rfl
  refine enter (args := [.slice A1 xs.length c2]) Tryz.func65 rfl rfl (Nat.le_of_ble_eq_true rfl) ?_
  refine c_seq ?_
  refine c_reg ?_
  refine s_val rfl rfl (r_as rfl rfl) ?_
  refine s_nil ?_
  refine q_then ?_
  replace H : Hd _ _ _ [] [rsl kPair (.slice A1 xs.length c2) xs] := H
  refine c_env [(0, .slice A1 xs.length c2), (2, .slice none 0 0)] ⟨rfl, rfl, trivial⟩ ?_
  refine c_seq ?_
  refine c_reg ?_
  refine s_val rfl rfl (r_as rfl rfl) ?_
  refine s_nil ?_
  refine q_then ?_
  refine c_env [(0, .slice A1 xs.length c2), (2, .slice none 0 0), (3, .slice none 0 0)] ⟨rfl, rfl, rfl, trivial⟩ ?_
  refine c_seq ?_
  refine c_reg ?_
  refine s_val rfl rfl (r_mv rfl rfl) ?_
  refine sc (rKeys_ok (.slice A1 xs.length c2) xs (by first | omega | decide)) H (lR 0 rfl l0) rfl rfl (e_fn kn81 rfl rfl) ?_
  rintro v6 _ w rfl H
  refine s_val rfl rfl (r_as rfl rfl) ?_
  refine s_nil ?_
  refine q_then ?_
  replace H : Hd _ _ _ [osl kStr v6 (refK [] (xs.map (·.key)))] [rsl kPair (.slice A1 xs.length c2) xs] := H
  refine c_env [(0, .slice A1 xs.length c2), (2, .slice none 0 0), (3, .slice none 0 0), (4, v6)] ⟨rfl, rfl, rfl, rfl, trivial⟩ ?_
  refine c_seq ?_
  refine c_seq ?_
  refine c_reg ?_
  refine s_val rfl rfl (r_as rfl rfl) ?_
  refine s_nil ?_
  refine q_then ?_
  refine c_env [(0, .slice A1 xs.length c2), (2, .slice none 0 0), (3, .slice none 0 0), (4, v6), (5, .int .i64 0)] ⟨rfl, rfl, rfl, rfl, rfl, trivial⟩ ?_
  refine c_block ?_
  replace H := H.newnil kPair
  replace H := H.pick 1 rfl
  replace H := H.pick 1 rfl
  refine c_loop (σ := Nat × Value) (fun (i, l) => [(0, .slice A1 xs.length c2), (2, .slice none 0 0), (3, l), (4, v6), (5, .int .i64 ((i : Nat) : Int))]) (fun (i, l) w => (Hd w0 F0 w [osl kPair l (flatP xs ((refK [] (xs.map (·.key))).take i)), osl kStr v6 (refK [] (xs.map (·.key)))] [rsl kPair (.slice A1 xs.length c2) xs]) ∧ (i ≤ (refK [] (xs.map (·.key))).length)) (fun (i, l) => (refK [] (xs.map (·.key))).length - i) (0, .slice none 0 0) ⟨rfl, rfl, rfl, rfl, rfl, trivial⟩ ⟨H, by (try dsimp only); omega⟩ ?_
  rintro ⟨i, l⟩ w ⟨H, hi⟩
  have hfl := flatP_len xs i
  refine c_seq ?_
  refine c_seq ?_
  refine c_reg ?_
  refine s_val rfl rfl (r_mv rfl rfl) ?_
  refine s_val rfl rfl (r_mv rfl rfl) ?_
  obtain ⟨A7, c8, rfl, hc9, hm10, hp11⟩ := H.fA 1 rfl
  refine s_val rfl rfl (r_lenL rfl un75 rfl) ?_
  refine s_val rfl rfl (r_lt rfl rfl rfl) ?_
  refine s_nil ?_
  refine q_then ?_
  replace H : Hd _ _ _ [osl kPair l (flatP xs ((refK [] (xs.map (·.key))).take i)), osl kStr (.slice A7 ((refK [] (xs.map (·.key))).length) c8) (refK [] (xs.map (·.key)))] [rsl kPair (.slice A1 xs.length c2) xs] := H
  refine c_env [(0, .slice A1 xs.length c2), (2, .slice none 0 0), (3, l), (4, .slice A7 ((refK [] (xs.map (·.key))).length) c8), (5, .int .i64 ((i : Nat) : Int)), (13, .bool (decide (((i : Nat) : Int) < (((refK [] (xs.map (·.key))).length : Nat) : Int))))] ⟨rfl, rfl, rfl, rfl, rfl, rfl, trivial⟩ ?_
  refine c_dec (p := ((i : Nat) : Int) < (((refK [] (xs.map (·.key))).length : Nat) : Int)) rfl (fun h12 => ?_) (fun h12 => ?_)
  · skip
    refine c_skip ?_
    refine q_then ?_
    refine c_env [(0, .slice A1 xs.length c2), (2, .slice none 0 0), (3, l), (4, .slice A7 ((refK [] (xs.map (·.key))).length) c8), (5, .int .i64 ((i : Nat) : Int))] ⟨rfl, rfl, rfl, rfl, rfl, trivial⟩ ?_
    refine c_seq ?_
    refine c_block ?_
    refine c_seq ?_
    refine c_reg ?_
    refine s_val rfl rfl (r_mv rfl rfl) ?_
    refine s_val rfl rfl (r_mv rfl rfl) ?_
    refine s_val rfl rfl (r_mv rfl rfl) ?_
    obtain ⟨x13, hx14⟩ : ∃ z9, (refK [] (xs.map (·.key)))[i]? = some z9 := ⟨_, List.getElem?_eq_getElem (show i < (refK [] (xs.map (·.key))).length by omega)⟩
    have th15 := H.thA 1 rfl hx14
    refine s_val rfl rfl (r_iaE (p := oOf A7 + i * 1) rfl sl75 rfl rfl (by omega) (by omega) th15 rfl) ?_
    refine s_val rfl rfl (r_ld rfl ty9 rfl (H.elA 1 rfl hx14 (q := 0) rfl rfl)) ?_
    refine sc (rOf_ok (.slice A1 xs.length c2) xs x13 (by first | omega | decide)) H (lR 0 rfl l0) rfl rfl (e_fn kn83 rfl rfl) ?_
    rintro v16 _ w rfl H
    refine s_val rfl rfl (r_as rfl rfl) ?_
    refine s_nil ?_
    refine q_then ?_
    replace H : Hd _ _ _ [osl kStr v16 (ofL xs x13), osl kPair l (flatP xs ((refK [] (xs.map (·.key))).take i)), osl kStr (.slice A7 ((refK [] (xs.map (·.key))).length) c8) (refK [] (xs.map (·.key)))] [rsl kPair (.slice A1 xs.length c2) xs] := H
    refine c_env [(0, .slice A1 xs.length c2), (2, .slice none 0 0), (3, l), (4, .slice A7 ((refK [] (xs.map (·.key))).length) c8), (5, .int .i64 ((i : Nat) : Int)), (6, v16)] ⟨rfl, rfl, rfl, rfl, rfl, rfl, trivial⟩ ?_
    refine c_seq ?_
    refine c_reg ?_
    refine s_val rfl rfl (r_as rfl rfl) ?_
    refine s_nil ?_
    refine q_then ?_
    refine c_env [(0, .slice A1 xs.length c2), (2, .slice none 0 0), (3, l), (4, .slice A7 ((refK [] (xs.map (·.key))).length) c8), (5, .int .i64 ((i : Nat) : Int)), (6, v16), (7, .int .i64 0)] ⟨rfl, rfl, rfl, rfl, rfl, rfl, rfl, trivial⟩ ?_
    refine c_block ?_
    obtain ⟨A17, c18, rfl, hc19, hm20, hp21⟩ := H.fA 0 rfl
    have hpl := flatP_len xs (i + 1)
    rw [flatP_step hx14, List.length_append, pairsOf_len] at hpl
    replace H := H.pick 1 rfl
    replace H : Hd w0 F0 w [osl kPair l (flatP xs ((refK [] (xs.map (·.key))).take i) ++ (pairsOf xs x13).take 0), osl kStr (.slice A17 ((ofL xs x13).length) c18) (ofL xs x13), osl kStr (.slice A7 ((refK [] (xs.map (·.key))).length) c8) (refK [] (xs.map (·.key)))] [rsl kPair (.slice A1 xs.length c2) xs] := by rw [List.take_zero, List.append_nil]; exact H
    replace H := H.pick 1 rfl
    replace H := H.pick 2 rfl
    replace H := H.pick 2 rfl
    refine c_loop (σ := Nat × Value) (fun (k, q) => [(0, .slice A1 xs.length c2), (2, .slice none 0 0), (3, q), (4, .slice A7 ((refK [] (xs.map (·.key))).length) c8), (5, .int .i64 ((i : Nat) : Int)), (6, .slice A17 ((ofL xs x13).length) c18), (7, .int .i64 ((k : Nat) : Int))]) (fun (k, q) w => (Hd w0 F0 w [osl kPair q (flatP xs ((refK [] (xs.map (·.key))).take i) ++ (pairsOf xs x13).take k), osl kStr (.slice A7 ((refK [] (xs.map (·.key))).length) c8) (refK [] (xs.map (·.key))), osl kStr (.slice A17 ((ofL xs x13).length) c18) (ofL xs x13)] [rsl kPair (.slice A1 xs.length c2) xs]) ∧ (k ≤ (ofL xs x13).length)) (fun (k, q) => (ofL xs x13).length - k) (0, l) ⟨rfl, rfl, rfl, rfl, rfl, rfl, rfl, trivial⟩ ⟨H, by (try dsimp only); omega⟩ ?_
    rintro ⟨k, q⟩ w ⟨H, hk⟩
    have hpt : ((pairsOf xs x13).take k).length ≤ k := by simp; omega
    have hpa : (flatP xs ((refK [] (xs.map (·.key))).take i) ++ (pairsOf xs x13).take k).length = (flatP xs ((refK [] (xs.map (·.key))).take i)).length + ((pairsOf xs x13).take k).length := List.length_append
    refine c_seq ?_
    refine c_seq ?_
    refine c_reg ?_
    refine s_val rfl rfl (r_mv rfl rfl) ?_
    refine s_val rfl rfl (r_mv rfl rfl) ?_
    refine s_val rfl rfl (r_lenL rfl un75 rfl) ?_
    refine s_val rfl rfl (r_lt rfl rfl rfl) ?_
    refine s_nil ?_
    refine q_then ?_
    refine c_env [(0, .slice A1 xs.length c2), (2, .slice none 0 0), (3, q), (4, .slice A7 ((refK [] (xs.map (·.key))).length) c8), (5, .int .i64 ((i : Nat) : Int)), (6, .slice A17 ((ofL xs x13).length) c18), (7, .int .i64 ((k : Nat) : Int)), (25, .bool (decide (((k : Nat) : Int) < (((ofL xs x13).length : Nat) : Int))))] ⟨rfl, rfl, rfl, rfl, rfl, rfl, rfl, rfl, trivial⟩ ?_
    refine c_dec (p := ((k : Nat) : Int) < (((ofL xs x13).length : Nat) : Int)) rfl (fun h22 => ?_) (fun h22 => ?_)
    · skip
      refine c_skip ?_
      refine q_then ?_
      refine c_env [(0, .slice A1 xs.length c2), (2, .slice none 0 0), (3, q), (4, .slice A7 ((refK [] (xs.map (·.key))).length) c8), (5, .int .i64 ((i : Nat) : Int)), (6, .slice A17 ((ofL xs x13).length) c18), (7, .int .i64 ((k : Nat) : Int))] ⟨rfl, rfl, rfl, rfl, rfl, rfl, rfl, trivial⟩ ?_
      refine c_seq ?_
      refine c_block ?_
      replace H := H.pick 2 rfl
      replace H := H.pick 2 rfl
      replace H : Hd _ _ _ [osl kStr (.slice A7 ((refK [] (xs.map (·.key))).length) c8) (refK [] (xs.map (·.key))), osl kStr (.slice A17 ((ofL xs x13).length) c18) (ofL xs x13), osl kPair q (flatP xs ((refK [] (xs.map (·.key))).take i) ++ (pairsOf xs x13).take k)] [rsl kPair (.slice A1 xs.length c2) xs] := H
      refine c_ord (.e 0 (.e 1 (.e 2 (.e 3 (.e 4 (.e 5 (.e 6 (.e 7 (.e 8 (.e 9 (.m 10 (.m 11 (.e 12 .z))))))))))))) (fun w => ∃ Ar, Hd w0 F0 w (osl kStr (.slice A7 ((refK [] (xs.map (·.key))).length) c8) (refK [] (xs.map (·.key))) :: osl kStr (.slice A17 ((ofL xs x13).length) c18) (ofL xs x13) :: Ar) [rsl kPair (.slice A1 xs.length c2) xs]) mo (by kernel_rfl) (fun w H => ⟨_, H⟩) H (fun w H => ?_)
      refine d_val rfl rfl rfl (fun w ⟨Ar, H⟩ => r_mv rfl rfl) ?_
      refine d_val rfl rfl rfl (fun w ⟨Ar, H⟩ => r_mv rfl rfl) ?_
      refine d_val rfl rfl rfl (fun w ⟨Ar, H⟩ => r_mv rfl rfl) ?_
      have th23 := H.thA 0 rfl hx14
      refine d_val rfl rfl rfl (fun w ⟨Ar, H⟩ => r_iaE (p := oOf A7 + i * 1) rfl sl75 rfl rfl (by omega) (by omega) th23 rfl) ?_
      refine d_val rfl rfl rfl (fun w ⟨Ar, H⟩ => r_ld rfl ty9 rfl (H.elA 0 rfl hx14 (q := 0) rfl rfl)) ?_
      refine d_val rfl rfl rfl (fun w ⟨Ar, H⟩ => r_mv rfl rfl) ?_
      refine d_val rfl rfl rfl (fun w ⟨Ar, H⟩ => r_mv rfl rfl) ?_
      obtain ⟨x24, hx25⟩ : ∃ z9, (ofL xs x13)[k]? = some z9 := ⟨_, List.getElem?_eq_getElem (show k < (ofL xs x13).length by omega)⟩
      have th26 := H.thA 1 rfl hx25
      refine d_val rfl rfl rfl (fun w ⟨Ar, H⟩ => r_iaE (p := oOf A17 + k * 1) rfl sl75 rfl rfl (by omega) (by omega) th26 rfl) ?_
      refine d_val rfl rfl rfl (fun w ⟨Ar, H⟩ => r_ld rfl ty9 rfl (H.elA 1 rfl hx25 (q := 0) rfl rfl)) ?_
      refine d_val rfl rfl rfl (fun w ⟨Ar, H⟩ => r_bd (parts := [(0, .tmp 32), (1, .tmp 36)]) (vs := [.string x13, .string x24]) (cs := [.string x13, .string x24]) rfl bd56 rfl rfl) ?_
      refine d_main rfl ?_
      refine s_bsl (parts := [(0, .tmp 37)]) (vs := [.agg #[.string x13, .string x24]]) (cs := [.string x13, .string x24]) rfl rfl rfl sl23 zr56 rfl (by decide) (by decide) rfl rfl H (fun b27 w H => ?_)
      replace H := H.pick 2 rfl
      replace H := H.pick 2 rfl
      replace H : Hd _ _ _ [osl kStr (.slice A7 ((refK [] (xs.map (·.key))).length) c8) (refK [] (xs.map (·.key))), osl kStr (.slice A17 ((ofL xs x13).length) c18) (ofL xs x13), blk b27 [.string x13, .string x24] 56, osl kPair q (flatP xs ((refK [] (xs.map (·.key))).take i) ++ (pairsOf xs x13).take k)] [rsl kPair (.slice A1 xs.length c2) xs] := H
      refine d_back ⟨_, H⟩ ?_
      refine d_main rfl ?_
      replace H := H.pick 3 rfl
      refine s_appF (xs := flatP xs ((refK [] (xs.map (·.key))).take i) ++ (pairsOf xs x13).take k) (ys := [(⟨x13, x24⟩ : Pair)]) rfl rfl rfl sl23 zr56 rfl (by decide) rfl rfl H (by omega) (fun F hA hR => blk_rsl (hA _ (List.mem_of_getElem? (i := 2) rfl)) rfl (by decide) (RepsR.flat_eq.2 rfl)) (fun v28 w H => ?_)
      replace H := H.pick 2 rfl
      replace H := H.pick 2 rfl
      replace H : Hd _ _ _ [osl kStr (.slice A7 ((refK [] (xs.map (·.key))).length) c8) (refK [] (xs.map (·.key))), osl kStr (.slice A17 ((ofL xs x13).length) c18) (ofL xs x13), osl kPair v28 ((flatP xs ((refK [] (xs.map (·.key))).take i) ++ (pairsOf xs x13).take k) ++ [(⟨x13, x24⟩ : Pair)]), blk b27 [.string x13, .string x24] 56] [rsl kPair (.slice A1 xs.length c2) xs] := H
      refine d_back ⟨_, H⟩ ?_
      refine d_val rfl rfl rfl (fun w ⟨Ar, H⟩ => r_as rfl rfl) ?_
      refine d_nil ?_
      refine q_blockN ?_
      refine q_then ?_
      refine c_env [(0, .slice A1 xs.length c2), (2, .slice none 0 0), (3, v28), (4, .slice A7 ((refK [] (xs.map (·.key))).length) c8), (5, .int .i64 ((i : Nat) : Int)), (6, .slice A17 ((ofL xs x13).length) c18), (7, .int .i64 ((k : Nat) : Int))] ⟨rfl, rfl, rfl, rfl, rfl, rfl, rfl, trivial⟩ ?_
      refine c_reg ?_
      refine s_val rfl rfl (r_mv rfl rfl) ?_
      refine s_val rfl rfl (r_add (z := ((k + 1 : Nat) : Int)) rfl rfl rfl (by rw [w64 (by omega) (by omega)]; omega)) ?_
      refine s_val rfl rfl (r_as rfl rfl) ?_
      refine s_nil ?_
      replace H := H.pick 1 rfl
      replace H := H.pick 1 rfl
      replace H := H.pick 2 rfl
      replace H := H.keep 3
      replace H : Hd w0 F0 w [osl kPair v28 (flatP xs ((refK [] (xs.map (·.key))).take i) ++ (pairsOf xs x13).take (k + 1)), osl kStr (.slice A7 ((refK [] (xs.map (·.key))).length) c8) (refK [] (xs.map (·.key))), osl kStr (.slice A17 ((ofL xs x13).length) c18) (ofL xs x13)] [rsl kPair (.slice A1 xs.length c2) xs] := by rw [pairsOf_step hx25, ← List.append_assoc]; exact H
      replace H := H.pick 2 rfl
      replace H := H.pick 2 rfl
      replace H := H.pick 2 rfl
      exact q_round (s := (k, undef)) (k + 1, v28) ⟨rfl, rfl, rfl, rfl, rfl, rfl, rfl, trivial⟩ ⟨H, by (try dsimp only); omega⟩ (by (try dsimp only); omega)
    · skip
      refine c_exit ?_
      refine q_thenE ?_
      refine q_thenE ?_
      refine q_blockE ?_
      refine q_blockN ?_
      refine q_then ?_
      refine c_env [(0, .slice A1 xs.length c2), (2, .slice none 0 0), (3, q), (4, .slice A7 ((refK [] (xs.map (·.key))).length) c8), (5, .int .i64 ((i : Nat) : Int))] ⟨rfl, rfl, rfl, rfl, rfl, trivial⟩ ?_
      refine c_reg ?_
      refine s_val rfl rfl (r_mv rfl rfl) ?_
      refine s_val rfl rfl (r_add (z := ((i + 1 : Nat) : Int)) rfl rfl rfl (by rw [w64 (by omega) (by omega)]; omega)) ?_
      refine s_val rfl rfl (r_as rfl rfl) ?_
      refine s_nil ?_
      replace H := H.pick 1 rfl
      replace H := H.pick 1 rfl
      replace H := H.keep 2
      replace H : Hd w0 F0 w [osl kPair q (flatP xs ((refK [] (xs.map (·.key))).take (i + 1))), osl kStr (.slice A7 ((refK [] (xs.map (·.key))).length) c8) (refK [] (xs.map (·.key)))] [rsl kPair (.slice A1 xs.length c2) xs] := by rw [flatP_step hx14]; rw [pairsOf_all (by omega)] at H; exact H
      replace H := H.pick 1 rfl
      replace H := H.pick 1 rfl
      exact q_round (s := (i, undef)) (i + 1, q) ⟨rfl, rfl, rfl, rfl, rfl, trivial⟩ ⟨H, by (try dsimp only); omega⟩ (by (try dsimp only); omega)
  · skip
    refine c_exit ?_
    refine q_thenE ?_
    refine q_thenE ?_
    refine q_blockE ?_
    refine q_then ?_
    refine c_env [(2, .slice none 0 0), (3, l)] ⟨rfl, rfl, trivial⟩ ?_
    refine c_seq ?_
    refine c_reg ?_
    refine s_val rfl rfl (r_mv rfl rfl) ?_
    refine s_val rfl rfl (r_as rfl rfl) ?_
    refine s_nil ?_
    refine q_then ?_
    refine c_env [(2, l)] ⟨rfl, trivial⟩ ?_
    refine c_ret ?_
    refine q_ret1 rfl rfl ?_
    replace H := H.keep 1
    replace H : Hd w0 F0 w [osl kPair l (srt xs)] [rsl kPair (.slice A1 xs.length c2) xs] := by rw [List.take_of_length_le (show (refK [] (xs.map (·.key))).length ≤ i by omega), flat_srt] at H; exact H
    exact fin rfl H

end Go.Proofs.YtlpgdkbokakniaaGreatDoor.X
