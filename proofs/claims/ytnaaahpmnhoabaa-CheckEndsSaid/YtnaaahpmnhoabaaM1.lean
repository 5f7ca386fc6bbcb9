/- Small functions over lists of numbers: what each answers. -/
import Derived.Test.YtnaaahpmnhoabaaXF
import Derived.Test.YtnaaahpmnhoabaaXL
import Derived.Test.YtnaaahpmnhoabaaXK
set_option linter.unusedVariables false
set_option linter.unusedSimpArgs false
namespace Go.Proofs.Ytnaaahpmnhoabaa.X
open Go
set_option maxHeartbeats 1000000 in
theorem sameInts_ok (v1 v2 : Value) (xs ys : List Int) :
    Cn Try.prog 38 [v1, v2] [] [rsl (kInt .i64) v1 xs, rsl (kInt .i64) v2 ys] (fun v Bs => v = .bool (decide (xs = ys)) ∧ Bs = []) := by
  intro w0 F0 H
  obtain ⟨A1, c2, rfl, hc3, hm4, hp5⟩ := H.fR 0 rfl
  obtain ⟨A6, c7, rfl, hc8, hm9, hp10⟩ := H.fR 1 rfl
  refine enter (args := [.slice A1 xs.length c2, .slice A6 ys.length c7]) Try.func38 rfl rfl (Nat.le_of_ble_eq_true rfl) ?_
  refine c_seq ?_
  refine c_reg ?_
  refine s_val rfl rfl (r_as rfl rfl) ?_
  refine s_nil ?_
  refine q_then ?_
  replace H : Hd _ _ _ [] [rsl (kInt .i64) (.slice A1 xs.length c2) xs, rsl (kInt .i64) (.slice A6 ys.length c7) ys] := H
  refine c_env [(0, .slice A1 xs.length c2), (1, .slice A6 ys.length c7), (4, .bool false)] ⟨rfl, rfl, rfl, trivial⟩ ?_
  refine c_seq ?_
  refine c_seq ?_
  refine c_reg ?_
  refine s_val rfl rfl (r_mv rfl rfl) ?_
  refine s_val rfl rfl (r_lenL rfl un22 rfl) ?_
  refine s_val rfl rfl (r_mv rfl rfl) ?_
  refine s_val rfl rfl (r_lenL rfl un22 rfl) ?_
  refine s_val rfl rfl (r_ne rfl rfl rfl) ?_
  refine s_nil ?_
  refine q_then ?_
  refine c_env [(0, .slice A1 xs.length c2), (1, .slice A6 ys.length c7), (4, .bool false), (10, .bool (decide (((xs.length : Nat) : Int) ≠ ((ys.length : Nat) : Int))))] ⟨rfl, rfl, rfl, rfl, trivial⟩ ?_
  refine c_dec (p := ((xs.length : Nat) : Int) ≠ ((ys.length : Nat) : Int)) rfl (fun h11 => ?_) (fun h11 => ?_)
  · skip
    refine c_seq ?_
    refine c_reg ?_
    refine s_val rfl rfl (r_as rfl rfl) ?_
    refine s_nil ?_
    refine q_then ?_
    refine c_env [(0, .slice A1 xs.length c2), (1, .slice A6 ys.length c7), (4, .bool false)] ⟨rfl, rfl, rfl, trivial⟩ ?_
    refine c_ret ?_
    refine q_thenR ?_
    refine q_ret1 rfl rfl ?_
    have e : ¬ xs = ys := fun e => h11 (by rw [e])
    exact fin ⟨by rw [decide_eq_false e], rfl⟩ H
  · skip
    refine c_skip ?_
    refine q_then ?_
    refine c_env [(0, .slice A1 xs.length c2), (1, .slice A6 ys.length c7), (4, .bool false)] ⟨rfl, rfl, rfl, trivial⟩ ?_
    refine c_seq ?_
    refine c_seq ?_
    refine c_reg ?_
    refine s_val rfl rfl (r_as rfl rfl) ?_
    refine s_nil ?_
    refine q_then ?_
    refine c_env [(0, .slice A1 xs.length c2), (1, .slice A6 ys.length c7), (4, .bool false), (5, .int .i64 0)] ⟨rfl, rfl, rfl, rfl, trivial⟩ ?_
    refine c_block ?_
    have hle : xs.length = ys.length := by omega
    refine c_loop (σ := Nat) (fun k => [(0, .slice A1 xs.length c2), (1, .slice A6 ys.length c7), (5, .int .i64 ((k : Nat) : Int))]) (fun k w => (Hd w0 F0 w [] [rsl (kInt .i64) (.slice A1 xs.length c2) xs, rsl (kInt .i64) (.slice A6 ys.length c7) ys]) ∧ (k ≤ xs.length) ∧ (xs.length = ys.length) ∧ (xs.take k = ys.take k)) (fun k => xs.length - k) 0 ⟨rfl, rfl, rfl, trivial⟩ ⟨H, by omega, hle, rfl⟩ ?_
    rintro k w ⟨H, hk, hle, ht⟩
    refine c_seq ?_
    refine c_seq ?_
    refine c_reg ?_
    refine s_val rfl rfl (r_mv rfl rfl) ?_
    refine s_val rfl rfl (r_mv rfl rfl) ?_
    refine s_val rfl rfl (r_lenL rfl un22 rfl) ?_
    refine s_val rfl rfl (r_lt rfl rfl rfl) ?_
    refine s_nil ?_
    refine q_then ?_
    refine c_env [(0, .slice A1 xs.length c2), (1, .slice A6 ys.length c7), (5, .int .i64 ((k : Nat) : Int)), (14, .bool (decide (((k : Nat) : Int) < ((xs.length : Nat) : Int))))] ⟨rfl, rfl, rfl, rfl, trivial⟩ ?_
    refine c_dec (p := ((k : Nat) : Int) < ((xs.length : Nat) : Int)) rfl (fun h12 => ?_) (fun h12 => ?_)
    · skip
      refine c_skip ?_
      refine q_then ?_
      refine c_env [(0, .slice A1 xs.length c2), (1, .slice A6 ys.length c7), (5, .int .i64 ((k : Nat) : Int))] ⟨rfl, rfl, rfl, trivial⟩ ?_
      refine c_seq ?_
      refine c_block ?_
      refine c_seq ?_
      refine c_draw mo (by kernel_rfl) H ?_
      refine u_val rfl rfl (fun w H => r_mv rfl rfl) ?_
      refine u_val rfl rfl (fun w H => r_mv rfl rfl) ?_
      obtain ⟨x13, hx14⟩ : ∃ z9, xs[k]? = some z9 := ⟨_, List.getElem?_eq_getElem (show k < xs.length by omega)⟩
      have th15 := H.thR 0 rfl hx14
      refine u_val rfl rfl (fun w H => r_iaE (p := oOf A1 + k * 1) rfl sl22 rfl rfl (by omega) (by omega) th15 rfl) ?_
      refine u_val rfl rfl (fun w H => r_ld rfl ty3 rfl (H.elR 0 rfl hx14 (q := 0) rfl rfl)) ?_
      refine u_val rfl rfl (fun w H => r_mv rfl rfl) ?_
      refine u_val rfl rfl (fun w H => r_mv rfl rfl) ?_
      obtain ⟨x16, hx17⟩ : ∃ z9, ys[k]? = some z9 := ⟨_, List.getElem?_eq_getElem (show k < ys.length by omega)⟩
      have th18 := H.thR 1 rfl hx17
      refine u_val rfl rfl (fun w H => r_iaE (p := oOf A6 + k * 1) rfl sl22 rfl rfl (by omega) (by omega) th18 rfl) ?_
      refine u_val rfl rfl (fun w H => r_ld rfl ty3 rfl (H.elR 1 rfl hx17 (q := 0) rfl rfl)) ?_
      refine u_val rfl rfl (fun w H => r_ne rfl rfl rfl) ?_
      refine u_end (fun w H => ?_)
      refine q_then ?_
      refine c_env [(0, .slice A1 xs.length c2), (1, .slice A6 ys.length c7), (5, .int .i64 ((k : Nat) : Int)), (25, .bool (decide (x13 ≠ x16)))] ⟨rfl, rfl, rfl, rfl, trivial⟩ ?_
      refine c_dec (p := x13 ≠ x16) rfl (fun h19 => ?_) (fun h19 => ?_)
      · skip
        refine c_seq ?_
        refine c_reg ?_
        refine s_val rfl rfl (r_as rfl rfl) ?_
        refine s_nil ?_
        refine q_then ?_
        refine c_env [(0, .slice A1 xs.length c2), (1, .slice A6 ys.length c7), (4, .bool false), (5, .int .i64 ((k : Nat) : Int))] ⟨rfl, rfl, rfl, rfl, trivial⟩ ?_
        refine c_ret ?_
        refine q_blockR ?_
        refine q_thenR ?_
        refine q_thenR ?_
        refine q_blockR ?_
        refine q_thenR ?_
        refine q_ret1 rfl rfl ?_
        have e : ¬ xs = ys := fun e => h19 (by rw [e, hx17] at hx14; exact (Option.some.inj hx14).symm)
        exact fin ⟨by rw [decide_eq_false e], rfl⟩ H
      · skip
        refine c_skip ?_
        refine q_blockN ?_
        refine q_then ?_
        refine c_env [(0, .slice A1 xs.length c2), (1, .slice A6 ys.length c7), (5, .int .i64 ((k : Nat) : Int))] ⟨rfl, rfl, rfl, trivial⟩ ?_
        refine c_reg ?_
        refine s_val rfl rfl (r_mv rfl rfl) ?_
        refine s_val rfl rfl (r_add (z := ((k + 1 : Nat) : Int)) rfl rfl rfl (by rw [w64 (by omega) (by omega)]; omega)) ?_
        refine s_val rfl rfl (r_as rfl rfl) ?_
        refine s_nil ?_
        have e : x13 = x16 := Classical.not_not.1 h19
        subst e
        exact q_round (s := k) (k + 1) ⟨rfl, rfl, rfl, trivial⟩ ⟨H, by omega, hle, take_more hx14 hx17 ht⟩ (by (try dsimp only); omega)
    · skip
      refine c_exit ?_
      refine q_thenE ?_
      refine q_thenE ?_
      refine q_blockE ?_
      refine q_then ?_
      refine c_env [] trivial ?_
      refine c_seq ?_
      refine c_reg ?_
      refine s_val rfl rfl (r_as rfl rfl) ?_
      refine s_nil ?_
      refine q_then ?_
      refine c_env [(4, .bool true)] ⟨rfl, trivial⟩ ?_
      refine c_ret ?_
      refine q_ret1 rfl rfl ?_
      have e : xs = ys := by rw [← take_all (xs := xs) (k := k) (by omega), ← take_all (xs := ys) (k := k) (by omega)]; exact ht
      exact fin ⟨by rw [decide_eq_true e], rfl⟩ H

set_option maxHeartbeats 1000000 in
theorem indexI_ok (v : Value) (xs : List Int) (x : Int) :
    Cn Try.prog 103 [v, .int .i64 x] [] [rsl (kInt .i64) v xs] (fun v Bs => v = .int .i64 (fidx (fun y => decide (x = y)) xs) ∧ Bs = []) := by
  intro w0 F0 H
  obtain ⟨A1, c2, rfl, hc3, hm4, hp5⟩ := H.fR 0 rfl
  refine enter (args := [.slice A1 xs.length c2, .int .i64 x]) Try.func103 rfl rfl (Nat.le_of_ble_eq_true rfl) ?_
  refine c_seq ?_
  refine c_reg ?_
  refine s_val rfl rfl (r_as rfl rfl) ?_
  refine s_nil ?_
  refine q_then ?_
  replace H : Hd _ _ _ [] [rsl (kInt .i64) (.slice A1 xs.length c2) xs] := H
  refine c_env [(0, .slice A1 xs.length c2), (1, .int .i64 x), (4, .int .i64 0)] ⟨rfl, rfl, rfl, trivial⟩ ?_
  refine c_seq ?_
  refine c_seq ?_
  refine c_reg ?_
  refine s_val rfl rfl (r_mv rfl rfl) ?_
  refine s_val rfl rfl (r_lenL rfl un22 rfl) ?_
  refine s_val rfl rfl (r_mv rfl rfl) ?_
  refine s_nil ?_
  refine q_then ?_
  refine c_env [(0, .slice A1 xs.length c2), (1, .int .i64 x), (4, .int .i64 0), (7, .int .i64 ((xs.length : Nat) : Int)), (8, .int .i64 0)] ⟨rfl, rfl, rfl, rfl, rfl, trivial⟩ ?_
  refine c_block ?_
  refine c_loop (σ := Nat) (fun k => [(0, .slice A1 xs.length c2), (1, .int .i64 x), (7, .int .i64 ((xs.length : Nat) : Int)), (8, .int .i64 ((k : Nat) : Int))]) (fun k w => (Hd w0 F0 w [] [rsl (kInt .i64) (.slice A1 xs.length c2) xs]) ∧ (k ≤ xs.length) ∧ (∀ y ∈ xs.take k, (fun y => decide (x = y)) y = false)) (fun k => xs.length - k) 0 ⟨rfl, rfl, rfl, rfl, trivial⟩ ⟨H, by omega, by simp⟩ ?_
  rintro k w ⟨H, hk, hn⟩
  refine c_seq ?_
  refine c_reg ?_
  refine s_val rfl rfl (r_lt rfl rfl rfl) ?_
  refine s_nil ?_
  refine q_then ?_
  refine c_env [(0, .slice A1 xs.length c2), (1, .int .i64 x), (7, .int .i64 ((xs.length : Nat) : Int)), (8, .int .i64 ((k : Nat) : Int)), (9, .bool (decide (((k : Nat) : Int) < ((xs.length : Nat) : Int))))] ⟨rfl, rfl, rfl, rfl, rfl, trivial⟩ ?_
  refine c_seq ?_
  refine c_dec (p := ((k : Nat) : Int) < ((xs.length : Nat) : Int)) rfl (fun h6 => ?_) (fun h6 => ?_)
  · skip
    refine c_skip ?_
    refine q_then ?_
    refine c_env [(0, .slice A1 xs.length c2), (1, .int .i64 x), (7, .int .i64 ((xs.length : Nat) : Int)), (8, .int .i64 ((k : Nat) : Int))] ⟨rfl, rfl, rfl, rfl, trivial⟩ ?_
    refine c_seq ?_
    refine c_block ?_
    refine c_seq ?_
    refine c_reg ?_
    refine s_val rfl rfl (r_mv rfl rfl) ?_
    refine s_val rfl rfl (r_as rfl rfl) ?_
    refine s_nil ?_
    refine q_then ?_
    refine c_env [(0, .slice A1 xs.length c2), (1, .int .i64 x), (5, .int .i64 ((k : Nat) : Int)), (7, .int .i64 ((xs.length : Nat) : Int)), (8, .int .i64 ((k : Nat) : Int))] ⟨rfl, rfl, rfl, rfl, rfl, trivial⟩ ?_
    refine c_seq ?_
    refine c_reg ?_
    refine s_val rfl rfl (r_mv rfl rfl) ?_
    refine s_val rfl rfl (r_mv rfl rfl) ?_
    refine s_val rfl rfl (r_mv rfl rfl) ?_
    obtain ⟨x7, hx8⟩ : ∃ z9, xs[k]? = some z9 := ⟨_, List.getElem?_eq_getElem (show k < xs.length by omega)⟩
    have th9 := H.thR 0 rfl hx8
    refine s_val rfl rfl (r_iaE (p := oOf A1 + k * 1) rfl sl22 rfl rfl (by omega) (by omega) th9 rfl) ?_
    refine s_val rfl rfl (r_ld rfl ty3 rfl (H.elR 0 rfl hx8 (q := 0) rfl rfl)) ?_
    refine s_val rfl rfl (r_eq rfl rfl rfl) ?_
    refine s_nil ?_
    refine q_then ?_
    refine c_env [(0, .slice A1 xs.length c2), (1, .int .i64 x), (5, .int .i64 ((k : Nat) : Int)), (7, .int .i64 ((xs.length : Nat) : Int)), (8, .int .i64 ((k : Nat) : Int)), (16, .bool (decide (x = x7)))] ⟨rfl, rfl, rfl, rfl, rfl, rfl, trivial⟩ ?_
    refine c_dec (p := x = x7) rfl (fun h10 => ?_) (fun h10 => ?_)
    · skip
      refine c_seq ?_
      refine c_reg ?_
      refine s_val rfl rfl (r_mv rfl rfl) ?_
      refine s_val rfl rfl (r_as rfl rfl) ?_
      refine s_nil ?_
      refine q_then ?_
      refine c_env [(0, .slice A1 xs.length c2), (1, .int .i64 x), (4, .int .i64 ((k : Nat) : Int)), (7, .int .i64 ((xs.length : Nat) : Int)), (8, .int .i64 ((k : Nat) : Int))] ⟨rfl, rfl, rfl, rfl, rfl, trivial⟩ ?_
      refine c_ret ?_
      refine q_blockR ?_
      refine q_thenR ?_
      refine q_thenR ?_
      refine q_blockR ?_
      refine q_thenR ?_
      refine q_ret1 rfl rfl ?_
      exact fin ⟨by rw [fidx_hit (p := (fun y => decide (x = y))) hn hx8 (decide_eq_true h10)], rfl⟩ H
    · skip
      refine c_skip ?_
      refine q_blockN ?_
      refine q_then ?_
      refine c_env [(0, .slice A1 xs.length c2), (1, .int .i64 x), (7, .int .i64 ((xs.length : Nat) : Int)), (8, .int .i64 ((k : Nat) : Int))] ⟨rfl, rfl, rfl, rfl, trivial⟩ ?_
      refine c_reg ?_
      refine s_val rfl rfl (r_add (z := ((k + 1 : Nat) : Int)) rfl rfl rfl (by rw [w64 (by omega) (by omega)]; omega)) ?_
      refine s_val rfl rfl (r_mv rfl rfl) ?_
      refine s_nil ?_
      exact q_round (s := k) (k + 1) ⟨rfl, rfl, rfl, rfl, trivial⟩ ⟨H, by omega, take_false (p := (fun y => decide (x = y))) hn hx8 (decide_eq_false h10)⟩ (by (try dsimp only); omega)
  · skip
    refine c_exit ?_
    refine q_thenE ?_
    refine q_thenE ?_
    refine q_blockE ?_
    refine q_then ?_
    refine c_env [] trivial ?_
    refine c_seq ?_
    refine c_reg ?_
    refine s_val rfl rfl (r_as rfl rfl) ?_
    refine s_nil ?_
    refine q_then ?_
    refine c_env [(4, .int .i64 (-1))] ⟨rfl, trivial⟩ ?_
    refine c_ret ?_
    refine q_ret1 rfl rfl ?_
    have hn2 : ∀ y ∈ xs, (fun y => decide (x = y)) y = false := by rw [← take_all (xs := xs) (k := k) (by omega)]; exact hn
    exact fin ⟨by rw [fidx_miss hn2], rfl⟩ H

set_option maxHeartbeats 1000000 in
theorem containsI_ok (v : Value) (xs : List Int) (x : Int) :
    Cn Try.prog 84 [v, .int .i64 x] [] [rsl (kInt .i64) v xs] (fun v Bs => v = .bool (decide (x ∈ xs)) ∧ Bs = []) := by
  intro w0 F0 H
  refine enter (args := [v, .int .i64 x]) Try.func84 rfl rfl (Nat.le_of_ble_eq_true rfl) ?_
  refine c_seq ?_
  refine c_reg ?_
  refine s_val rfl rfl (r_as rfl rfl) ?_
  refine s_nil ?_
  refine q_then ?_
  refine c_env [(0, v), (1, .int .i64 x), (4, .bool false)] ⟨rfl, rfl, rfl, trivial⟩ ?_
  refine c_seq ?_
  refine c_reg ?_
  refine s_val rfl rfl (r_mv rfl rfl) ?_
  refine s_val rfl rfl (r_mv rfl rfl) ?_
  refine sc (indexI_ok v xs x) H (lR 0 rfl l0) rfl rfl (e_fn kn103 rfl rfl) ?_
  rintro _ _ w ⟨rfl, rfl⟩ H
  refine s_val rfl rfl (r_ge rfl rfl rfl) ?_
  refine s_val rfl rfl (r_as rfl rfl) ?_
  refine s_nil ?_
  refine q_then ?_
  refine c_env [(4, .bool (decide ((0 : Int) ≤ (fidx (fun y => decide (x = y)) xs))))] ⟨rfl, trivial⟩ ?_
  refine c_ret ?_
  refine q_ret1 rfl rfl ?_
  have e : decide (0 ≤ fidx (fun y => decide (x = y)) xs) = decide (x ∈ xs) := by rw [fidx_nonneg]; rw [Bool.eq_iff_iff]; simp
  exact fin ⟨congrArg Value.bool e, rfl⟩ H

set_option maxHeartbeats 1000000 in
theorem indexFI_ok (f : FuncId) (cap : List Value) (Ex : List SP) (p : Int → Bool) (hkf : Known Try.prog f) (hp : ∀ x, Cn Try.prog f ([.int .i64 x] ++ cap) [] Ex (fun v Bs => v = .bool (p x) ∧ Bs = [])) (v : Value) (xs : List Int) :
    Cn Try.prog 104 [v, .func (.func f) #[] (cap).toArray] [] (rsl (kInt .i64) v xs :: Ex) (fun v Bs => v = .int .i64 (fidx p xs) ∧ Bs = []) := by
  intro w0 F0 H
  obtain ⟨A1, c2, rfl, hc3, hm4, hp5⟩ := H.fR 0 rfl
  refine enter (args := [.slice A1 xs.length c2, .func (.func f) #[] (cap).toArray]) Try.func104 rfl rfl (Nat.le_of_ble_eq_true rfl) ?_
  refine c_seq ?_
  refine c_reg ?_
  refine s_val rfl rfl (r_as rfl rfl) ?_
  refine s_nil ?_
  refine q_then ?_
  replace H : Hd _ _ _ [] (rsl (kInt .i64) (.slice A1 xs.length c2) xs :: Ex) := H
  refine c_env [(0, .slice A1 xs.length c2), (1, .func (.func f) #[] (cap).toArray), (4, .int .i64 0)] ⟨rfl, rfl, rfl, trivial⟩ ?_
  refine c_seq ?_
  refine c_seq ?_
  refine c_reg ?_
  refine s_val rfl rfl (r_mv rfl rfl) ?_
  refine s_val rfl rfl (r_lenL rfl un22 rfl) ?_
  refine s_val rfl rfl (r_mv rfl rfl) ?_
  refine s_nil ?_
  refine q_then ?_
  refine c_env [(0, .slice A1 xs.length c2), (1, .func (.func f) #[] (cap).toArray), (4, .int .i64 0), (7, .int .i64 ((xs.length : Nat) : Int)), (8, .int .i64 0)] ⟨rfl, rfl, rfl, rfl, rfl, trivial⟩ ?_
  refine c_block ?_
  refine c_loop (σ := Nat) (fun k => [(0, .slice A1 xs.length c2), (1, .func (.func f) #[] (cap).toArray), (7, .int .i64 ((xs.length : Nat) : Int)), (8, .int .i64 ((k : Nat) : Int))]) (fun k w => (Hd w0 F0 w [] (rsl (kInt .i64) (.slice A1 xs.length c2) xs :: Ex)) ∧ (k ≤ xs.length) ∧ (∀ y ∈ xs.take k, p y = false)) (fun k => xs.length - k) 0 ⟨rfl, rfl, rfl, rfl, trivial⟩ ⟨H, by omega, by simp⟩ ?_
  rintro k w ⟨H, hk, hn⟩
  refine c_seq ?_
  refine c_reg ?_
  refine s_val rfl rfl (r_lt rfl rfl rfl) ?_
  refine s_nil ?_
  refine q_then ?_
  refine c_env [(0, .slice A1 xs.length c2), (1, .func (.func f) #[] (cap).toArray), (7, .int .i64 ((xs.length : Nat) : Int)), (8, .int .i64 ((k : Nat) : Int)), (9, .bool (decide (((k : Nat) : Int) < ((xs.length : Nat) : Int))))] ⟨rfl, rfl, rfl, rfl, rfl, trivial⟩ ?_
  refine c_seq ?_
  refine c_dec (p := ((k : Nat) : Int) < ((xs.length : Nat) : Int)) rfl (fun h6 => ?_) (fun h6 => ?_)
  · skip
    refine c_skip ?_
    refine q_then ?_
    refine c_env [(0, .slice A1 xs.length c2), (1, .func (.func f) #[] (cap).toArray), (7, .int .i64 ((xs.length : Nat) : Int)), (8, .int .i64 ((k : Nat) : Int))] ⟨rfl, rfl, rfl, rfl, trivial⟩ ?_
    refine c_seq ?_
    refine c_block ?_
    refine c_seq ?_
    refine c_reg ?_
    refine s_val rfl rfl (r_mv rfl rfl) ?_
    refine s_val rfl rfl (r_as rfl rfl) ?_
    refine s_nil ?_
    refine q_then ?_
    refine c_env [(0, .slice A1 xs.length c2), (1, .func (.func f) #[] (cap).toArray), (5, .int .i64 ((k : Nat) : Int)), (7, .int .i64 ((xs.length : Nat) : Int)), (8, .int .i64 ((k : Nat) : Int))] ⟨rfl, rfl, rfl, rfl, rfl, trivial⟩ ?_
    refine c_seq ?_
    refine c_reg ?_
    refine s_val rfl rfl (r_mv rfl rfl) ?_
    refine s_val rfl rfl (r_mv rfl rfl) ?_
    refine s_val rfl rfl (r_mv rfl rfl) ?_
    obtain ⟨x7, hx8⟩ : ∃ z9, xs[k]? = some z9 := ⟨_, List.getElem?_eq_getElem (show k < xs.length by omega)⟩
    have th9 := H.thR 0 rfl hx8
    refine s_val rfl rfl (r_iaE (p := oOf A1 + k * 1) rfl sl22 rfl rfl (by omega) (by omega) th9 rfl) ?_
    refine s_val rfl rfl (r_ld rfl ty3 rfl (H.elR 0 rfl hx8 (q := 0) rfl rfl)) ?_
    refine sc (hp x7) H (fun S hS F hA hR => hR S (List.mem_cons_of_mem _ hS)) rfl rfl (e_val (vs := [.int .i64 x7]) (fs := #[]) (cs := cap.toArray) hkf rfl rfl rfl) ?_
    rintro _ _ w ⟨rfl, rfl⟩ H
    refine s_nil ?_
    refine q_then ?_
    refine c_env [(0, .slice A1 xs.length c2), (1, .func (.func f) #[] (cap).toArray), (5, .int .i64 ((k : Nat) : Int)), (7, .int .i64 ((xs.length : Nat) : Int)), (8, .int .i64 ((k : Nat) : Int)), (16, .bool (p x7))] ⟨rfl, rfl, rfl, rfl, rfl, rfl, trivial⟩ ?_
    refine c_cond (b := p x7) rfl (fun h10 => ?_) (fun h10 => ?_)
    · skip
      refine c_seq ?_
      refine c_reg ?_
      refine s_val rfl rfl (r_mv rfl rfl) ?_
      refine s_val rfl rfl (r_as rfl rfl) ?_
      refine s_nil ?_
      refine q_then ?_
      refine c_env [(0, .slice A1 xs.length c2), (1, .func (.func f) #[] (cap).toArray), (4, .int .i64 ((k : Nat) : Int)), (7, .int .i64 ((xs.length : Nat) : Int)), (8, .int .i64 ((k : Nat) : Int))] ⟨rfl, rfl, rfl, rfl, rfl, trivial⟩ ?_
      refine c_ret ?_
      refine q_blockR ?_
      refine q_thenR ?_
      refine q_thenR ?_
      refine q_blockR ?_
      refine q_thenR ?_
      refine q_ret1 rfl rfl ?_
      exact fin ⟨by rw [fidx_hit hn hx8 h10], rfl⟩ H
    · skip
      refine c_skip ?_
      refine q_blockN ?_
      refine q_then ?_
      refine c_env [(0, .slice A1 xs.length c2), (1, .func (.func f) #[] (cap).toArray), (7, .int .i64 ((xs.length : Nat) : Int)), (8, .int .i64 ((k : Nat) : Int))] ⟨rfl, rfl, rfl, rfl, trivial⟩ ?_
      refine c_reg ?_
      refine s_val rfl rfl (r_add (z := ((k + 1 : Nat) : Int)) rfl rfl rfl (by rw [w64 (by omega) (by omega)]; omega)) ?_
      refine s_val rfl rfl (r_mv rfl rfl) ?_
      refine s_nil ?_
      exact q_round (s := k) (k + 1) ⟨rfl, rfl, rfl, rfl, trivial⟩ ⟨H, by omega, take_false hn hx8 h10⟩ (by (try dsimp only); omega)
  · skip
    refine c_exit ?_
    refine q_thenE ?_
    refine q_thenE ?_
    refine q_blockE ?_
    refine q_then ?_
    refine c_env [] trivial ?_
    refine c_seq ?_
    refine c_reg ?_
    refine s_val rfl rfl (r_as rfl rfl) ?_
    refine s_nil ?_
    refine q_then ?_
    refine c_env [(4, .int .i64 (-1))] ⟨rfl, trivial⟩ ?_
    refine c_ret ?_
    refine q_ret1 rfl rfl ?_
    have hn2 : ∀ y ∈ xs, p y = false := by rw [← take_all (xs := xs) (k := k) (by omega)]; exact hn
    exact fin ⟨by rw [fidx_miss hn2], rfl⟩ H

set_option maxHeartbeats 1000000 in
theorem containsFI_ok (f : FuncId) (cap : List Value) (Ex : List SP) (p : Int → Bool) (hkf : Known Try.prog f) (hp : ∀ x, Cn Try.prog f ([.int .i64 x] ++ cap) [] Ex (fun v Bs => v = .bool (p x) ∧ Bs = [])) (v : Value) (xs : List Int) :
    Cn Try.prog 85 [v, .func (.func f) #[] (cap).toArray] [] (rsl (kInt .i64) v xs :: Ex) (fun v Bs => v = .bool (xs.any p) ∧ Bs = []) := by
  intro w0 F0 H
  refine enter (args := [v, .func (.func f) #[] (cap).toArray]) Try.func85 rfl rfl (Nat.le_of_ble_eq_true rfl) ?_
  refine c_seq ?_
  refine c_reg ?_
  refine s_val rfl rfl (r_as rfl rfl) ?_
  refine s_nil ?_
  refine q_then ?_
  refine c_env [(0, v), (1, .func (.func f) #[] (cap).toArray), (4, .bool false)] ⟨rfl, rfl, rfl, trivial⟩ ?_
  refine c_seq ?_
  refine c_reg ?_
  refine s_val rfl rfl (r_mv rfl rfl) ?_
  refine s_val rfl rfl (r_mv rfl rfl) ?_
  refine sc (indexFI_ok f cap Ex p hkf hp v xs) H lAll rfl rfl (e_fn kn104 rfl rfl) ?_
  rintro _ _ w ⟨rfl, rfl⟩ H
  refine s_val rfl rfl (r_ge rfl rfl rfl) ?_
  refine s_val rfl rfl (r_as rfl rfl) ?_
  refine s_nil ?_
  refine q_then ?_
  refine c_env [(4, .bool (decide ((0 : Int) ≤ (fidx p xs))))] ⟨rfl, trivial⟩ ?_
  refine c_ret ?_
  refine q_ret1 rfl rfl ?_
  exact fin ⟨congrArg Value.bool (fidx_nonneg p xs), rfl⟩ H

set_option maxHeartbeats 1000000 in
theorem lendInts_ok (v : Value) (xs : List Int) (hb : xs.length ≤ 1000000) :
    Cn Try.prog 22 [v] [] [rsl (kInt .i64) v xs] (fun v Bs => ∃ b, v = .slice (some ⟨b, 0, none⟩) xs.length (xs.length + 3) ∧ Bs = [rowF encI64 b 3 (xs ++ List.replicate 3 (-777))]) := by
  intro w0 F0 H
  obtain ⟨A1, c2, rfl, hc3, hm4, hp5⟩ := H.fR 0 rfl
  refine enter (args := [.slice A1 xs.length c2]) Try.func22 rfl rfl (Nat.le_of_ble_eq_true rfl) ?_
  refine c_seq ?_
  refine c_reg ?_
  refine s_val rfl rfl (r_as rfl rfl) ?_
  refine s_nil ?_
  refine q_then ?_
  replace H : Hd _ _ _ [] [rsl (kInt .i64) (.slice A1 xs.length c2) xs] := H
  refine c_env [(0, .slice A1 xs.length c2), (2, .slice none 0 0)] ⟨rfl, rfl, trivial⟩ ?_
  refine c_seq ?_
  refine c_reg ?_
  refine s_val rfl rfl (r_mv rfl rfl) ?_
  refine s_val rfl rfl (r_lenL rfl un22 rfl) ?_
  refine s_val rfl rfl (r_add (z := ((xs.length + 3 : Nat) : Int)) rfl rfl rfl (by rw [w64 (by omega) (by omega)]; omega)) ?_
  refine s_mkF (m := 0) (c := xs.length + 3) (a0 := 0) (enc := encI64) rfl rfl rfl sl22 zr3 rfl (by decide) hlI64 rfl rfl (by omega) (by omega) (by omega) H (fun b6 w H => ?_)
  refine s_val rfl rfl (r_as rfl rfl) ?_
  refine s_nil ?_
  refine q_then ?_
  replace H : Hd _ _ _ [rowF encI64 b6 3 (List.replicate (xs.length + 3) 0)] [rsl (kInt .i64) (.slice A1 xs.length c2) xs] := H
  refine c_env [(0, .slice A1 xs.length c2), (2, .slice none 0 0), (3, .slice (some ⟨b6, 0, none⟩) 0 (xs.length + 3))] ⟨rfl, rfl, rfl, trivial⟩ ?_
  refine c_seq ?_
  refine c_reg ?_
  refine s_val rfl rfl (r_mv rfl rfl) ?_
  refine s_val rfl rfl (r_mv rfl rfl) ?_
  refine s_appIn (ys := xs) (k := xs.length) rfl rfl rfl sl22 rfl rfl H (by simp) (by omega) (by omega) (fun F hA hR => hR _ (List.mem_of_getElem? (i := 0) rfl)) (fun w H => ?_)
  refine s_val rfl rfl (r_as rfl rfl) ?_
  refine s_nil ?_
  refine q_then ?_
  replace H : Hd _ _ _ [rowF encI64 b6 3 ((List.replicate (xs.length + 3) 0).take 0 ++ xs ++ (List.replicate (xs.length + 3) 0).drop xs.length)] [rsl (kInt .i64) (.slice A1 xs.length c2) xs] := H
  refine c_env [(0, .slice A1 xs.length c2), (2, .slice none 0 0), (3, .slice (some ⟨b6, 0, none⟩) xs.length (xs.length + 3))] ⟨rfl, rfl, rfl, trivial⟩ ?_
  refine c_seq ?_
  refine c_reg ?_
  refine s_val rfl rfl (r_mv rfl rfl) ?_
  refine s_val rfl rfl (r_mv rfl rfl) ?_
  refine s_val rfl rfl (r_lenL rfl un22 rfl) ?_
  refine s_val rfl rfl (r_mv rfl rfl) ?_
  refine s_val rfl rfl (r_lenL rfl un22 rfl) ?_
  refine s_val rfl rfl (r_add (z := ((xs.length + 3 : Nat) : Int)) rfl rfl rfl (by rw [w64 (by omega) (by omega)]; omega)) ?_
  refine s_val rfl rfl (r_cut2 (p := xs.length * 1) (m' := 3) (c' := 3) rfl sl22 rfl rfl rfl (by omega) (by omega) (by omega) (by (repeat' split); all_goals omega) (by omega) (by omega)) ?_
  refine s_val rfl rfl (r_as rfl rfl) ?_
  refine s_nil ?_
  refine q_then ?_
  refine c_env [(2, .slice none 0 0), (3, .slice (some ⟨b6, 0, none⟩) xs.length (xs.length + 3)), (4, .slice (some ⟨b6, xs.length * 1, none⟩) 3 3)] ⟨rfl, rfl, rfl, trivial⟩ ?_
  refine c_seq ?_
  refine c_seq ?_
  refine c_reg ?_
  refine s_val rfl rfl (r_as rfl rfl) ?_
  refine s_nil ?_
  refine q_then ?_
  refine c_env [(2, .slice none 0 0), (3, .slice (some ⟨b6, 0, none⟩) xs.length (xs.length + 3)), (4, .slice (some ⟨b6, xs.length * 1, none⟩) 3 3), (5, .int .i64 0)] ⟨rfl, rfl, rfl, rfl, trivial⟩ ?_
  refine c_block ?_
  rw [lend_start] at H
  replace H : Hd _ _ _ [rowF encI64 b6 3 (xs ++ List.replicate 0 (-777) ++ List.replicate (3 - 0) 0)] [rsl (kInt .i64) (.slice A1 xs.length c2) xs] := H
  refine c_loop (σ := Nat) (fun k => [(3, .slice (some ⟨b6, 0, none⟩) xs.length (xs.length + 3)), (4, .slice (some ⟨b6, xs.length * 1, none⟩) 3 3), (5, .int .i64 ((k : Nat) : Int))]) (fun k w => (Hd w0 F0 w [rowF encI64 b6 3 (xs ++ List.replicate k (-777) ++ List.replicate (3 - k) 0)] [rsl (kInt .i64) (.slice A1 xs.length c2) xs]) ∧ (k ≤ 3)) (fun k => 3 - k) 0 ⟨rfl, rfl, rfl, trivial⟩ ⟨H, by omega⟩ ?_
  rintro k w ⟨H, hk⟩
  refine c_seq ?_
  refine c_seq ?_
  refine c_reg ?_
  refine s_val rfl rfl (r_mv rfl rfl) ?_
  refine s_val rfl rfl (r_lt rfl rfl rfl) ?_
  refine s_nil ?_
  refine q_then ?_
  refine c_env [(3, .slice (some ⟨b6, 0, none⟩) xs.length (xs.length + 3)), (4, .slice (some ⟨b6, xs.length * 1, none⟩) 3 3), (5, .int .i64 ((k : Nat) : Int)), (21, .bool (decide (((k : Nat) : Int) < 3)))] ⟨rfl, rfl, rfl, rfl, trivial⟩ ?_
  refine c_dec (p := ((k : Nat) : Int) < 3) rfl (fun h7 => ?_) (fun h7 => ?_)
  · skip
    refine c_skip ?_
    refine q_then ?_
    refine c_env [(3, .slice (some ⟨b6, 0, none⟩) xs.length (xs.length + 3)), (4, .slice (some ⟨b6, xs.length * 1, none⟩) 3 3), (5, .int .i64 ((k : Nat) : Int))] ⟨rfl, rfl, rfl, trivial⟩ ?_
    refine c_seq ?_
    refine c_block ?_
    refine c_reg ?_
    refine s_val rfl rfl (r_mv rfl rfl) ?_
    refine s_val rfl rfl (r_mv rfl rfl) ?_
    refine s_val rfl rfl (r_ia (p := (xs.length + k) * 1) rfl sl22 rfl rfl (by omega) (by omega) (by omega)) ?_
    refine s_stF (i := xs.length + k) (a := -777) hlI64 h1I64 rfl rfl rfl ty3 rfl rfl rfl H (by simp; omega) rfl (fun w H => ?_)
    refine s_nil ?_
    refine q_blockN ?_
    refine q_then ?_
    replace H : Hd _ _ _ [rowF encI64 b6 3 ((xs ++ List.replicate k (-777) ++ List.replicate (3 - k) 0).set (xs.length + k) (-777))] [rsl (kInt .i64) (.slice A1 xs.length c2) xs] := H
    refine c_env [(3, .slice (some ⟨b6, 0, none⟩) xs.length (xs.length + 3)), (4, .slice (some ⟨b6, xs.length * 1, none⟩) 3 3), (5, .int .i64 ((k : Nat) : Int))] ⟨rfl, rfl, rfl, trivial⟩ ?_
    refine c_reg ?_
    refine s_val rfl rfl (r_mv rfl rfl) ?_
    refine s_val rfl rfl (r_add (z := ((k + 1 : Nat) : Int)) rfl rfl rfl (by rw [w64 (by omega) (by omega)]; omega)) ?_
    refine s_val rfl rfl (r_as rfl rfl) ?_
    refine s_nil ?_
    rw [lend_set xs (-777) 0 k (by omega)] at H
    exact q_round (s := k) (k + 1) ⟨rfl, rfl, rfl, trivial⟩ ⟨H, by omega⟩ (by (try dsimp only); omega)
  · skip
    refine c_exit ?_
    refine q_thenE ?_
    refine q_thenE ?_
    refine q_blockE ?_
    refine q_then ?_
    refine c_env [(3, .slice (some ⟨b6, 0, none⟩) xs.length (xs.length + 3))] ⟨rfl, trivial⟩ ?_
    refine c_seq ?_
    refine c_reg ?_
    refine s_val rfl rfl (r_mv rfl rfl) ?_
    refine s_val rfl rfl (r_as rfl rfl) ?_
    refine s_nil ?_
    refine q_then ?_
    refine c_env [(2, .slice (some ⟨b6, 0, none⟩) xs.length (xs.length + 3))] ⟨rfl, trivial⟩ ?_
    refine c_ret ?_
    refine q_ret1 rfl rfl ?_
    obtain rfl : k = 3 := by omega
    replace H : Hd w0 F0 w [rowF encI64 b6 3 (xs ++ List.replicate 3 (-777))] [rsl (kInt .i64) (.slice A1 xs.length c2) xs] := by have H2 := H; simp only [Nat.sub_self, List.replicate_zero, List.append_nil] at H2; exact H2
    exact fin ⟨_, rfl, rfl⟩ H

set_option maxHeartbeats 1000000 in
theorem keptInts_ok (b : Nat) (xs : List Int) (v : Value) (ys : List Int) (hb : xs.length ≤ 1000000) :
    Cn Try.prog 29 [.slice (some ⟨b, 0, none⟩) xs.length (xs.length + 3), v] [] [rowF encI64 b 3 (xs ++ List.replicate 3 (-777)), rsl (kInt .i64) v ys] (fun v Bs => v = .bool (decide (xs = ys)) ∧ Bs = []) := by
  intro w0 F0 H
  refine enter (args := [.slice (some ⟨b, 0, none⟩) xs.length (xs.length + 3), v]) Try.func29 rfl rfl (Nat.le_of_ble_eq_true rfl) ?_
  refine c_seq ?_
  refine c_reg ?_
  refine s_val rfl rfl (r_as rfl rfl) ?_
  refine s_nil ?_
  refine q_then ?_
  refine c_env [(0, .slice (some ⟨b, 0, none⟩) xs.length (xs.length + 3)), (1, v), (4, .bool false)] ⟨rfl, rfl, rfl, trivial⟩ ?_
  refine c_seq ?_
  refine c_reg ?_
  refine s_val rfl rfl (r_mv rfl rfl) ?_
  refine s_val rfl rfl (r_mv rfl rfl) ?_
  refine s_val rfl rfl (r_lenL rfl un22 rfl) ?_
  refine s_val rfl rfl (r_mv rfl rfl) ?_
  refine s_val rfl rfl (r_lenL rfl un22 rfl) ?_
  refine s_val rfl rfl (r_add (z := ((xs.length + 3 : Nat) : Int)) rfl rfl rfl (by rw [w64 (by omega) (by omega)]; omega)) ?_
  refine s_val rfl rfl (r_cut2 (p := xs.length * 1) (m' := 3) (c' := 3) rfl sl22 rfl rfl rfl (by omega) (by omega) (by omega) (by (repeat' split); all_goals omega) (by omega) (by omega)) ?_
  refine s_val rfl rfl (r_as rfl rfl) ?_
  refine s_nil ?_
  refine q_then ?_
  refine c_env [(0, .slice (some ⟨b, 0, none⟩) xs.length (xs.length + 3)), (1, v), (4, .bool false), (5, .slice (some ⟨b, xs.length * 1, none⟩) 3 3)] ⟨rfl, rfl, rfl, rfl, trivial⟩ ?_
  refine c_seq ?_
  refine c_seq ?_
  refine c_reg ?_
  refine s_val rfl rfl (r_as rfl rfl) ?_
  refine s_nil ?_
  refine q_then ?_
  refine c_env [(0, .slice (some ⟨b, 0, none⟩) xs.length (xs.length + 3)), (1, v), (4, .bool false), (5, .slice (some ⟨b, xs.length * 1, none⟩) 3 3), (6, .int .i64 0)] ⟨rfl, rfl, rfl, rfl, rfl, trivial⟩ ?_
  refine c_block ?_
  refine c_loop (σ := Nat) (fun k => [(0, .slice (some ⟨b, 0, none⟩) xs.length (xs.length + 3)), (1, v), (5, .slice (some ⟨b, xs.length * 1, none⟩) 3 3), (6, .int .i64 ((k : Nat) : Int))]) (fun k w => (Hd w0 F0 w [] [rowF encI64 b 3 (xs ++ List.replicate 3 (-777)), rsl (kInt .i64) v ys]) ∧ (k ≤ 3)) (fun k => 3 - k) 0 ⟨rfl, rfl, rfl, rfl, trivial⟩ ⟨H, by omega⟩ ?_
  rintro k w ⟨H, hk⟩
  refine c_seq ?_
  refine c_seq ?_
  refine c_reg ?_
  refine s_val rfl rfl (r_mv rfl rfl) ?_
  refine s_val rfl rfl (r_lt rfl rfl rfl) ?_
  refine s_nil ?_
  refine q_then ?_
  refine c_env [(0, .slice (some ⟨b, 0, none⟩) xs.length (xs.length + 3)), (1, v), (5, .slice (some ⟨b, xs.length * 1, none⟩) 3 3), (6, .int .i64 ((k : Nat) : Int)), (15, .bool (decide (((k : Nat) : Int) < 3)))] ⟨rfl, rfl, rfl, rfl, rfl, trivial⟩ ?_
  refine c_dec (p := ((k : Nat) : Int) < 3) rfl (fun h1 => ?_) (fun h1 => ?_)
  · skip
    refine c_skip ?_
    refine q_then ?_
    refine c_env [(0, .slice (some ⟨b, 0, none⟩) xs.length (xs.length + 3)), (1, v), (5, .slice (some ⟨b, xs.length * 1, none⟩) 3 3), (6, .int .i64 ((k : Nat) : Int))] ⟨rfl, rfl, rfl, rfl, trivial⟩ ?_
    refine c_seq ?_
    refine c_block ?_
    refine c_seq ?_
    refine c_reg ?_
    refine s_val rfl rfl (r_mv rfl rfl) ?_
    refine s_val rfl rfl (r_mv rfl rfl) ?_
    refine s_val rfl rfl (r_ia (p := (xs.length + k) * 1) rfl sl22 rfl rfl (by omega) (by omega) (by omega)) ?_
    refine s_val rfl rfl (r_ld rfl ty3 rfl (H.rowR 0 rfl hlI64 (lend_get xs (-777) k (by omega)) (q := 0) rfl rfl)) ?_
    refine s_val rfl rfl (r_ne rfl rfl rfl) ?_
    refine s_nil ?_
    refine q_then ?_
    refine c_env [(0, .slice (some ⟨b, 0, none⟩) xs.length (xs.length + 3)), (1, v), (5, .slice (some ⟨b, xs.length * 1, none⟩) 3 3), (6, .int .i64 ((k : Nat) : Int)), (22, .bool (decide ((-777) ≠ (-777))))] ⟨rfl, rfl, rfl, rfl, rfl, trivial⟩ ?_
    refine c_dec (p := (-777) ≠ (-777)) rfl (fun h2 => ?_) (fun h2 => ?_)
    · exact absurd rfl h2
    · skip
      refine c_skip ?_
      refine q_blockN ?_
      refine q_then ?_
      refine c_env [(0, .slice (some ⟨b, 0, none⟩) xs.length (xs.length + 3)), (1, v), (5, .slice (some ⟨b, xs.length * 1, none⟩) 3 3), (6, .int .i64 ((k : Nat) : Int))] ⟨rfl, rfl, rfl, rfl, trivial⟩ ?_
      refine c_reg ?_
      refine s_val rfl rfl (r_mv rfl rfl) ?_
      refine s_val rfl rfl (r_add (z := ((k + 1 : Nat) : Int)) rfl rfl rfl (by rw [w64 (by omega) (by omega)]; omega)) ?_
      refine s_val rfl rfl (r_as rfl rfl) ?_
      refine s_nil ?_
      exact q_round (s := k) (k + 1) ⟨rfl, rfl, rfl, rfl, trivial⟩ ⟨H, by omega⟩ (by (try dsimp only); omega)
  · skip
    refine c_exit ?_
    refine q_thenE ?_
    refine q_thenE ?_
    refine q_blockE ?_
    refine q_then ?_
    refine c_env [(0, .slice (some ⟨b, 0, none⟩) xs.length (xs.length + 3)), (1, v)] ⟨rfl, rfl, trivial⟩ ?_
    refine c_seq ?_
    refine c_reg ?_
    refine s_val rfl rfl (r_mv rfl rfl) ?_
    refine s_val rfl rfl (r_mv rfl rfl) ?_
    refine sc (sameInts_ok (.slice (some ⟨b, 0, none⟩) xs.length (xs.length + 3)) v xs ys) H (lX (fun F hA hR => (fun h => rowF_rsl (i := 0) h (by first | (simp; done) | exact List.take_of_length_le (by simp)) (by simp) (by simp) (by omega) (by simp)) (hR _ (List.mem_of_getElem? (i := 0) rfl))) (lR 1 rfl l0)) rfl rfl (e_fn kn38 rfl rfl) ?_
    rintro _ _ w ⟨rfl, rfl⟩ H
    refine s_val rfl rfl (r_as rfl rfl) ?_
    refine s_nil ?_
    refine q_then ?_
    refine c_env [(4, .bool (decide (xs = ys)))] ⟨rfl, trivial⟩ ?_
    refine c_ret ?_
    refine q_ret1 rfl rfl ?_
    exact fin ⟨rfl, rfl⟩ H

end Go.Proofs.Ytnaaahpmnhoabaa.X
