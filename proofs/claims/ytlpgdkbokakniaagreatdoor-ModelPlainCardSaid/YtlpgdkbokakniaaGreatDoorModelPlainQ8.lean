/- ModelPlain: texts J4, J5, XJob2, XAlike, XPlain, J10, J11, G1, joined by a program of ours; what nothing names is left out. -/
import Derived.Test.YtlpgdkbokakniaaGreatDoorModelPlainQ7
import Derived.Test.YtlpgdkbokakniaaGreatDoorRows
import Derived.LaidSub
import Derived.Lib.LaidTab
import Derived.Stop.LaidErr
set_option linter.unusedVariables false
set_option linter.unusedSimpArgs false
namespace Go.Proofs.YtlpgdkbokakniaaGreatDoor.X
open Go
set_option maxHeartbeats 1000000 in
theorem indexI_ok (v : Value) (xs : List Int) (x : Int) :
    Cn Tryz.prog 76 [v, .int .i64 x] [] [rsl (kInt .i64) v xs] (fun v Bs => v = .int .i64 (fidx (fun y => decide (x = y)) xs) ∧ Bs = []) := by
  intro w0 F0 H
  obtain ⟨A1, c2, rfl, hc3, hm4, hp5⟩ := H.fR 0 rfl
  refine enter (args := [.slice A1 xs.length c2, .int .i64 x]) Tryz.func76 rfl rfl (Nat.le_of_ble_eq_true rfl) ?_
  refine c_seq ?_
  refine c_reg ?_
  refine s_val rfl rfl (r_as rfl rfl) ?_
  refine s_nil ?_
  refine q_then ?_
  replace H : Hd _ _ _ [] [rsl (kInt .i64) (.slice A1 xs.length c2) xs] := H
  refine c_env [(0, .slice A1 xs.length c2), (1, .int .i64 x), (4, .int .i64 0)] ⟨rfl, rfl, rfl, trivial⟩ ?_
  refine c_seq ?_
  refine c_seq ?_
  refine c_reg ?_
  refine s_val rfl rfl (r_mv rfl rfl) ?_
  refine s_val rfl rfl (r_lenL rfl un41 rfl) ?_
  refine s_val rfl rfl (r_mv rfl rfl) ?_
  refine s_nil ?_
  refine q_then ?_
  refine c_env [(0, .slice A1 xs.length c2), (1, .int .i64 x), (4, .int .i64 0), (7, .int .i64 ((xs.length : Nat) : Int)), (8, .int .i64 0)] ⟨rfl, rfl, rfl, rfl, rfl, trivial⟩ ?_
  refine c_block ?_
  refine c_loop (σ := Nat) (fun k => [(0, .slice A1 xs.length c2), (1, .int .i64 x), (7, .int .i64 ((xs.length : Nat) : Int)), (8, .int .i64 ((k : Nat) : Int))]) (fun k w => (Hd w0 F0 w [] [rsl (kInt .i64) (.slice A1 xs.length c2) xs]) ∧ (k ≤ xs.length) ∧ (∀ y ∈ xs.take k, (fun y => decide (x = y)) y = false)) (fun k => xs.length - k) 0 ⟨rfl, rfl, rfl, rfl, trivial⟩ ⟨H, by omega, by simp⟩ ?_
  rintro k w ⟨H, hk, hn⟩
  refine c_seq ?_
  refine c_reg ?_
  refine s_val rfl rfl (r_lt rfl rfl rfl) ?_
  refine s_nil ?_
  refine q_then ?_
  refine c_env [(0, .slice A1 xs.length c2), (1, .int .i64 x), (7, .int .i64 ((xs.length : Nat) : Int)), (8, .int .i64 ((k : Nat) : Int)), (9, .bool (decide (((k : Nat) : Int) < ((xs.length : Nat) : Int))))] ⟨rfl, rfl, rfl, rfl, rfl, trivial⟩ ?_
  refine c_seq ?_
  refine c_dec (p := ((k : Nat) : Int) < ((xs.length : Nat) : Int)) rfl (fun h6 => ?_) (fun h6 => ?_)
  · skip
    refine c_skip ?_
    refine q_then ?_
    refine c_env [(0, .slice A1 xs.length c2), (1, .int .i64 x), (7, .int .i64 ((xs.length : Nat) : Int)), (8, .int .i64 ((k : Nat) : Int))] ⟨rfl, rfl, rfl, rfl, trivial⟩ ?_
    refine c_seq ?_
    refine c_block ?_
    refine c_seq ?_
    refine c_reg ?_
    refine s_val rfl rfl (r_mv rfl rfl) ?_
    refine s_val rfl rfl (r_as rfl rfl) ?_
    refine s_nil ?_
    refine q_then ?_
    refine c_env [(0, .slice A1 xs.length c2), (1, .int .i64 x), (5, .int .i64 ((k : Nat) : Int)), (7, .int .i64 ((xs.length : Nat) : Int)), (8, .int .i64 ((k : Nat) : Int))] ⟨rfl, rfl, rfl, rfl, rfl, trivial⟩ ?_
    refine c_seq ?_
    refine c_reg ?_
    refine s_val rfl rfl (r_mv rfl rfl) ?_
    refine s_val rfl rfl (r_mv rfl rfl) ?_
    refine s_val rfl rfl (r_mv rfl rfl) ?_
    obtain ⟨x7, hx8⟩ : ∃ z9, xs[k]? = some z9 := ⟨_, List.getElem?_eq_getElem (show k < xs.length by omega)⟩
    have th9 := H.thR 0 rfl hx8
    refine s_val rfl rfl (r_iaE (p := oOf A1 + k * 1) rfl sl41 rfl rfl (by omega) (by omega) th9 rfl) ?_
    refine s_val rfl rfl (r_ld rfl ty3 rfl (H.elR 0 rfl hx8 (q := 0) rfl rfl)) ?_
    refine s_val rfl rfl (r_eq rfl rfl rfl) ?_
    refine s_nil ?_
    refine q_then ?_
    refine c_env [(0, .slice A1 xs.length c2), (1, .int .i64 x), (5, .int .i64 ((k : Nat) : Int)), (7, .int .i64 ((xs.length : Nat) : Int)), (8, .int .i64 ((k : Nat) : Int)), (16, .bool (decide (x = x7)))] ⟨rfl, rfl, rfl, rfl, rfl, rfl, trivial⟩ ?_
    refine c_dec (p := x = x7) rfl (fun h10 => ?_) (fun h10 => ?_)
    · skip
      refine c_seq ?_
      refine c_reg ?_
      refine s_val rfl rfl (r_mv rfl rfl) ?_
      refine s_val rfl rfl (r_as rfl rfl) ?_
      refine s_nil ?_
      refine q_then ?_
      refine c_env [(0, .slice A1 xs.length c2), (1, .int .i64 x), (4, .int .i64 ((k : Nat) : Int)), (7, .int .i64 ((xs.length : Nat) : Int)), (8, .int .i64 ((k : Nat) : Int))] ⟨rfl, rfl, rfl, rfl, rfl, trivial⟩ ?_
      refine c_ret ?_
      refine q_blockR ?_
      refine q_thenR ?_
      refine q_thenR ?_
      refine q_blockR ?_
      refine q_thenR ?_
      refine q_ret1 rfl rfl ?_
      exact fin ⟨by rw [fidx_hit (p := (fun y => decide (x = y))) hn hx8 (decide_eq_true h10)], rfl⟩ H
    · skip
      refine c_skip ?_
      refine q_blockN ?_
      refine q_then ?_
      refine c_env [(0, .slice A1 xs.length c2), (1, .int .i64 x), (7, .int .i64 ((xs.length : Nat) : Int)), (8, .int .i64 ((k : Nat) : Int))] ⟨rfl, rfl, rfl, rfl, trivial⟩ ?_
      refine c_reg ?_
      refine s_val rfl rfl (r_add (z := ((k + 1 : Nat) : Int)) rfl rfl rfl (by rw [w64 (by omega) (by omega)]; omega)) ?_
      refine s_val rfl rfl (r_mv rfl rfl) ?_
      refine s_nil ?_
      exact q_round (s := k) (k + 1) ⟨rfl, rfl, rfl, rfl, trivial⟩ ⟨H, by omega, take_false (p := (fun y => decide (x = y))) hn hx8 (decide_eq_false h10)⟩ (by (try dsimp only); omega)
  · skip
    refine c_exit ?_
    refine q_thenE ?_
    refine q_thenE ?_
    refine q_blockE ?_
    refine q_then ?_
    refine c_env [] trivial ?_
    refine c_seq ?_
    refine c_reg ?_
    refine s_val rfl rfl (r_as rfl rfl) ?_
    refine s_nil ?_
    refine q_then ?_
    refine c_env [(4, .int .i64 (-1))] ⟨rfl, trivial⟩ ?_
    refine c_ret ?_
    refine q_ret1 rfl rfl ?_
    have hn2 : ∀ y ∈ xs, (fun y => decide (x = y)) y = false := by rw [← take_all (xs := xs) (k := k) (by omega)]; exact hn
    exact fin ⟨by rw [fidx_miss hn2], rfl⟩ H

set_option maxHeartbeats 1000000 in
theorem containsI_ok (v : Value) (xs : List Int) (x : Int) :
    Cn Tryz.prog 59 [v, .int .i64 x] [] [rsl (kInt .i64) v xs] (fun v Bs => v = .bool (decide (x ∈ xs)) ∧ Bs = []) := by
  intro w0 F0 H
  refine enter (args := [v, .int .i64 x]) Tryz.func59 rfl rfl (Nat.le_of_ble_eq_true rfl) ?_
  refine c_seq ?_
  refine c_reg ?_
  refine s_val rfl rfl (r_as rfl rfl) ?_
  refine s_nil ?_
  refine q_then ?_
  refine c_env [(0, v), (1, .int .i64 x), (4, .bool false)] ⟨rfl, rfl, rfl, trivial⟩ ?_
  refine c_seq ?_
  refine c_reg ?_
  refine s_val rfl rfl (r_mv rfl rfl) ?_
  refine s_val rfl rfl (r_mv rfl rfl) ?_
  refine sc (indexI_ok v xs x) H (lR 0 rfl l0) rfl rfl (e_fn kn76 rfl rfl) ?_
  rintro _ _ w ⟨rfl, rfl⟩ H
  refine s_val rfl rfl (r_ge rfl rfl rfl) ?_
  refine s_val rfl rfl (r_as rfl rfl) ?_
  refine s_nil ?_
  refine q_then ?_
  refine c_env [(4, .bool (decide ((0 : Int) ≤ (fidx (fun y => decide (x = y)) xs))))] ⟨rfl, trivial⟩ ?_
  refine c_ret ?_
  refine q_ret1 rfl rfl ?_
  have e : decide (0 ≤ fidx (fun y => decide (x = y)) xs) = decide (x ∈ xs) := by rw [fidx_nonneg]; rw [Bool.eq_iff_iff]; simp
  exact fin ⟨congrArg Value.bool e, rfl⟩ H

set_option maxHeartbeats 1000000 in
theorem all_ok (n : Nat) (hn : n ≤ 1000) :
    Cn Tryz.prog 48 [.int .i64 ((n : Nat) : Int)] [] [] (fun v Bs => Bs = [osl (kInt .i64) v (upto n)]) := by
  intro w0 F0 H
  refine enter (args := [.int .i64 ((n : Nat) : Int)]) Tryz.func48 rfl rfl (Nat.le_of_ble_eq_true rfl) ?_
  refine c_seq ?_
  refine c_reg ?_
  refine s_val rfl rfl (r_as rfl rfl) ?_
  refine s_nil ?_
  refine q_then ?_
  refine c_env [(0, .int .i64 ((n : Nat) : Int)), (2, .slice none 0 0)] ⟨rfl, rfl, trivial⟩ ?_
  refine c_seq ?_
  refine c_reg ?_
  refine s_val rfl rfl (r_as rfl rfl) ?_
  refine s_nil ?_
  refine q_then ?_
  refine c_env [(0, .int .i64 ((n : Nat) : Int)), (2, .slice none 0 0), (3, .slice none 0 0)] ⟨rfl, rfl, rfl, trivial⟩ ?_
  refine c_seq ?_
  refine c_seq ?_
  refine c_reg ?_
  refine s_val rfl rfl (r_mv rfl rfl) ?_
  refine s_val rfl rfl (r_mv rfl rfl) ?_
  refine s_nil ?_
  refine q_then ?_
  refine c_env [(2, .slice none 0 0), (3, .slice none 0 0), (5, .int .i64 ((n : Nat) : Int)), (6, .int .i64 0)] ⟨rfl, rfl, rfl, rfl, trivial⟩ ?_
  refine c_block ?_
  replace H := H.newnil (kInt .i64)
  refine c_loop (σ := Nat × Value) (fun (i, q) => [(2, .slice none 0 0), (3, q), (5, .int .i64 ((n : Nat) : Int)), (6, .int .i64 ((i : Nat) : Int))]) (fun (i, q) w => (Hd w0 F0 w [osl (kInt .i64) q (upto i)] []) ∧ (i ≤ n)) (fun (i, q) => n - i) (0, .slice none 0 0) ⟨rfl, rfl, rfl, rfl, trivial⟩ ⟨H, Nat.zero_le _⟩ ?_
  rintro ⟨i, q⟩ w ⟨H, hi⟩
  have hul := upto_len i
  refine c_seq ?_
  refine c_reg ?_
  refine s_val rfl rfl (r_lt rfl rfl rfl) ?_
  refine s_nil ?_
  refine q_then ?_
  refine c_env [(2, .slice none 0 0), (3, q), (5, .int .i64 ((n : Nat) : Int)), (6, .int .i64 ((i : Nat) : Int)), (7, .bool (decide (((i : Nat) : Int) < ((n : Nat) : Int))))] ⟨rfl, rfl, rfl, rfl, rfl, trivial⟩ ?_
  refine c_seq ?_
  refine c_dec (p := ((i : Nat) : Int) < ((n : Nat) : Int)) rfl (fun h1 => ?_) (fun h1 => ?_)
  · skip
    refine c_skip ?_
    refine q_then ?_
    refine c_env [(2, .slice none 0 0), (3, q), (5, .int .i64 ((n : Nat) : Int)), (6, .int .i64 ((i : Nat) : Int))] ⟨rfl, rfl, rfl, rfl, trivial⟩ ?_
    refine c_seq ?_
    refine c_block ?_
    refine c_seq ?_
    refine c_reg ?_
    refine s_val rfl rfl (r_mv rfl rfl) ?_
    refine s_val rfl rfl (r_as rfl rfl) ?_
    refine s_nil ?_
    refine q_then ?_
    refine c_env [(2, .slice none 0 0), (3, q), (4, .int .i64 ((i : Nat) : Int)), (5, .int .i64 ((n : Nat) : Int)), (6, .int .i64 ((i : Nat) : Int))] ⟨rfl, rfl, rfl, rfl, rfl, trivial⟩ ?_
    refine c_reg ?_
    refine s_val rfl rfl (r_mv rfl rfl) ?_
    refine s_val rfl rfl (r_mv rfl rfl) ?_
    refine s_bsl (parts := [(0, .tmp 10)]) (vs := [.int .i64 ((i : Nat) : Int)]) (cs := [.int .i64 ((i : Nat) : Int)]) rfl rfl rfl sl41 zr3 rfl (by decide) (by decide) rfl rfl H (fun b2 w H => ?_)
    replace H := H.pick 1 rfl
    refine s_appF (xs := upto i) (ys := [((i : Nat) : Int)]) rfl rfl rfl sl41 zr3 rfl (by decide) rfl rfl H (by first | omega | (rw [List.length_append]; omega)) (fun F hA hR => blk_rsl (hA _ (List.mem_of_getElem? (i := 0) rfl)) rfl (by decide) (RepsR.flat_eq.2 rfl)) (fun v3 w H => ?_)
    refine s_val rfl rfl (r_as rfl rfl) ?_
    refine s_nil ?_
    refine q_blockN ?_
    refine q_then ?_
    replace H : Hd _ _ _ [osl (kInt .i64) v3 ((upto i) ++ [((i : Nat) : Int)]), blk b2 [.int .i64 ((i : Nat) : Int)] 3] [] := H
    refine c_env [(2, .slice none 0 0), (3, v3), (5, .int .i64 ((n : Nat) : Int)), (6, .int .i64 ((i : Nat) : Int))] ⟨rfl, rfl, rfl, rfl, trivial⟩ ?_
    refine c_reg ?_
    refine s_val rfl rfl (r_add (z := ((i + 1 : Nat) : Int)) rfl rfl rfl (by rw [w64 (by omega) (by omega)]; omega)) ?_
    refine s_val rfl rfl (r_mv rfl rfl) ?_
    refine s_nil ?_
    replace H := H.keep 1
    replace H : Hd w0 F0 w [osl (kInt .i64) v3 (upto (i + 1))] [] := by rw [upto_succ]; exact H
    exact q_round (s := (i, undef)) (i + 1, v3) ⟨rfl, rfl, rfl, rfl, trivial⟩ ⟨H, by (try dsimp only); omega⟩ (by (try dsimp only); omega)
  · skip
    refine c_exit ?_
    refine q_thenE ?_
    refine q_thenE ?_
    refine q_blockE ?_
    refine q_then ?_
    refine c_env [(2, .slice none 0 0), (3, q)] ⟨rfl, rfl, trivial⟩ ?_
    refine c_seq ?_
    refine c_reg ?_
    refine s_val rfl rfl (r_mv rfl rfl) ?_
    refine s_val rfl rfl (r_as rfl rfl) ?_
    refine s_nil ?_
    refine q_then ?_
    refine c_env [(2, q)] ⟨rfl, trivial⟩ ?_
    refine c_ret ?_
    refine q_ret1 rfl rfl ?_
    obtain rfl : i = n := by omega
    exact fin rfl H

set_option maxHeartbeats 4000000 in
theorem part_ok (vS vM vC vR vK : Value) (J : Job) (hJ : OkJ J) (p : Nat) (hp : (p : Int) < J.parts) (hsp : ∀ s, s < J.us.length → (splitM dg J s).2 = 0) (vl : Value) :
    Cn Tryz.prog 47 [.agg #[vS, .int .i64 J.parts, vM, vC, vR, .int .i64 J.chunk, .int .i64 J.window, .int .i64 J.fuel, vK], .int .i64 ((p : Nat) : Int), vl] [] [rsl (kHd kPair) vS J.us, rsl kIns vM J.map, rsl kIns vC J.comb, rsl kIns vR J.red, rsl (kInt .i64) vK J.marks, rsl (kInt .i64) vl (upto J.us.length), gl] (fun v Bs => ∃ u, v = .tuple #[u, .int .i64 (partM dg J p).2] ∧ Bs = [osl kPair u (partM dg J p).1]) := by
  intro w0 F0 H
  obtain ⟨A1, c2, rfl, hc3, hm4, hp5⟩ := H.fR 0 rfl
  obtain ⟨A6, c7, rfl, hc8, hm9, hp10⟩ := H.fR 1 rfl
  obtain ⟨A11, c12, rfl, hc13, hm14, hp15⟩ := H.fR 2 rfl
  obtain ⟨A16, c17, rfl, hc18, hm19, hp20⟩ := H.fR 3 rfl
  obtain ⟨A21, c22, rfl, hc23, hm24, hp25⟩ := H.fR 4 rfl
  obtain ⟨A26, c27, rfl, hc28, hm29, hp30⟩ := H.fR 5 rfl
  have hus := hJ.us
  have hpt := hJ.parts
  have hfu := hJ.fuel
  refine enter (args := [.agg #[.slice A1 J.us.length c2, .int .i64 J.parts, .slice A6 J.map.length c7, .slice A11 J.comb.length c12, .slice A16 J.red.length c17, .int .i64 J.chunk, .int .i64 J.window, .int .i64 J.fuel, .slice A21 J.marks.length c22], .int .i64 ((p : Nat) : Int), .slice A26 ((upto J.us.length).length) c27]) Tryz.func47 rfl rfl (Nat.le_of_ble_eq_true rfl) ?_
  refine c_seq ?_
  refine c_reg ?_
  refine s_box rfl rfl rfl rfl H (fun b31 w H => ?_)
  refine s_val rfl rfl (r_as rfl rfl) ?_
  refine s_val rfl rfl (r_as rfl rfl) ?_
  refine s_nil ?_
  refine q_then ?_
  replace H : Hd _ _ _ [blk b31 [.slice A1 J.us.length c2, .int .i64 J.parts, .slice A6 J.map.length c7, .slice A11 J.comb.length c12, .slice A16 J.red.length c17, .int .i64 J.chunk, .int .i64 J.window, .int .i64 J.fuel, .slice A21 J.marks.length c22] 43] [rsl (kHd kPair) (.slice A1 J.us.length c2) J.us, rsl kIns (.slice A6 J.map.length c7) J.map, rsl kIns (.slice A11 J.comb.length c12) J.comb, rsl kIns (.slice A16 J.red.length c17) J.red, rsl (kInt .i64) (.slice A21 J.marks.length c22) J.marks, rsl (kInt .i64) (.slice A26 ((upto J.us.length).length) c27) (upto J.us.length), gl] := H
  refine c_env [(1, .int .i64 ((p : Nat) : Int)), (2, .slice A26 ((upto J.us.length).length) c27), (3, .pointer (some ⟨b31, 0, none⟩)), (6, .slice none 0 0), (7, .int .i64 0)] ⟨rfl, rfl, rfl, rfl, rfl, trivial⟩ ?_
  refine c_seq ?_
  refine c_seq ?_
  refine c_reg ?_
  refine s_val rfl rfl (r_ldA (cs := [.slice A1 J.us.length c2, .int .i64 J.parts, .slice A6 J.map.length c7, .slice A11 J.comb.length c12, .slice A16 J.red.length c17, .int .i64 J.chunk, .int .i64 J.window, .int .i64 J.fuel, .slice A21 J.marks.length c22]) rfl ty43 rfl rfl (H.cellsI 0 rfl rfl)) ?_
  refine sc (jmay_ok (.slice A1 J.us.length c2) (.slice A6 J.map.length c7) (.slice A11 J.comb.length c12) (.slice A16 J.red.length c17) (.slice A21 J.marks.length c22) J) H (lR 0 rfl (lR 1 rfl (lR 2 rfl (lR 3 rfl (lR 4 rfl l0))))) rfl rfl (e_fn kn22 rfl rfl) ?_
  rintro _ _ w ⟨rfl, rfl⟩ H
  refine s_val rfl rfl (r_notP rfl rfl) ?_
  refine s_val rfl rfl (r_mv rfl rfl) ?_
  refine s_dec (d := 15) (p := ¬ (mayJ J)) rfl (fun h32 => ?_) (fun h32 => ?_)
  · exact (h32 hJ.may).elim
  · skip
    refine s_val rfl rfl (r_mv rfl rfl) ?_
    refine s_val rfl rfl (r_lt rfl rfl rfl) ?_
    refine s_val rfl rfl (r_pickF rfl rfl rfl) ?_
    refine s_val rfl rfl (r_mv rfl rfl) ?_
    refine s_dec (d := 19) (p := ((p : Nat) : Int) < 0) rfl (fun h33 => ?_) (fun h33 => ?_)
    · exfalso; omega
    · skip
      refine s_val rfl rfl (r_mv rfl rfl) ?_
      refine s_val rfl rfl (r_fa rfl fo43_1 rfl) ?_
      refine s_val rfl rfl (r_ld rfl ty3 rfl (H.cellI 0 rfl rfl)) ?_
      refine s_val rfl rfl (r_ge rfl rfl rfl) ?_
      refine s_val rfl rfl (r_pickF rfl rfl rfl) ?_
      refine s_nil ?_
      refine q_then ?_
      refine c_env [(1, .int .i64 ((p : Nat) : Int)), (2, .slice A26 ((upto J.us.length).length) c27), (3, .pointer (some ⟨b31, 0, none⟩)), (6, .slice none 0 0), (7, .int .i64 0), (24, .bool (decide (J.parts ≤ ((p : Nat) : Int))))] ⟨rfl, rfl, rfl, rfl, rfl, rfl, trivial⟩ ?_
      refine c_dec (p := J.parts ≤ ((p : Nat) : Int)) rfl (fun h34 => ?_) (fun h34 => ?_)
      · exfalso; omega
      · skip
        refine c_skip ?_
        refine q_then ?_
        refine c_env [(1, .int .i64 ((p : Nat) : Int)), (2, .slice A26 ((upto J.us.length).length) c27), (3, .pointer (some ⟨b31, 0, none⟩)), (6, .slice none 0 0), (7, .int .i64 0)] ⟨rfl, rfl, rfl, rfl, rfl, trivial⟩ ?_
        refine c_seq ?_
        refine c_reg ?_
        refine s_val rfl rfl (r_as rfl rfl) ?_
        refine s_nil ?_
        refine q_then ?_
        refine c_env [(1, .int .i64 ((p : Nat) : Int)), (2, .slice A26 ((upto J.us.length).length) c27), (3, .pointer (some ⟨b31, 0, none⟩)), (6, .slice none 0 0), (7, .int .i64 0), (8, .slice none 0 0)] ⟨rfl, rfl, rfl, rfl, rfl, rfl, trivial⟩ ?_
        refine c_seq ?_
        refine c_seq ?_
        refine c_reg ?_
        refine s_val rfl rfl (r_fa rfl fo43_0 rfl) ?_
        refine s_val rfl rfl (r_ld rfl ty31 rfl (H.cellI 0 rfl rfl)) ?_
        refine s_val rfl rfl (r_lenL rfl un31 rfl) ?_
        refine s_val rfl rfl (r_mv rfl rfl) ?_
        refine s_nil ?_
        refine q_then ?_
        refine c_env [(1, .int .i64 ((p : Nat) : Int)), (2, .slice A26 ((upto J.us.length).length) c27), (3, .pointer (some ⟨b31, 0, none⟩)), (6, .slice none 0 0), (7, .int .i64 0), (8, .slice none 0 0), (27, .int .i64 ((J.us.length : Nat) : Int)), (28, .int .i64 0)] ⟨rfl, rfl, rfl, rfl, rfl, rfl, rfl, rfl, trivial⟩ ?_
        refine c_block ?_
        replace H := H.newnil (kHd kPair)
        replace H := H.pick 1 rfl
        replace H := H.pick 1 rfl
        refine c_loop (σ := Nat × Value × List (Value × List Pair)) (fun (k, q, zs) => [(1, .int .i64 ((p : Nat) : Int)), (2, .slice A26 ((upto J.us.length).length) c27), (3, .pointer (some ⟨b31, 0, none⟩)), (8, q), (27, .int .i64 ((J.us.length : Nat) : Int)), (28, .int .i64 ((k : Nat) : Int))]) (fun (k, q, zs) w => (Hd w0 F0 w [osl (kHd kPair) q zs, blk b31 [.slice A1 J.us.length c2, .int .i64 J.parts, .slice A6 J.map.length c7, .slice A11 J.comb.length c12, .slice A16 J.red.length c17, .int .i64 J.chunk, .int .i64 J.window, .int .i64 J.fuel, .slice A21 J.marks.length c22] 43] [rsl (kHd kPair) (.slice A1 J.us.length c2) J.us, rsl kIns (.slice A6 J.map.length c7) J.map, rsl kIns (.slice A11 J.comb.length c12) J.comb, rsl kIns (.slice A16 J.red.length c17) J.red, rsl (kInt .i64) (.slice A21 J.marks.length c22) J.marks, rsl (kInt .i64) (.slice A26 ((upto J.us.length).length) c27) (upto J.us.length), gl]) ∧ (k ≤ J.us.length ∧ zs.length = k) ∧ (flat2 zs = allOf dg J p k)) (fun (k, q, zs) => J.us.length - k) (0, .slice none 0 0, []) ⟨rfl, rfl, rfl, rfl, rfl, rfl, trivial⟩ ⟨H, ⟨Nat.zero_le _, rfl⟩, rfl⟩ ?_
        rintro ⟨k, q, zs⟩ w ⟨H, hk, hz⟩
        have hal := allOf_len dg J p k
        have hfz : (flat2 zs).length ≤ 40 * k := by rw [hz]; exact hal
        refine c_seq ?_
        refine c_reg ?_
        refine s_val rfl rfl (r_lt rfl rfl rfl) ?_
        refine s_nil ?_
        refine q_then ?_
        refine c_env [(1, .int .i64 ((p : Nat) : Int)), (2, .slice A26 ((upto J.us.length).length) c27), (3, .pointer (some ⟨b31, 0, none⟩)), (8, q), (27, .int .i64 ((J.us.length : Nat) : Int)), (28, .int .i64 ((k : Nat) : Int)), (29, .bool (decide (((k : Nat) : Int) < ((J.us.length : Nat) : Int))))] ⟨rfl, rfl, rfl, rfl, rfl, rfl, rfl, trivial⟩ ?_
        refine c_seq ?_
        refine c_dec (p := ((k : Nat) : Int) < ((J.us.length : Nat) : Int)) rfl (fun h35 => ?_) (fun h35 => ?_)
        · skip
          refine c_skip ?_
          refine q_then ?_
          refine c_env [(1, .int .i64 ((p : Nat) : Int)), (2, .slice A26 ((upto J.us.length).length) c27), (3, .pointer (some ⟨b31, 0, none⟩)), (8, q), (27, .int .i64 ((J.us.length : Nat) : Int)), (28, .int .i64 ((k : Nat) : Int))] ⟨rfl, rfl, rfl, rfl, rfl, rfl, trivial⟩ ?_
          refine c_seq ?_
          refine c_block ?_
          refine c_seq ?_
          refine c_reg ?_
          refine s_val rfl rfl (r_mv rfl rfl) ?_
          refine s_val rfl rfl (r_as rfl rfl) ?_
          refine s_nil ?_
          refine q_then ?_
          refine c_env [(1, .int .i64 ((p : Nat) : Int)), (2, .slice A26 ((upto J.us.length).length) c27), (3, .pointer (some ⟨b31, 0, none⟩)), (8, q), (9, .int .i64 ((k : Nat) : Int)), (27, .int .i64 ((J.us.length : Nat) : Int)), (28, .int .i64 ((k : Nat) : Int))] ⟨rfl, rfl, rfl, rfl, rfl, rfl, rfl, trivial⟩ ?_
          refine c_seq ?_
          refine c_seq ?_
          refine c_reg ?_
          refine s_val rfl rfl (r_mv rfl rfl) ?_
          refine s_val rfl rfl (r_mv rfl rfl) ?_
          refine sc (containsI_ok (.slice A26 ((upto J.us.length).length) c27) (upto J.us.length) ((k : Nat) : Int)) H (lR 5 rfl l0) rfl rfl (e_fn kn59 rfl rfl) ?_
          rintro _ _ w ⟨rfl, rfl⟩ H
          refine s_val rfl rfl (r_notP rfl rfl) ?_
          refine s_nil ?_
          refine q_then ?_
          refine c_env [(1, .int .i64 ((p : Nat) : Int)), (2, .slice A26 ((upto J.us.length).length) c27), (3, .pointer (some ⟨b31, 0, none⟩)), (8, q), (9, .int .i64 ((k : Nat) : Int)), (27, .int .i64 ((J.us.length : Nat) : Int)), (28, .int .i64 ((k : Nat) : Int)), (34, .bool (decide (¬ (((k : Nat) : Int) ∈ (upto J.us.length)))))] ⟨rfl, rfl, rfl, rfl, rfl, rfl, rfl, rfl, trivial⟩ ?_
          refine c_dec (p := ¬ (((k : Nat) : Int) ∈ (upto J.us.length))) rfl (fun h36 => ?_) (fun h36 => ?_)
          · exact (h36 (upto_mem (by omega))).elim
          · skip
            refine c_skip ?_
            refine q_then ?_
            refine c_env [(1, .int .i64 ((p : Nat) : Int)), (2, .slice A26 ((upto J.us.length).length) c27), (3, .pointer (some ⟨b31, 0, none⟩)), (8, q), (9, .int .i64 ((k : Nat) : Int)), (27, .int .i64 ((J.us.length : Nat) : Int)), (28, .int .i64 ((k : Nat) : Int))] ⟨rfl, rfl, rfl, rfl, rfl, rfl, rfl, trivial⟩ ?_
            refine c_seq ?_
            refine c_reg ?_
            refine s_val rfl rfl (r_ldA (cs := [.slice A1 J.us.length c2, .int .i64 J.parts, .slice A6 J.map.length c7, .slice A11 J.comb.length c12, .slice A16 J.red.length c17, .int .i64 J.chunk, .int .i64 J.window, .int .i64 J.fuel, .slice A21 J.marks.length c22]) rfl ty43 rfl rfl (H.cellsI 1 rfl rfl)) ?_
            refine s_val rfl rfl (r_mv rfl rfl) ?_
            refine s_val rfl rfl (r_mv rfl rfl) ?_
            refine sc (jrun_ok (.slice A1 J.us.length c2) (.slice A6 J.map.length c7) (.slice A11 J.comb.length c12) (.slice A16 J.red.length c17) (.slice A21 J.marks.length c22) J hJ k ((p : Nat) : Int) (by omega)) H (lR 0 rfl (lR 1 rfl (lR 2 rfl (lR 3 rfl (lR 4 rfl (lR 6 rfl l0)))))) rfl rfl (e_fn kn26 rfl rfl) ?_
            rintro _ _ w ⟨u37, rfl, rfl⟩ H
            have hrj : runJ dg J k p = (onlyM dg J k p, 0) := if_neg (fun h => h (hsp k (by omega)))
            rw [hrj] at H ⊢
            replace H : Hd w0 F0 w [osl kPair u37 (onlyM dg J k p), osl (kHd kPair) q zs, blk b31 [.slice A1 J.us.length c2, .int .i64 J.parts, .slice A6 J.map.length c7, .slice A11 J.comb.length c12, .slice A16 J.red.length c17, .int .i64 J.chunk, .int .i64 J.window, .int .i64 J.fuel, .slice A21 J.marks.length c22] 43] [rsl (kHd kPair) (.slice A1 J.us.length c2) J.us, rsl kIns (.slice A6 J.map.length c7) J.map, rsl kIns (.slice A11 J.comb.length c12) J.comb, rsl kIns (.slice A16 J.red.length c17) J.red, rsl (kInt .i64) (.slice A21 J.marks.length c22) J.marks, rsl (kInt .i64) (.slice A26 ((upto J.us.length).length) c27) (upto J.us.length), gl] := H
            refine s_val rfl rfl (r_mv rfl rfl) ?_
            refine s_val rfl rfl (r_ex rfl rfl rfl) ?_
            refine s_val rfl rfl (r_ex rfl rfl rfl) ?_
            refine s_val rfl rfl (r_as rfl rfl) ?_
            refine s_val rfl rfl (r_as rfl rfl) ?_
            refine s_nil ?_
            refine q_then ?_
            refine c_env [(1, .int .i64 ((p : Nat) : Int)), (2, .slice A26 ((upto J.us.length).length) c27), (3, .pointer (some ⟨b31, 0, none⟩)), (8, q), (10, u37), (11, .int .i64 0), (27, .int .i64 ((J.us.length : Nat) : Int)), (28, .int .i64 ((k : Nat) : Int))] ⟨rfl, rfl, rfl, rfl, rfl, rfl, rfl, rfl, trivial⟩ ?_
            refine c_seq ?_
            refine c_seq ?_
            refine c_reg ?_
            refine s_val rfl rfl (r_mv rfl rfl) ?_
            refine s_val rfl rfl (r_ne rfl rfl rfl) ?_
            refine s_nil ?_
            refine q_then ?_
            refine c_env [(1, .int .i64 ((p : Nat) : Int)), (2, .slice A26 ((upto J.us.length).length) c27), (3, .pointer (some ⟨b31, 0, none⟩)), (8, q), (10, u37), (11, .int .i64 0), (27, .int .i64 ((J.us.length : Nat) : Int)), (28, .int .i64 ((k : Nat) : Int)), (43, .bool false)] ⟨rfl, rfl, rfl, rfl, rfl, rfl, rfl, rfl, rfl, trivial⟩ ?_
            refine c_no rfl ?_
            refine c_skip ?_
            refine q_then ?_
            refine c_env [(1, .int .i64 ((p : Nat) : Int)), (2, .slice A26 ((upto J.us.length).length) c27), (3, .pointer (some ⟨b31, 0, none⟩)), (8, q), (10, u37), (27, .int .i64 ((J.us.length : Nat) : Int)), (28, .int .i64 ((k : Nat) : Int))] ⟨rfl, rfl, rfl, rfl, rfl, rfl, rfl, trivial⟩ ?_
            refine c_reg ?_
            refine s_val rfl rfl (r_mv rfl rfl) ?_
            refine s_val rfl rfl (r_mv rfl rfl) ?_
            obtain ⟨A39, c40, rfl, hc41, hm42, hp43⟩ := H.fA 0 rfl
            refine s_bsl (parts := [(0, .tmp 46)]) (vs := [.slice A39 ((onlyM dg J k p).length) c40]) (cs := [.slice A39 ((onlyM dg J k p).length) c40]) rfl rfl rfl sl31 zr23 rfl (by decide) (by decide) rfl rfl H (fun b38 w H => ?_)
            replace H := H.pick 2 rfl
            replace H := H.pick 2 rfl
            replace H := H.pick 2 rfl
            replace H := H.pick 2 rfl
            replace H : Hd _ _ _ [osl (kHd kPair) q zs, blk b38 [.slice A39 ((onlyM dg J k p).length) c40] 23, osl kPair (.slice A39 ((onlyM dg J k p).length) c40) (onlyM dg J k p), blk b31 [.slice A1 J.us.length c2, .int .i64 J.parts, .slice A6 J.map.length c7, .slice A11 J.comb.length c12, .slice A16 J.red.length c17, .int .i64 J.chunk, .int .i64 J.window, .int .i64 J.fuel, .slice A21 J.marks.length c22] 43] [rsl (kHd kPair) (.slice A1 J.us.length c2) J.us, rsl kIns (.slice A6 J.map.length c7) J.map, rsl kIns (.slice A11 J.comb.length c12) J.comb, rsl kIns (.slice A16 J.red.length c17) J.red, rsl (kInt .i64) (.slice A21 J.marks.length c22) J.marks, rsl (kInt .i64) (.slice A26 ((upto J.us.length).length) c27) (upto J.us.length), gl] := H
            refine s_appH rfl rfl rfl sl31 zr23 rfl (by decide) rfl rfl H (by first | omega | (simp only [List.length_append, List.length_cons, List.length_nil]; omega)) (fun v44 w H => ?_)
            refine s_val rfl rfl (r_as rfl rfl) ?_
            refine s_nil ?_
            refine q_blockN ?_
            refine q_then ?_
            replace H : Hd _ _ _ [osl (kHd kPair) v44 (zs ++ [(.slice A39 ((onlyM dg J k p).length) c40, onlyM dg J k p)]), blk b31 [.slice A1 J.us.length c2, .int .i64 J.parts, .slice A6 J.map.length c7, .slice A11 J.comb.length c12, .slice A16 J.red.length c17, .int .i64 J.chunk, .int .i64 J.window, .int .i64 J.fuel, .slice A21 J.marks.length c22] 43] [rsl (kHd kPair) (.slice A1 J.us.length c2) J.us, rsl kIns (.slice A6 J.map.length c7) J.map, rsl kIns (.slice A11 J.comb.length c12) J.comb, rsl kIns (.slice A16 J.red.length c17) J.red, rsl (kInt .i64) (.slice A21 J.marks.length c22) J.marks, rsl (kInt .i64) (.slice A26 ((upto J.us.length).length) c27) (upto J.us.length), gl] := H
            refine c_env [(1, .int .i64 ((p : Nat) : Int)), (2, .slice A26 ((upto J.us.length).length) c27), (3, .pointer (some ⟨b31, 0, none⟩)), (8, v44), (27, .int .i64 ((J.us.length : Nat) : Int)), (28, .int .i64 ((k : Nat) : Int))] ⟨rfl, rfl, rfl, rfl, rfl, rfl, trivial⟩ ?_
            refine c_reg ?_
            refine s_val rfl rfl (r_add (z := ((k + 1 : Nat) : Int)) rfl rfl rfl (by rw [w64 (by omega) (by omega)]; omega)) ?_
            refine s_val rfl rfl (r_mv rfl rfl) ?_
            refine s_nil ?_
            replace H := H.pick 1 rfl
            replace H := H.pick 1 rfl
            have hz2 : flat2 (zs ++ [(.slice A39 ((onlyM dg J k p).length) c40, onlyM dg J k p)]) = allOf dg J p (k + 1) := by rw [flat2_snoc, hz]; rfl
            replace H := H.pick 1 rfl
            replace H := H.pick 1 rfl
            exact q_round (s := (k, undef, zs)) (k + 1, v44, zs ++ [(.slice A39 ((onlyM dg J k p).length) c40, onlyM dg J k p)]) ⟨rfl, rfl, rfl, rfl, rfl, rfl, trivial⟩ ⟨H, by (try dsimp only); simp only [List.length_append, List.length_cons, List.length_nil]; omega, hz2⟩ (by (try dsimp only); omega)
        · skip
          refine c_exit ?_
          refine q_thenE ?_
          refine q_thenE ?_
          refine q_blockE ?_
          refine q_then ?_
          refine c_env [(3, .pointer (some ⟨b31, 0, none⟩)), (8, q)] ⟨rfl, rfl, trivial⟩ ?_
          refine c_seq ?_
          replace H := H.pick 1 rfl
          replace H := H.pick 1 rfl
          replace H : Hd _ _ _ [osl (kHd kPair) q zs, blk b31 [.slice A1 J.us.length c2, .int .i64 J.parts, .slice A6 J.map.length c7, .slice A11 J.comb.length c12, .slice A16 J.red.length c17, .int .i64 J.chunk, .int .i64 J.window, .int .i64 J.fuel, .slice A21 J.marks.length c22] 43] [rsl (kHd kPair) (.slice A1 J.us.length c2) J.us, rsl kIns (.slice A6 J.map.length c7) J.map, rsl kIns (.slice A11 J.comb.length c12) J.comb, rsl kIns (.slice A16 J.red.length c17) J.red, rsl (kInt .i64) (.slice A21 J.marks.length c22) J.marks, rsl (kInt .i64) (.slice A26 ((upto J.us.length).length) c27) (upto J.us.length), gl] := H
          refine c_ord (.e 0 (.e 1 (.e 2 (.e 4 (.e 5 (.m 3 (.m 6 (.e 7 (.e 8 (.e 9 (.e 10 .z))))))))))) (fun w => ∃ Ar, Hd w0 F0 w (osl (kHd kPair) q zs :: blk b31 [.slice A1 J.us.length c2, .int .i64 J.parts, .slice A6 J.map.length c7, .slice A11 J.comb.length c12, .slice A16 J.red.length c17, .int .i64 J.chunk, .int .i64 J.window, .int .i64 J.fuel, .slice A21 J.marks.length c22] 43 :: Ar) [rsl (kHd kPair) (.slice A1 J.us.length c2) J.us, rsl kIns (.slice A6 J.map.length c7) J.map, rsl kIns (.slice A11 J.comb.length c12) J.comb, rsl kIns (.slice A16 J.red.length c17) J.red, rsl (kInt .i64) (.slice A21 J.marks.length c22) J.marks, rsl (kInt .i64) (.slice A26 ((upto J.us.length).length) c27) (upto J.us.length), gl]) mo (by kernel_rfl) (fun w H => ⟨_, H⟩) H (fun w H => ?_)
          refine d_val rfl rfl rfl (fun w ⟨Ar, H⟩ => r_fa rfl fo43_4 rfl) ?_
          refine d_val rfl rfl rfl (fun w ⟨Ar, H⟩ => r_ld rfl ty22 rfl (H.cellI 1 rfl rfl)) ?_
          refine d_val rfl rfl rfl (fun w ⟨Ar, H⟩ => r_mv rfl rfl) ?_
          refine d_val rfl rfl rfl (fun w ⟨Ar, H⟩ => r_fa rfl fo43_7 rfl) ?_
          refine d_val rfl rfl rfl (fun w ⟨Ar, H⟩ => r_ld rfl ty3 rfl (H.cellI 1 rfl rfl)) ?_
          refine d_main rfl ?_
          refine sc (runs_ok q zs (by first | omega | decide | exact Nat.le_trans (flat2_le _ _) (by omega) | exact Nat.le_trans (flat2_le' _ _) (by omega) | (simp only [flat2, List.flatMap_cons, List.flatMap_nil, List.append_nil, srt_len]; omega))) H (lA 0 rfl own_rd l0) rfl rfl (e_fn kn18 rfl rfl) ?_
          rintro v45 _ w rfl H
          replace H := H.pick 2 rfl
          replace H := H.pick 2 rfl
          replace H : Hd _ _ _ [osl (kHd kPair) q zs, blk b31 [.slice A1 J.us.length c2, .int .i64 J.parts, .slice A6 J.map.length c7, .slice A11 J.comb.length c12, .slice A16 J.red.length c17, .int .i64 J.chunk, .int .i64 J.window, .int .i64 J.fuel, .slice A21 J.marks.length c22] 43, osl kPair v45 (srt (flat2 zs))] [rsl (kHd kPair) (.slice A1 J.us.length c2) J.us, rsl kIns (.slice A6 J.map.length c7) J.map, rsl kIns (.slice A11 J.comb.length c12) J.comb, rsl kIns (.slice A16 J.red.length c17) J.red, rsl (kInt .i64) (.slice A21 J.marks.length c22) J.marks, rsl (kInt .i64) (.slice A26 ((upto J.us.length).length) c27) (upto J.us.length), gl] := H
          refine d_back ⟨_, H⟩ ?_
          refine d_main rfl ?_
          have hsl := srt_len (flat2 zs)
          refine sc (foldEach_ok (.slice A16 J.red.length c17) J.red v45 (srt (flat2 zs)) J.fuel hJ.red hJ.f64 (by rw [srt_len, hz]; omega)) H (lR 3 rfl (lA 2 rfl own_rd (lR 6 rfl l0))) rfl rfl (e_fn kn10 rfl rfl) ?_
          rintro _ _ w ⟨u46, rfl, rfl⟩ H
          replace H := H.pick 2 rfl
          replace H := H.pick 2 rfl
          replace H : Hd _ _ _ [osl (kHd kPair) q zs, blk b31 [.slice A1 J.us.length c2, .int .i64 J.parts, .slice A6 J.map.length c7, .slice A11 J.comb.length c12, .slice A16 J.red.length c17, .int .i64 J.chunk, .int .i64 J.window, .int .i64 J.fuel, .slice A21 J.marks.length c22] 43, osl kPair u46 ((eachM dg J.red (srt (flat2 zs)) J.fuel false).1), osl kPair v45 (srt (flat2 zs))] [rsl (kHd kPair) (.slice A1 J.us.length c2) J.us, rsl kIns (.slice A6 J.map.length c7) J.map, rsl kIns (.slice A11 J.comb.length c12) J.comb, rsl kIns (.slice A16 J.red.length c17) J.red, rsl (kInt .i64) (.slice A21 J.marks.length c22) J.marks, rsl (kInt .i64) (.slice A26 ((upto J.us.length).length) c27) (upto J.us.length), gl] := H
          refine d_back ⟨_, H⟩ ?_
          refine d_val rfl rfl rfl (fun w ⟨Ar, H⟩ => r_ex rfl rfl rfl) ?_
          refine d_val rfl rfl rfl (fun w ⟨Ar, H⟩ => r_ex rfl rfl rfl) ?_
          refine d_val rfl rfl rfl (fun w ⟨Ar, H⟩ => r_as rfl rfl) ?_
          refine d_val rfl rfl rfl (fun w ⟨Ar, H⟩ => r_as rfl rfl) ?_
          refine d_nil ?_
          refine q_then ?_
          refine c_env [(6, u46), (7, .int .i64 ((eachM dg J.red (srt (flat2 zs)) J.fuel false).2))] ⟨rfl, rfl, trivial⟩ ?_
          refine c_ret ?_
          refine q_ret2 rfl rfl rfl ?_
          obtain rfl : k = J.us.length := by omega
          have e : partM dg J p = eachM dg J.red (srt (flat2 zs)) J.fuel false := by rw [hz]; rfl
          replace H := H.pick 2 rfl
          replace H := H.keep 1
          replace H : Hd _ _ _ [osl kPair u46 ((eachM dg J.red (srt (flat2 zs)) J.fuel false).1)] [rsl (kHd kPair) (.slice A1 J.us.length c2) J.us, rsl kIns (.slice A6 J.map.length c7) J.map, rsl kIns (.slice A11 J.comb.length c12) J.comb, rsl kIns (.slice A16 J.red.length c17) J.red, rsl (kInt .i64) (.slice A21 J.marks.length c22) J.marks, rsl (kInt .i64) (.slice A26 ((upto J.us.length).length) c27) (upto J.us.length), gl] := H
          exact fin ⟨_, by rw [e], by rw [e]⟩ H

set_option maxHeartbeats 4000000 in
theorem whole_ok (vS vM vC vR vK : Value) (J : Job) (hJ : OkJ J) :
    Cn Tryz.prog 24 [.agg #[vS, .int .i64 J.parts, vM, vC, vR, .int .i64 J.chunk, .int .i64 J.window, .int .i64 J.fuel, vK]] [] [rsl (kHd kPair) vS J.us, rsl kIns vM J.map, rsl kIns vC J.comb, rsl kIns vR J.red, rsl (kInt .i64) vK J.marks, gl] (fun v Bs => ∃ u zs, v = .tuple #[u, .int .i64 (wholeM dg J).2.1, .int .i64 (wholeM dg J).2.2] ∧ Bs = [osl (kHd kPair) u zs] ∧ zs.map (·.2) = (wholeM dg J).1) := by
  intro w0 F0 H
  obtain ⟨A1, c2, rfl, hc3, hm4, hp5⟩ := H.fR 0 rfl
  obtain ⟨A6, c7, rfl, hc8, hm9, hp10⟩ := H.fR 1 rfl
  obtain ⟨A11, c12, rfl, hc13, hm14, hp15⟩ := H.fR 2 rfl
  obtain ⟨A16, c17, rfl, hc18, hm19, hp20⟩ := H.fR 3 rfl
  obtain ⟨A21, c22, rfl, hc23, hm24, hp25⟩ := H.fR 4 rfl
  have hus := hJ.us
  have hpt := hJ.parts
  have hfu := hJ.fuel
  refine enter (args := [.agg #[.slice A1 J.us.length c2, .int .i64 J.parts, .slice A6 J.map.length c7, .slice A11 J.comb.length c12, .slice A16 J.red.length c17, .int .i64 J.chunk, .int .i64 J.window, .int .i64 J.fuel, .slice A21 J.marks.length c22]]) Tryz.func24 rfl rfl (Nat.le_of_ble_eq_true rfl) ?_
  refine c_seq ?_
  refine c_reg ?_
  refine s_box rfl rfl rfl rfl H (fun b26 w H => ?_)
  refine s_val rfl rfl (r_as rfl rfl) ?_
  refine s_val rfl rfl (r_as rfl rfl) ?_
  refine s_val rfl rfl (r_as rfl rfl) ?_
  refine s_nil ?_
  refine q_then ?_
  replace H : Hd _ _ _ [blk b26 [.slice A1 J.us.length c2, .int .i64 J.parts, .slice A6 J.map.length c7, .slice A11 J.comb.length c12, .slice A16 J.red.length c17, .int .i64 J.chunk, .int .i64 J.window, .int .i64 J.fuel, .slice A21 J.marks.length c22] 43] [rsl (kHd kPair) (.slice A1 J.us.length c2) J.us, rsl kIns (.slice A6 J.map.length c7) J.map, rsl kIns (.slice A11 J.comb.length c12) J.comb, rsl kIns (.slice A16 J.red.length c17) J.red, rsl (kInt .i64) (.slice A21 J.marks.length c22) J.marks, gl] := H
  refine c_env [(1, .pointer (some ⟨b26, 0, none⟩)), (2, .slice none 0 0), (3, .int .i64 0), (4, .int .i64 0)] ⟨rfl, rfl, rfl, rfl, trivial⟩ ?_
  refine c_seq ?_
  refine c_seq ?_
  refine c_reg ?_
  refine s_val rfl rfl (r_ldA (cs := [.slice A1 J.us.length c2, .int .i64 J.parts, .slice A6 J.map.length c7, .slice A11 J.comb.length c12, .slice A16 J.red.length c17, .int .i64 J.chunk, .int .i64 J.window, .int .i64 J.fuel, .slice A21 J.marks.length c22]) rfl ty43 rfl rfl (H.cellsI 0 rfl rfl)) ?_
  refine sc (jmay_ok (.slice A1 J.us.length c2) (.slice A6 J.map.length c7) (.slice A11 J.comb.length c12) (.slice A16 J.red.length c17) (.slice A21 J.marks.length c22) J) H (lR 0 rfl (lR 1 rfl (lR 2 rfl (lR 3 rfl (lR 4 rfl l0))))) rfl rfl (e_fn kn22 rfl rfl) ?_
  rintro _ _ w ⟨rfl, rfl⟩ H
  refine s_val rfl rfl (r_notP rfl rfl) ?_
  refine s_nil ?_
  refine q_then ?_
  refine c_env [(1, .pointer (some ⟨b26, 0, none⟩)), (2, .slice none 0 0), (3, .int .i64 0), (4, .int .i64 0), (14, .bool (decide (¬ (mayJ J))))] ⟨rfl, rfl, rfl, rfl, rfl, trivial⟩ ?_
  refine c_dec (p := ¬ (mayJ J)) rfl (fun h27 => ?_) (fun h27 => ?_)
  · exact (h27 hJ.may).elim
  · skip
    refine c_skip ?_
    refine q_then ?_
    refine c_env [(1, .pointer (some ⟨b26, 0, none⟩)), (2, .slice none 0 0), (3, .int .i64 0), (4, .int .i64 0)] ⟨rfl, rfl, rfl, rfl, trivial⟩ ?_
    refine c_seq ?_
    refine c_seq ?_
    refine c_reg ?_
    refine s_val rfl rfl (r_fa rfl fo43_0 rfl) ?_
    refine s_val rfl rfl (r_ld rfl ty31 rfl (H.cellI 0 rfl rfl)) ?_
    refine s_val rfl rfl (r_lenL rfl un31 rfl) ?_
    refine s_val rfl rfl (r_mv rfl rfl) ?_
    refine s_nil ?_
    refine q_then ?_
    refine c_env [(1, .pointer (some ⟨b26, 0, none⟩)), (2, .slice none 0 0), (3, .int .i64 0), (4, .int .i64 0), (17, .int .i64 ((J.us.length : Nat) : Int)), (18, .int .i64 0)] ⟨rfl, rfl, rfl, rfl, rfl, rfl, trivial⟩ ?_
    refine c_block ?_
    refine c_loop (σ := Nat) (fun s => [(1, .pointer (some ⟨b26, 0, none⟩)), (17, .int .i64 ((J.us.length : Nat) : Int)), (18, .int .i64 ((s : Nat) : Int))]) (fun s w => (Hd w0 F0 w [blk b26 [.slice A1 J.us.length c2, .int .i64 J.parts, .slice A6 J.map.length c7, .slice A11 J.comb.length c12, .slice A16 J.red.length c17, .int .i64 J.chunk, .int .i64 J.window, .int .i64 J.fuel, .slice A21 J.marks.length c22] 43] [rsl (kHd kPair) (.slice A1 J.us.length c2) J.us, rsl kIns (.slice A6 J.map.length c7) J.map, rsl kIns (.slice A11 J.comb.length c12) J.comb, rsl kIns (.slice A16 J.red.length c17) J.red, rsl (kInt .i64) (.slice A21 J.marks.length c22) J.marks, gl]) ∧ (s ≤ J.us.length) ∧ (wholeGo dg J (J.us.length - s) s = wholeM dg J) ∧ (∀ q, q < s → (splitM dg J q).2 = 0)) (fun s => J.us.length - s) 0 ⟨rfl, rfl, rfl, trivial⟩ ⟨H, Nat.zero_le _, rfl, fun q h => absurd h (Nat.not_lt_zero _)⟩ ?_
    rintro s w ⟨H, hs, hgo, hsp0⟩
    refine c_seq ?_
    refine c_reg ?_
    refine s_val rfl rfl (r_lt rfl rfl rfl) ?_
    refine s_nil ?_
    refine q_then ?_
    refine c_env [(1, .pointer (some ⟨b26, 0, none⟩)), (17, .int .i64 ((J.us.length : Nat) : Int)), (18, .int .i64 ((s : Nat) : Int)), (19, .bool (decide (((s : Nat) : Int) < ((J.us.length : Nat) : Int))))] ⟨rfl, rfl, rfl, rfl, trivial⟩ ?_
    refine c_seq ?_
    refine c_dec (p := ((s : Nat) : Int) < ((J.us.length : Nat) : Int)) rfl (fun h28 => ?_) (fun h28 => ?_)
    · skip
      refine c_skip ?_
      refine q_then ?_
      refine c_env [(1, .pointer (some ⟨b26, 0, none⟩)), (17, .int .i64 ((J.us.length : Nat) : Int)), (18, .int .i64 ((s : Nat) : Int))] ⟨rfl, rfl, rfl, trivial⟩ ?_
      refine c_seq ?_
      refine c_block ?_
      refine c_seq ?_
      refine c_reg ?_
      refine s_val rfl rfl (r_mv rfl rfl) ?_
      refine s_val rfl rfl (r_as rfl rfl) ?_
      refine s_nil ?_
      refine q_then ?_
      refine c_env [(1, .pointer (some ⟨b26, 0, none⟩)), (5, .int .i64 ((s : Nat) : Int)), (17, .int .i64 ((J.us.length : Nat) : Int)), (18, .int .i64 ((s : Nat) : Int))] ⟨rfl, rfl, rfl, rfl, trivial⟩ ?_
      refine c_seq ?_
      refine c_reg ?_
      refine s_val rfl rfl (r_ldA (cs := [.slice A1 J.us.length c2, .int .i64 J.parts, .slice A6 J.map.length c7, .slice A11 J.comb.length c12, .slice A16 J.red.length c17, .int .i64 J.chunk, .int .i64 J.window, .int .i64 J.fuel, .slice A21 J.marks.length c22]) rfl ty43 rfl rfl (H.cellsI 0 rfl rfl)) ?_
      refine s_val rfl rfl (r_mv rfl rfl) ?_
      refine sc (split_ok (.slice A1 J.us.length c2) (.slice A6 J.map.length c7) (.slice A11 J.comb.length c12) (.slice A16 J.red.length c17) (.slice A21 J.marks.length c22) J hJ s (by omega)) H (lR 0 rfl (lR 1 rfl (lR 2 rfl (lR 3 rfl (lR 4 rfl (lR 5 rfl l0)))))) rfl rfl (e_fn kn25 rfl rfl) ?_
      rintro _ _ w ⟨u29, rfl, rfl⟩ H
      refine s_val rfl rfl (r_mv rfl rfl) ?_
      refine s_val rfl rfl (r_ex rfl rfl rfl) ?_
      refine s_val rfl rfl (r_ex rfl rfl rfl) ?_
      refine s_val rfl rfl (r_as rfl rfl) ?_
      refine s_val rfl rfl (r_as rfl rfl) ?_
      refine s_nil ?_
      refine q_then ?_
      replace H : Hd _ _ _ [osl kPair u29 ((splitM dg J s).1), blk b26 [.slice A1 J.us.length c2, .int .i64 J.parts, .slice A6 J.map.length c7, .slice A11 J.comb.length c12, .slice A16 J.red.length c17, .int .i64 J.chunk, .int .i64 J.window, .int .i64 J.fuel, .slice A21 J.marks.length c22] 43] [rsl (kHd kPair) (.slice A1 J.us.length c2) J.us, rsl kIns (.slice A6 J.map.length c7) J.map, rsl kIns (.slice A11 J.comb.length c12) J.comb, rsl kIns (.slice A16 J.red.length c17) J.red, rsl (kInt .i64) (.slice A21 J.marks.length c22) J.marks, gl] := H
      refine c_env [(1, .pointer (some ⟨b26, 0, none⟩)), (5, .int .i64 ((s : Nat) : Int)), (7, .int .i64 ((splitM dg J s).2)), (17, .int .i64 ((J.us.length : Nat) : Int)), (18, .int .i64 ((s : Nat) : Int))] ⟨rfl, rfl, rfl, rfl, rfl, trivial⟩ ?_
      refine c_seq ?_
      refine c_reg ?_
      refine s_val rfl rfl (r_mv rfl rfl) ?_
      refine s_val rfl rfl (r_ne rfl rfl rfl) ?_
      refine s_nil ?_
      refine q_then ?_
      refine c_env [(1, .pointer (some ⟨b26, 0, none⟩)), (5, .int .i64 ((s : Nat) : Int)), (7, .int .i64 ((splitM dg J s).2)), (17, .int .i64 ((J.us.length : Nat) : Int)), (18, .int .i64 ((s : Nat) : Int)), (28, .bool (decide (((splitM dg J s).2) ≠ 0)))] ⟨rfl, rfl, rfl, rfl, rfl, rfl, trivial⟩ ?_
      refine c_dec (p := ((splitM dg J s).2) ≠ 0) rfl (fun h30 => ?_) (fun h30 => ?_)
      · skip
        refine c_seq ?_
        refine c_reg ?_
        refine s_val rfl rfl (r_mv rfl rfl) ?_
        refine s_val rfl rfl (r_mv rfl rfl) ?_
        refine s_val rfl rfl (r_as rfl rfl) ?_
        refine s_val rfl rfl (r_as rfl rfl) ?_
        refine s_val rfl rfl (r_as rfl rfl) ?_
        refine s_nil ?_
        refine q_then ?_
        refine c_env [(1, .pointer (some ⟨b26, 0, none⟩)), (2, .slice none 0 0), (3, .int .i64 ((splitM dg J s).2)), (4, .int .i64 ((s : Nat) : Int)), (17, .int .i64 ((J.us.length : Nat) : Int)), (18, .int .i64 ((s : Nat) : Int))] ⟨rfl, rfl, rfl, rfl, rfl, rfl, trivial⟩ ?_
        refine c_ret ?_
        refine q_blockR ?_
        refine q_thenR ?_
        refine q_thenR ?_
        refine q_blockR ?_
        refine q_thenR ?_
        refine q_ret3 rfl rfl rfl rfl ?_
        replace H := H.keep 0
        replace H := H.newnil (kHd kPair)
        have e : wholeM dg J = ([], (splitM dg J s).2, (s : Int)) := hgo.symm.trans (whole_bad (by omega) h30)
        replace H : Hd _ _ _ [osl (kHd kPair) (.slice none 0 0) []] [rsl (kHd kPair) (.slice A1 J.us.length c2) J.us, rsl kIns (.slice A6 J.map.length c7) J.map, rsl kIns (.slice A11 J.comb.length c12) J.comb, rsl kIns (.slice A16 J.red.length c17) J.red, rsl (kInt .i64) (.slice A21 J.marks.length c22) J.marks, gl] := H
        exact fin ⟨_, [], by rw [e], rfl, by rw [e]; rfl⟩ H
      · skip
        refine c_skip ?_
        refine q_blockN ?_
        refine q_then ?_
        refine c_env [(1, .pointer (some ⟨b26, 0, none⟩)), (17, .int .i64 ((J.us.length : Nat) : Int)), (18, .int .i64 ((s : Nat) : Int))] ⟨rfl, rfl, rfl, trivial⟩ ?_
        refine c_reg ?_
        refine s_val rfl rfl (r_add (z := ((s + 1 : Nat) : Int)) rfl rfl rfl (by rw [w64 (by omega) (by omega)]; omega)) ?_
        refine s_val rfl rfl (r_mv rfl rfl) ?_
        refine s_nil ?_
        replace H := H.pick 1 rfl
        replace H := H.keep 1
        have hg2 := (whole_on (by omega) h30).trans hgo
        have hs2 : ∀ q, q < s + 1 → (splitM dg J q).2 = 0 := fun q hq => by
          rcases Nat.lt_or_ge q s with h | h
          · exact hsp0 q h
          · obtain rfl : q = s := by omega
            exact Classical.not_not.1 h30
        exact q_round (s := s) (s + 1) ⟨rfl, rfl, rfl, trivial⟩ ⟨H, by (try dsimp only); omega, hg2, hs2⟩ (by (try dsimp only); omega)
    · skip
      refine c_exit ?_
      refine q_thenE ?_
      refine q_thenE ?_
      refine q_blockE ?_
      refine q_then ?_
      refine c_env [(1, .pointer (some ⟨b26, 0, none⟩))] ⟨rfl, trivial⟩ ?_
      refine c_seq ?_
      refine c_reg ?_
      refine s_val rfl rfl (r_as rfl rfl) ?_
      refine s_nil ?_
      refine q_then ?_
      refine c_env [(1, .pointer (some ⟨b26, 0, none⟩)), (8, .slice none 0 0)] ⟨rfl, rfl, trivial⟩ ?_
      refine c_seq ?_
      refine c_seq ?_
      refine c_reg ?_
      refine s_val rfl rfl (r_fa rfl fo43_1 rfl) ?_
      refine s_val rfl rfl (r_ld rfl ty3 rfl (H.cellI 0 rfl rfl)) ?_
      refine s_val rfl rfl (r_mv rfl rfl) ?_
      refine s_nil ?_
      refine q_then ?_
      refine c_env [(1, .pointer (some ⟨b26, 0, none⟩)), (8, .slice none 0 0), (33, .int .i64 J.parts), (34, .int .i64 0)] ⟨rfl, rfl, rfl, rfl, trivial⟩ ?_
      refine c_block ?_
      have hgp : partsGo dg J J.parts.toNat 0 [] = wholeM dg J := (whole_end (by omega)).symm.trans hgo
      have hsp : ∀ q, q < J.us.length → (splitM dg J q).2 = 0 := fun q hq => hsp0 q (by omega)
      replace H := H.newnil (kHd kPair)
      replace H := H.pick 1 rfl
      replace H := H.pick 1 rfl
      refine c_loop (σ := Nat × Value × List (Value × List Pair)) (fun (p, q, zs) => [(1, .pointer (some ⟨b26, 0, none⟩)), (8, q), (33, .int .i64 J.parts), (34, .int .i64 ((p : Nat) : Int))]) (fun (p, q, zs) w => (Hd w0 F0 w [osl (kHd kPair) q zs, blk b26 [.slice A1 J.us.length c2, .int .i64 J.parts, .slice A6 J.map.length c7, .slice A11 J.comb.length c12, .slice A16 J.red.length c17, .int .i64 J.chunk, .int .i64 J.window, .int .i64 J.fuel, .slice A21 J.marks.length c22] 43] [rsl (kHd kPair) (.slice A1 J.us.length c2) J.us, rsl kIns (.slice A6 J.map.length c7) J.map, rsl kIns (.slice A11 J.comb.length c12) J.comb, rsl kIns (.slice A16 J.red.length c17) J.red, rsl (kInt .i64) (.slice A21 J.marks.length c22) J.marks, gl]) ∧ ((p : Int) ≤ J.parts ∧ zs.length = p) ∧ (partsGo dg J (J.parts.toNat - p) p (zs.map (·.2)) = wholeM dg J)) (fun (p, q, zs) => J.parts.toNat - p) (0, .slice none 0 0, []) ⟨rfl, rfl, rfl, rfl, trivial⟩ ⟨H, ⟨by (try dsimp only); omega, rfl⟩, hgp⟩ ?_
      rintro ⟨p, q, zs⟩ w ⟨H, hp, hg⟩
      refine c_seq ?_
      refine c_reg ?_
      refine s_val rfl rfl (r_lt rfl rfl rfl) ?_
      refine s_nil ?_
      refine q_then ?_
      refine c_env [(1, .pointer (some ⟨b26, 0, none⟩)), (8, q), (33, .int .i64 J.parts), (34, .int .i64 ((p : Nat) : Int)), (35, .bool (decide (((p : Nat) : Int) < J.parts)))] ⟨rfl, rfl, rfl, rfl, rfl, trivial⟩ ?_
      refine c_seq ?_
      refine c_dec (p := ((p : Nat) : Int) < J.parts) rfl (fun h31 => ?_) (fun h31 => ?_)
      · skip
        refine c_skip ?_
        refine q_then ?_
        refine c_env [(1, .pointer (some ⟨b26, 0, none⟩)), (8, q), (33, .int .i64 J.parts), (34, .int .i64 ((p : Nat) : Int))] ⟨rfl, rfl, rfl, rfl, trivial⟩ ?_
        refine c_seq ?_
        refine c_block ?_
        refine c_seq ?_
        refine c_reg ?_
        refine s_val rfl rfl (r_mv rfl rfl) ?_
        refine s_val rfl rfl (r_as rfl rfl) ?_
        refine s_nil ?_
        refine q_then ?_
        refine c_env [(1, .pointer (some ⟨b26, 0, none⟩)), (8, q), (9, .int .i64 ((p : Nat) : Int)), (33, .int .i64 J.parts), (34, .int .i64 ((p : Nat) : Int))] ⟨rfl, rfl, rfl, rfl, rfl, trivial⟩ ?_
        refine c_seq ?_
        replace H := H.pick 1 rfl
        replace H := H.pick 1 rfl
        replace H : Hd _ _ _ [osl (kHd kPair) q zs, blk b26 [.slice A1 J.us.length c2, .int .i64 J.parts, .slice A6 J.map.length c7, .slice A11 J.comb.length c12, .slice A16 J.red.length c17, .int .i64 J.chunk, .int .i64 J.window, .int .i64 J.fuel, .slice A21 J.marks.length c22] 43] [rsl (kHd kPair) (.slice A1 J.us.length c2) J.us, rsl kIns (.slice A6 J.map.length c7) J.map, rsl kIns (.slice A11 J.comb.length c12) J.comb, rsl kIns (.slice A16 J.red.length c17) J.red, rsl (kInt .i64) (.slice A21 J.marks.length c22) J.marks, gl] := H
        refine c_ord (.e 0 (.e 1 (.e 2 (.e 3 (.e 4 (.m 5 (.m 6 (.e 7 (.e 8 (.e 9 (.e 10 (.e 11 .z)))))))))))) (fun w => ∃ Ar, Hd w0 F0 w (osl (kHd kPair) q zs :: blk b26 [.slice A1 J.us.length c2, .int .i64 J.parts, .slice A6 J.map.length c7, .slice A11 J.comb.length c12, .slice A16 J.red.length c17, .int .i64 J.chunk, .int .i64 J.window, .int .i64 J.fuel, .slice A21 J.marks.length c22] 43 :: Ar) [rsl (kHd kPair) (.slice A1 J.us.length c2) J.us, rsl kIns (.slice A6 J.map.length c7) J.map, rsl kIns (.slice A11 J.comb.length c12) J.comb, rsl kIns (.slice A16 J.red.length c17) J.red, rsl (kInt .i64) (.slice A21 J.marks.length c22) J.marks, gl]) mo (by kernel_rfl) (fun w H => ⟨_, H⟩) H (fun w H => ?_)
        refine d_val rfl rfl rfl (fun w ⟨Ar, H⟩ => r_ldA (cs := [.slice A1 J.us.length c2, .int .i64 J.parts, .slice A6 J.map.length c7, .slice A11 J.comb.length c12, .slice A16 J.red.length c17, .int .i64 J.chunk, .int .i64 J.window, .int .i64 J.fuel, .slice A21 J.marks.length c22]) rfl ty43 rfl rfl (H.cellsI 1 rfl rfl)) ?_
        refine d_val rfl rfl rfl (fun w ⟨Ar, H⟩ => r_mv rfl rfl) ?_
        refine d_val rfl rfl rfl (fun w ⟨Ar, H⟩ => r_fa rfl fo43_0 rfl) ?_
        refine d_val rfl rfl rfl (fun w ⟨Ar, H⟩ => r_ld rfl ty31 rfl (H.cellI 1 rfl rfl)) ?_
        refine d_val rfl rfl rfl (fun w ⟨Ar, H⟩ => r_lenL rfl un31 rfl) ?_
        refine d_main rfl ?_
        refine sc (all_ok J.us.length (by omega)) H l0 rfl rfl (e_fn kn48 rfl rfl) ?_
        rintro v32 _ w rfl H
        replace H := H.pick 2 rfl
        replace H := H.pick 2 rfl
        replace H : Hd _ _ _ [osl (kHd kPair) q zs, blk b26 [.slice A1 J.us.length c2, .int .i64 J.parts, .slice A6 J.map.length c7, .slice A11 J.comb.length c12, .slice A16 J.red.length c17, .int .i64 J.chunk, .int .i64 J.window, .int .i64 J.fuel, .slice A21 J.marks.length c22] 43, osl (kInt .i64) v32 (upto J.us.length)] [rsl (kHd kPair) (.slice A1 J.us.length c2) J.us, rsl kIns (.slice A6 J.map.length c7) J.map, rsl kIns (.slice A11 J.comb.length c12) J.comb, rsl kIns (.slice A16 J.red.length c17) J.red, rsl (kInt .i64) (.slice A21 J.marks.length c22) J.marks, gl] := H
        refine d_back ⟨_, H⟩ ?_
        refine d_main rfl ?_
        refine sc (part_ok (.slice A1 J.us.length c2) (.slice A6 J.map.length c7) (.slice A11 J.comb.length c12) (.slice A16 J.red.length c17) (.slice A21 J.marks.length c22) J hJ p (by omega) (by assumption) v32) H (lR 0 rfl (lR 1 rfl (lR 2 rfl (lR 3 rfl (lR 4 rfl (lA 2 rfl own_rd (lR 5 rfl l0))))))) rfl rfl (e_fn kn47 rfl rfl) ?_
        rintro _ _ w ⟨u33, rfl, rfl⟩ H
        replace H := H.pick 2 rfl
        replace H := H.pick 2 rfl
        replace H : Hd _ _ _ [osl (kHd kPair) q zs, blk b26 [.slice A1 J.us.length c2, .int .i64 J.parts, .slice A6 J.map.length c7, .slice A11 J.comb.length c12, .slice A16 J.red.length c17, .int .i64 J.chunk, .int .i64 J.window, .int .i64 J.fuel, .slice A21 J.marks.length c22] 43, osl kPair u33 ((partM dg J p).1), osl (kInt .i64) v32 (upto J.us.length)] [rsl (kHd kPair) (.slice A1 J.us.length c2) J.us, rsl kIns (.slice A6 J.map.length c7) J.map, rsl kIns (.slice A11 J.comb.length c12) J.comb, rsl kIns (.slice A16 J.red.length c17) J.red, rsl (kInt .i64) (.slice A21 J.marks.length c22) J.marks, gl] := H
        refine d_back ⟨_, H⟩ ?_
        refine d_val rfl rfl rfl (fun w ⟨Ar, H⟩ => r_mv rfl rfl) ?_
        refine d_val rfl rfl rfl (fun w ⟨Ar, H⟩ => r_ex rfl rfl rfl) ?_
        refine d_val rfl rfl rfl (fun w ⟨Ar, H⟩ => r_ex rfl rfl rfl) ?_
        refine d_val rfl rfl rfl (fun w ⟨Ar, H⟩ => r_as rfl rfl) ?_
        refine d_val rfl rfl rfl (fun w ⟨Ar, H⟩ => r_as rfl rfl) ?_
        refine d_nil ?_
        refine q_then ?_
        refine c_env [(1, .pointer (some ⟨b26, 0, none⟩)), (8, q), (9, .int .i64 ((p : Nat) : Int)), (10, u33), (11, .int .i64 ((partM dg J p).2)), (33, .int .i64 J.parts), (34, .int .i64 ((p : Nat) : Int))] ⟨rfl, rfl, rfl, rfl, rfl, rfl, rfl, trivial⟩ ?_
        refine c_seq ?_
        refine c_seq ?_
        refine c_reg ?_
        refine s_val rfl rfl (r_mv rfl rfl) ?_
        refine s_val rfl rfl (r_ne rfl rfl rfl) ?_
        refine s_nil ?_
        refine q_then ?_
        refine c_env [(1, .pointer (some ⟨b26, 0, none⟩)), (8, q), (9, .int .i64 ((p : Nat) : Int)), (10, u33), (11, .int .i64 ((partM dg J p).2)), (33, .int .i64 J.parts), (34, .int .i64 ((p : Nat) : Int)), (48, .bool (decide (((partM dg J p).2) ≠ 0)))] ⟨rfl, rfl, rfl, rfl, rfl, rfl, rfl, rfl, trivial⟩ ?_
        refine c_dec (p := ((partM dg J p).2) ≠ 0) rfl (fun h34 => ?_) (fun h34 => ?_)
        · skip
          refine c_seq ?_
          refine c_reg ?_
          refine s_val rfl rfl (r_mv rfl rfl) ?_
          refine s_val rfl rfl (r_mv rfl rfl) ?_
          refine s_val rfl rfl (r_as rfl rfl) ?_
          refine s_val rfl rfl (r_as rfl rfl) ?_
          refine s_val rfl rfl (r_as rfl rfl) ?_
          refine s_nil ?_
          refine q_then ?_
          refine c_env [(1, .pointer (some ⟨b26, 0, none⟩)), (2, .slice none 0 0), (3, .int .i64 ((partM dg J p).2)), (4, .int .i64 ((p : Nat) : Int)), (8, q), (10, u33), (33, .int .i64 J.parts), (34, .int .i64 ((p : Nat) : Int))] ⟨rfl, rfl, rfl, rfl, rfl, rfl, rfl, rfl, trivial⟩ ?_
          refine c_ret ?_
          refine q_thenR ?_
          refine q_blockR ?_
          refine q_thenR ?_
          refine q_thenR ?_
          refine q_blockR ?_
          refine q_thenR ?_
          refine q_ret3 rfl rfl rfl rfl ?_
          replace H := H.keep 0
          replace H := H.newnil (kHd kPair)
          have e : wholeM dg J = ([], (partM dg J p).2, (p : Int)) := hg.symm.trans (parts_bad2 (by omega) h34)
          replace H : Hd _ _ _ [osl (kHd kPair) (.slice none 0 0) []] [rsl (kHd kPair) (.slice A1 J.us.length c2) J.us, rsl kIns (.slice A6 J.map.length c7) J.map, rsl kIns (.slice A11 J.comb.length c12) J.comb, rsl kIns (.slice A16 J.red.length c17) J.red, rsl (kInt .i64) (.slice A21 J.marks.length c22) J.marks, gl] := H
          exact fin ⟨_, [], by rw [e], rfl, by rw [e]; rfl⟩ H
        · skip
          refine c_skip ?_
          refine q_then ?_
          refine c_env [(1, .pointer (some ⟨b26, 0, none⟩)), (8, q), (10, u33), (33, .int .i64 J.parts), (34, .int .i64 ((p : Nat) : Int))] ⟨rfl, rfl, rfl, rfl, rfl, trivial⟩ ?_
          refine c_reg ?_
          refine s_val rfl rfl (r_mv rfl rfl) ?_
          refine s_val rfl rfl (r_mv rfl rfl) ?_
          obtain ⟨A36, c37, rfl, hc38, hm39, hp40⟩ := H.fA 2 rfl
          refine s_bsl (parts := [(0, .tmp 52)]) (vs := [.slice A36 (((partM dg J p).1).length) c37]) (cs := [.slice A36 (((partM dg J p).1).length) c37]) rfl rfl rfl sl31 zr23 rfl (by decide) (by decide) rfl rfl H (fun b35 w H => ?_)
          replace H := H.pick 1 rfl
          replace H := H.pick 3 rfl
          replace H := H.pick 2 rfl
          replace H := H.pick 2 rfl
          replace H : Hd _ _ _ [osl (kHd kPair) q zs, blk b35 [.slice A36 (((partM dg J p).1).length) c37] 23, osl kPair (.slice A36 (((partM dg J p).1).length) c37) ((partM dg J p).1), blk b26 [.slice A1 J.us.length c2, .int .i64 J.parts, .slice A6 J.map.length c7, .slice A11 J.comb.length c12, .slice A16 J.red.length c17, .int .i64 J.chunk, .int .i64 J.window, .int .i64 J.fuel, .slice A21 J.marks.length c22] 43, osl (kInt .i64) v32 (upto J.us.length)] [rsl (kHd kPair) (.slice A1 J.us.length c2) J.us, rsl kIns (.slice A6 J.map.length c7) J.map, rsl kIns (.slice A11 J.comb.length c12) J.comb, rsl kIns (.slice A16 J.red.length c17) J.red, rsl (kInt .i64) (.slice A21 J.marks.length c22) J.marks, gl] := H
          refine s_appH rfl rfl rfl sl31 zr23 rfl (by decide) rfl rfl H (by first | omega | (simp only [List.length_append, List.length_cons, List.length_nil]; omega)) (fun v41 w H => ?_)
          refine s_val rfl rfl (r_as rfl rfl) ?_
          refine s_nil ?_
          refine q_blockN ?_
          refine q_then ?_
          replace H : Hd _ _ _ [osl (kHd kPair) v41 (zs ++ [(.slice A36 (((partM dg J p).1).length) c37, (partM dg J p).1)]), blk b26 [.slice A1 J.us.length c2, .int .i64 J.parts, .slice A6 J.map.length c7, .slice A11 J.comb.length c12, .slice A16 J.red.length c17, .int .i64 J.chunk, .int .i64 J.window, .int .i64 J.fuel, .slice A21 J.marks.length c22] 43, osl (kInt .i64) v32 (upto J.us.length)] [rsl (kHd kPair) (.slice A1 J.us.length c2) J.us, rsl kIns (.slice A6 J.map.length c7) J.map, rsl kIns (.slice A11 J.comb.length c12) J.comb, rsl kIns (.slice A16 J.red.length c17) J.red, rsl (kInt .i64) (.slice A21 J.marks.length c22) J.marks, gl] := H
          refine c_env [(1, .pointer (some ⟨b26, 0, none⟩)), (8, v41), (33, .int .i64 J.parts), (34, .int .i64 ((p : Nat) : Int))] ⟨rfl, rfl, rfl, rfl, trivial⟩ ?_
          refine c_reg ?_
          refine s_val rfl rfl (r_add (z := ((p + 1 : Nat) : Int)) rfl rfl rfl (by rw [w64 (by omega) (by omega)]; omega)) ?_
          refine s_val rfl rfl (r_mv rfl rfl) ?_
          refine s_nil ?_
          replace H := H.pick 1 rfl
          replace H := H.pick 1 rfl
          replace H := H.keep 2
          have hg2 : partsGo dg J (J.parts.toNat - (p + 1)) (p + 1) ((zs ++ [(.slice A36 (((partM dg J p).1).length) c37, (partM dg J p).1)] : List (Value × List Pair)).map (·.2)) = wholeM dg J := by rw [List.map_append]; exact (parts_on (by omega) h34).trans hg
          replace H := H.pick 1 rfl
          replace H := H.pick 1 rfl
          exact q_round (s := (p, undef, zs)) (p + 1, v41, zs ++ [(.slice A36 (((partM dg J p).1).length) c37, (partM dg J p).1)]) ⟨rfl, rfl, rfl, rfl, trivial⟩ ⟨H, by (try dsimp only); simp only [List.length_append, List.length_cons, List.length_nil]; omega, hg2⟩ (by (try dsimp only); omega)
      · skip
        refine c_exit ?_
        refine q_thenE ?_
        refine q_thenE ?_
        refine q_blockE ?_
        refine q_then ?_
        refine c_env [(8, q)] ⟨rfl, trivial⟩ ?_
        refine c_seq ?_
        refine c_reg ?_
        refine s_val rfl rfl (r_mv rfl rfl) ?_
        refine s_val rfl rfl (r_as rfl rfl) ?_
        refine s_val rfl rfl (r_as rfl rfl) ?_
        refine s_val rfl rfl (r_as rfl rfl) ?_
        refine s_nil ?_
        refine q_then ?_
        refine c_env [(2, q), (3, .int .i64 0), (4, .int .i64 0)] ⟨rfl, rfl, rfl, trivial⟩ ?_
        refine c_ret ?_
        refine q_ret3 rfl rfl rfl rfl ?_
        replace H := H.keep 1
        have e : wholeM dg J = (zs.map (·.2), 0, 0) := hg.symm.trans (parts_end (by omega))
        replace H : Hd _ _ _ [osl (kHd kPair) q zs] [rsl (kHd kPair) (.slice A1 J.us.length c2) J.us, rsl kIns (.slice A6 J.map.length c7) J.map, rsl kIns (.slice A11 J.comb.length c12) J.comb, rsl kIns (.slice A16 J.red.length c17) J.red, rsl (kInt .i64) (.slice A21 J.marks.length c22) J.marks, gl] := H
        exact fin ⟨_, _, by rw [e], rfl, by rw [e]⟩ H

end Go.Proofs.YtlpgdkbokakniaaGreatDoor.X

set_option linter.unusedVariables false
set_option linter.unusedSimpArgs false
namespace Go.Proofs.YtlpgdkbokakniaaGreatDoor.X
open Go
set_option maxHeartbeats 1000000 in
theorem smallF_ok  :
    Cn Tryz.prog 46 [] [] [] (fun v Bs => ∃ (b3 : Nat) (vP u : Value), v = .agg #[.slice (some ⟨b3, 0, none⟩) 1 1, .int .i64 1, vP, .slice none 0 0, vP, .int .i64 1, .int .i64 1, .int .i64 9, .slice none 0 0] ∧ Bs = [osl kIns vP firstP, osl kPair u smallR, blk b3 [u] 23]) := by
  intro w0 F0 H
  refine enter (args := []) Tryz.func46 rfl rfl (Nat.le_of_ble_eq_true rfl) ?_
  refine c_seq ?_
  refine c_reg ?_
  refine s_alloc rfl rfl rfl zr43 H (fun b1 w H => ?_)
  refine s_nil ?_
  refine q_then ?_
  replace H : Hd _ _ _ [blk b1 [.slice none 0 0, .int .i64 0, .slice none 0 0, .slice none 0 0, .slice none 0 0, .int .i64 0, .int .i64 0, .int .i64 0, .slice none 0 0] 43] [] := H
  refine c_env [(0, .pointer (some ⟨b1, 0, none⟩))] ⟨rfl, trivial⟩ ?_
  refine c_seq ?_
  refine c_reg ?_
  refine s_val rfl rfl (r_bd (parts := [(0, .const (.int .i64 6))]) (vs := [.int .i64 6]) (cs := [.int .i64 6, .int .i64 0, .string ⟨#[]⟩]) rfl bd29 rfl rfl) ?_
  refine s_val rfl rfl (r_bd (parts := [(0, .const (.int .i64 7))]) (vs := [.int .i64 7]) (cs := [.int .i64 7, .int .i64 0, .string ⟨#[]⟩]) rfl bd29 rfl rfl) ?_
  refine s_val rfl rfl (r_bd (parts := [(0, .const (.int .i64 4))]) (vs := [.int .i64 4]) (cs := [.int .i64 4, .int .i64 0, .string ⟨#[]⟩]) rfl bd29 rfl rfl) ?_
  refine s_val rfl rfl (r_bd (parts := [(0, .const (.int .i64 23))]) (vs := [.int .i64 23]) (cs := [.int .i64 23, .int .i64 0, .string ⟨#[]⟩]) rfl bd29 rfl rfl) ?_
  refine s_bsl (parts := [(0, .tmp 2), (1, .tmp 3), (2, .tmp 4), (3, .tmp 5)]) (vs := [.agg #[.int .i64 6, .int .i64 0, .string ⟨#[]⟩], .agg #[.int .i64 7, .int .i64 0, .string ⟨#[]⟩], .agg #[.int .i64 4, .int .i64 0, .string ⟨#[]⟩], .agg #[.int .i64 23, .int .i64 0, .string ⟨#[]⟩]]) (cs := [.int .i64 6, .int .i64 0, .string ⟨#[]⟩, .int .i64 7, .int .i64 0, .string ⟨#[]⟩, .int .i64 4, .int .i64 0, .string ⟨#[]⟩, .int .i64 23, .int .i64 0, .string ⟨#[]⟩]) rfl rfl rfl sl22 zr29 rfl (by decide) (by decide) rfl rfl H (fun b2 w H => ?_)
  refine s_val rfl rfl (r_as rfl rfl) ?_
  refine s_nil ?_
  refine q_then ?_
  replace H : Hd _ _ _ [blk b2 [.int .i64 6, .int .i64 0, .string ⟨#[]⟩, .int .i64 7, .int .i64 0, .string ⟨#[]⟩, .int .i64 4, .int .i64 0, .string ⟨#[]⟩, .int .i64 23, .int .i64 0, .string ⟨#[]⟩] 29, blk b1 [.slice none 0 0, .int .i64 0, .slice none 0 0, .slice none 0 0, .slice none 0 0, .int .i64 0, .int .i64 0, .int .i64 0, .slice none 0 0] 43] [] := H
  refine c_env [(0, .pointer (some ⟨b1, 0, none⟩)), (1, .slice (some ⟨b2, 0, none⟩) 4 4)] ⟨rfl, rfl, trivial⟩ ?_
  refine c_seq ?_
  refine c_reg ?_
  refine s_val rfl rfl (r_bd (parts := [(0, .const (.string ⟨#[98]⟩)), (1, .const (.string ⟨#[49]⟩))]) (vs := [.string ⟨#[98]⟩, .string ⟨#[49]⟩]) (cs := [.string ⟨#[98]⟩, .string ⟨#[49]⟩]) rfl bd56 rfl rfl) ?_
  refine s_val rfl rfl (r_bd (parts := [(0, .const (.string ⟨#[97]⟩)), (1, .const (.string ⟨#[50]⟩))]) (vs := [.string ⟨#[97]⟩, .string ⟨#[50]⟩]) (cs := [.string ⟨#[97]⟩, .string ⟨#[50]⟩]) rfl bd56 rfl rfl) ?_
  refine s_bsl (parts := [(0, .tmp 7), (1, .tmp 8)]) (vs := [.agg #[.string ⟨#[98]⟩, .string ⟨#[49]⟩], .agg #[.string ⟨#[97]⟩, .string ⟨#[50]⟩]]) (cs := [.string ⟨#[98]⟩, .string ⟨#[49]⟩, .string ⟨#[97]⟩, .string ⟨#[50]⟩]) rfl rfl rfl sl23 zr56 rfl (by decide) (by decide) rfl rfl H (fun b3 w H => ?_)
  refine s_bsl (parts := [(0, .tmp 9)]) (vs := [.slice (some ⟨b3, 0, none⟩) 2 2]) (cs := [.slice (some ⟨b3, 0, none⟩) 2 2]) rfl rfl rfl sl31 zr23 rfl (by decide) (by decide) rfl rfl H (fun b4 w H => ?_)
  refine s_val rfl rfl (r_mv rfl rfl) ?_
  refine s_val rfl rfl (r_mv rfl rfl) ?_
  refine s_val rfl rfl (r_bd (parts := [(0, .tmp 10), (1, .const (.int .i64 1)), (2, .tmp 11), (4, .tmp 12), (5, .const (.int .i64 1)), (6, .const (.int .i64 1)), (7, .const (.int .i64 9))]) (vs := [.slice (some ⟨b4, 0, none⟩) 1 1, .int .i64 1, .slice (some ⟨b2, 0, none⟩) 4 4, .slice (some ⟨b2, 0, none⟩) 4 4, .int .i64 1, .int .i64 1, .int .i64 9]) (cs := [.slice (some ⟨b4, 0, none⟩) 1 1, .int .i64 1, .slice (some ⟨b2, 0, none⟩) 4 4, .slice none 0 0, .slice (some ⟨b2, 0, none⟩) 4 4, .int .i64 1, .int .i64 1, .int .i64 9, .slice none 0 0]) rfl bd43 rfl rfl) ?_
  replace H := H.pick 3 rfl
  refine s_st rfl rfl rfl ty43 rfl rfl H rfl (Nat.le_of_ble_eq_true rfl) (fun u hu => by simp [Value.cells] at hu; rcases hu with rfl | rfl | rfl | rfl | rfl | rfl | rfl | rfl | rfl <;> rfl) (fun w H => ?_)
  replace H : Hd _ _ _ [blk b1 [.slice (some ⟨b4, 0, none⟩) 1 1, .int .i64 1, .slice (some ⟨b2, 0, none⟩) 4 4, .slice none 0 0, .slice (some ⟨b2, 0, none⟩) 4 4, .int .i64 1, .int .i64 1, .int .i64 9, .slice none 0 0] 43, blk b4 [.slice (some ⟨b3, 0, none⟩) 2 2] 23, blk b3 [.string ⟨#[98]⟩, .string ⟨#[49]⟩, .string ⟨#[97]⟩, .string ⟨#[50]⟩] 56, blk b2 [.int .i64 6, .int .i64 0, .string ⟨#[]⟩, .int .i64 7, .int .i64 0, .string ⟨#[]⟩, .int .i64 4, .int .i64 0, .string ⟨#[]⟩, .int .i64 23, .int .i64 0, .string ⟨#[]⟩] 29] [] := H
  refine s_nil ?_
  refine q_then ?_
  refine c_env [(0, .pointer (some ⟨b1, 0, none⟩))] ⟨rfl, trivial⟩ ?_
  refine c_ret ?_
  refine q_retC (cs := [.slice (some ⟨b4, 0, none⟩) 1 1, .int .i64 1, .slice (some ⟨b2, 0, none⟩) 4 4, .slice none 0 0, .slice (some ⟨b2, 0, none⟩) 4 4, .int .i64 1, .int .i64 1, .int .i64 9, .slice none 0 0]) rfl rfl ty43 rfl (H.cellsI 0 rfl rfl) ?_
  replace H := H.pick 2 rfl
  replace H : Hd _ _ _ [blk b3 [.string ⟨#[98]⟩, .string ⟨#[49]⟩, .string ⟨#[97]⟩, .string ⟨#[50]⟩] 56, blk b1 [.slice (some ⟨b4, 0, none⟩) 1 1, .int .i64 1, .slice (some ⟨b2, 0, none⟩) 4 4, .slice none 0 0, .slice (some ⟨b2, 0, none⟩) 4 4, .int .i64 1, .int .i64 1, .int .i64 9, .slice none 0 0] 43, blk b4 [.slice (some ⟨b3, 0, none⟩) 2 2] 23, blk b2 [.int .i64 6, .int .i64 0, .string ⟨#[]⟩, .int .i64 7, .int .i64 0, .string ⟨#[]⟩, .int .i64 4, .int .i64 0, .string ⟨#[]⟩, .int .i64 23, .int .i64 0, .string ⟨#[]⟩] 29] [] := H
  replace H : Hd w0 F0 w [osl kPair (.slice (some ⟨b3, 0, none⟩) 2 2) smallR, blk b1 [.slice (some ⟨b4, 0, none⟩) 1 1, .int .i64 1, .slice (some ⟨b2, 0, none⟩) 4 4, .slice none 0 0, .slice (some ⟨b2, 0, none⟩) 4 4, .int .i64 1, .int .i64 1, .int .i64 9, .slice none 0 0] 43, blk b4 [.slice (some ⟨b3, 0, none⟩) 2 2] 23, blk b2 [.int .i64 6, .int .i64 0, .string ⟨#[]⟩, .int .i64 7, .int .i64 0, .string ⟨#[]⟩, .int .i64 4, .int .i64 0, .string ⟨#[]⟩, .int .i64 23, .int .i64 0, .string ⟨#[]⟩] 29] [] := H.turn (fun F h => blk_osl h rfl (by decide) rfl)
  replace H := H.pick 3 rfl
  replace H : Hd _ _ _ [blk b2 [.int .i64 6, .int .i64 0, .string ⟨#[]⟩, .int .i64 7, .int .i64 0, .string ⟨#[]⟩, .int .i64 4, .int .i64 0, .string ⟨#[]⟩, .int .i64 23, .int .i64 0, .string ⟨#[]⟩] 29, osl kPair (.slice (some ⟨b3, 0, none⟩) 2 2) smallR, blk b1 [.slice (some ⟨b4, 0, none⟩) 1 1, .int .i64 1, .slice (some ⟨b2, 0, none⟩) 4 4, .slice none 0 0, .slice (some ⟨b2, 0, none⟩) 4 4, .int .i64 1, .int .i64 1, .int .i64 9, .slice none 0 0] 43, blk b4 [.slice (some ⟨b3, 0, none⟩) 2 2] 23] [] := H
  replace H : Hd w0 F0 w [osl kIns (.slice (some ⟨b2, 0, none⟩) 4 4) firstP, osl kPair (.slice (some ⟨b3, 0, none⟩) 2 2) smallR, blk b1 [.slice (some ⟨b4, 0, none⟩) 1 1, .int .i64 1, .slice (some ⟨b2, 0, none⟩) 4 4, .slice none 0 0, .slice (some ⟨b2, 0, none⟩) 4 4, .int .i64 1, .int .i64 1, .int .i64 9, .slice none 0 0] 43, blk b4 [.slice (some ⟨b3, 0, none⟩) 2 2] 23] [] := H.turn (fun F h => blk_osl h rfl (by decide) rfl)
  replace H := H.pick 3 rfl
  replace H := H.pick 2 rfl
  replace H := H.pick 2 rfl
  replace H := H.keep 3
  replace H := H.pick 2 rfl
  replace H := H.pick 2 rfl
  replace H := H.pick 2 rfl
  replace H : Hd _ _ _ [osl kIns (.slice (some ⟨b2, 0, none⟩) 4 4) firstP, osl kPair (.slice (some ⟨b3, 0, none⟩) 2 2) smallR, blk b4 [.slice (some ⟨b3, 0, none⟩) 2 2] 23] [] := H
  exact fin ⟨_, _, _, rfl, rfl⟩ H

set_option maxHeartbeats 4000000 in
theorem awake13_ok  :
    Cn Tryz.prog 23 [] [] [gl] (fun v Bs => v = .bool true ∧ Bs = []) := by
  intro w0 F0 H
  refine enter (args := []) Tryz.func23 rfl rfl (Nat.le_of_ble_eq_true rfl) ?_
  refine c_seq ?_
  refine c_reg ?_
  refine s_val rfl rfl (r_as rfl rfl) ?_
  refine s_nil ?_
  refine q_then ?_
  refine c_env [(0, .bool false)] ⟨rfl, trivial⟩ ?_
  refine c_seq ?_
  refine c_reg ?_
  refine sc smallF_ok H l0 rfl rfl (e_fn kn46 rfl rfl) ?_
  rintro _ _ w ⟨b1, v2, u3, rfl, rfl⟩ H
  refine sc (split_ok (.slice (some ⟨b1, 0, none⟩) 1 1) v2 (.slice none 0 0) v2 (.slice none 0 0) (smallJ u3) (small_ok u3) 0 (show 0 < 1 by decide)) H (lX (fun F hA hR => one_rsl (hA _ (List.mem_of_getElem? (i := 2) rfl)) (own_rd F (hA _ (List.mem_of_getElem? (i := 1) rfl)))) (lA 0 rfl own_rd (lX (fun F _ _ => rsl_nil _ _ F trivial (by decide)) (lA 0 rfl own_rd (lX (fun F _ _ => rsl_nil _ _ F trivial (by decide)) (lR 0 rfl l0)))))) rfl rfl (e_fn kn25 rfl rfl) ?_
  rintro _ _ w ⟨u4, rfl, rfl⟩ H
  rw [small_split] at H ⊢
  replace H : Hd w0 F0 w [osl kPair u4 wantR, osl kIns v2 firstP, osl kPair u3 smallR, blk b1 [u3] 23] [gl] := H
  refine s_val rfl rfl (r_mv rfl rfl) ?_
  refine s_val rfl rfl (r_ex rfl rfl rfl) ?_
  refine s_val rfl rfl (r_ex rfl rfl rfl) ?_
  refine s_val rfl rfl (r_as rfl rfl) ?_
  refine s_val rfl rfl (r_as rfl rfl) ?_
  refine s_nil ?_
  refine q_then ?_
  refine c_env [(0, .bool false), (1, u4), (2, .int .i64 0)] ⟨rfl, rfl, rfl, trivial⟩ ?_
  refine c_seq ?_
  refine c_reg ?_
  refine sc smallF_ok H l0 rfl rfl (e_fn kn46 rfl rfl) ?_
  rintro _ _ w ⟨b5, v6, u7, rfl, rfl⟩ H
  refine sc (whole_ok (.slice (some ⟨b5, 0, none⟩) 1 1) v6 (.slice none 0 0) v6 (.slice none 0 0) (smallJ u7) (small_ok u7)) H (lX (fun F hA hR => one_rsl (hA _ (List.mem_of_getElem? (i := 2) rfl)) (own_rd F (hA _ (List.mem_of_getElem? (i := 1) rfl)))) (lA 0 rfl own_rd (lX (fun F _ _ => rsl_nil _ _ F trivial (by decide)) (lA 0 rfl own_rd (lX (fun F _ _ => rsl_nil _ _ F trivial (by decide)) (lR 0 rfl l0)))))) rfl rfl (e_fn kn24 rfl rfl) ?_
  rintro _ _ w ⟨u8, zs9, rfl, rfl, hz10⟩ H
  rw [small_whole] at hz10 ⊢
  refine s_val rfl rfl (r_mv rfl rfl) ?_
  refine s_val rfl rfl (r_ex rfl rfl rfl) ?_
  refine s_val rfl rfl (r_ex rfl rfl rfl) ?_
  refine s_val rfl rfl (r_ex rfl rfl rfl) ?_
  refine s_val rfl rfl (r_as rfl rfl) ?_
  refine s_val rfl rfl (r_as rfl rfl) ?_
  refine s_val rfl rfl (r_as rfl rfl) ?_
  refine s_nil ?_
  refine q_then ?_
  replace H : Hd _ _ _ [osl (kHd kPair) u8 zs9, osl kIns v6 firstP, osl kPair u7 smallR, blk b5 [u7] 23, osl kPair u4 wantR, osl kIns v2 firstP, osl kPair u3 smallR, blk b1 [u3] 23] [gl] := H
  refine c_env [(0, .bool false), (1, u4), (2, .int .i64 0), (3, u8), (4, .int .i64 0), (5, .int .i64 0)] ⟨rfl, rfl, rfl, rfl, rfl, rfl, trivial⟩ ?_
  refine c_seq ?_
  refine c_reg ?_
  refine s_val rfl rfl (r_bd (parts := [(0, .const (.string ⟨#[97]⟩)), (1, .const (.string ⟨#[50]⟩))]) (vs := [.string ⟨#[97]⟩, .string ⟨#[50]⟩]) (cs := [.string ⟨#[97]⟩, .string ⟨#[50]⟩]) rfl bd56 rfl rfl) ?_
  refine s_val rfl rfl (r_bd (parts := [(0, .const (.string ⟨#[98]⟩)), (1, .const (.string ⟨#[49]⟩))]) (vs := [.string ⟨#[98]⟩, .string ⟨#[49]⟩]) (cs := [.string ⟨#[98]⟩, .string ⟨#[49]⟩]) rfl bd56 rfl rfl) ?_
  refine s_bsl (parts := [(0, .tmp 18), (1, .tmp 19)]) (vs := [.agg #[.string ⟨#[97]⟩, .string ⟨#[50]⟩], .agg #[.string ⟨#[98]⟩, .string ⟨#[49]⟩]]) (cs := [.string ⟨#[97]⟩, .string ⟨#[50]⟩, .string ⟨#[98]⟩, .string ⟨#[49]⟩]) rfl rfl rfl sl23 zr56 rfl (by decide) (by decide) rfl rfl H (fun b11 w H => ?_)
  refine s_val rfl rfl (r_as rfl rfl) ?_
  refine s_nil ?_
  refine q_then ?_
  replace H : Hd _ _ _ [blk b11 [.string ⟨#[97]⟩, .string ⟨#[50]⟩, .string ⟨#[98]⟩, .string ⟨#[49]⟩] 56, osl (kHd kPair) u8 zs9, osl kIns v6 firstP, osl kPair u7 smallR, blk b5 [u7] 23, osl kPair u4 wantR, osl kIns v2 firstP, osl kPair u3 smallR, blk b1 [u3] 23] [gl] := H
  refine c_env [(0, .bool false), (1, u4), (2, .int .i64 0), (3, u8), (4, .int .i64 0), (5, .int .i64 0), (6, .slice (some ⟨b11, 0, none⟩) 2 2)] ⟨rfl, rfl, rfl, rfl, rfl, rfl, rfl, trivial⟩ ?_
  refine c_seq ?_
  replace H : Hd w0 F0 w [osl kPair (.slice (some ⟨b11, 0, none⟩) 2 2) wantR, osl (kHd kPair) u8 zs9, osl kIns v6 firstP, osl kPair u7 smallR, blk b5 [u7] 23, osl kPair u4 wantR, osl kIns v2 firstP, osl kPair u3 smallR, blk b1 [u3] 23] [gl] := H.turn (fun F h => blk_osl h rfl (by decide) rfl)
  refine c_reg ?_
  refine s_val rfl rfl (r_mv rfl rfl) ?_
  refine s_val rfl rfl (r_mv rfl rfl) ?_
  refine sc (samePairs_ok u4 (.slice (some ⟨b11, 0, none⟩) 2 2) wantR wantR) H (lA 5 rfl own_rd (lA 0 rfl own_rd l0)) rfl rfl (e_fn kn19 rfl rfl) ?_
  rintro _ _ w ⟨rfl, rfl⟩ H
  refine s_val rfl rfl (r_mv rfl rfl) ?_
  refine s_dec (d := 24) (p := wantR = wantR) rfl (fun h12 => ?_) (fun h12 => ?_)
  · skip
    refine s_val rfl rfl (r_mv rfl rfl) ?_
    refine s_val rfl rfl (r_eq rfl rfl rfl) ?_
    refine s_val rfl rfl (r_pickT rfl rfl rfl) ?_
    refine s_val rfl rfl (r_mv rfl rfl) ?_
    refine s_val rfl rfl (r_mv rfl rfl) ?_
    refine s_val rfl rfl (r_mv rfl rfl) ?_
    refine s_bsl (parts := [(0, .tmp 30)]) (vs := [.slice (some ⟨b11, 0, none⟩) 2 2]) (cs := [.slice (some ⟨b11, 0, none⟩) 2 2]) rfl rfl rfl sl31 zr23 rfl (by decide) (by decide) rfl rfl H (fun b13 w H => ?_)
    refine sc (sameRuns_ok u8 zs9 (.slice (some ⟨b13, 0, none⟩) 1 1) [(.slice (some ⟨b11, 0, none⟩) 2 2, wantR)]) H (lA 2 rfl own_rd (lX (fun F hA hR => one_rsl (hA _ (List.mem_of_getElem? (i := 0) rfl)) (own_rd F (hA _ (List.mem_of_getElem? (i := 1) rfl)))) l0)) rfl rfl (e_fn kn29 rfl rfl) ?_
    rintro _ _ w ⟨rfl, rfl⟩ H
    refine s_val rfl rfl (r_pickT rfl rfl rfl) ?_
    refine s_val rfl rfl (r_mv rfl rfl) ?_
    refine s_dec (d := 34) (p := (zs9 : List (Value × List Pair)).map (·.2) = ([(.slice (some ⟨b11, 0, none⟩) 2 2, wantR)] : List (Value × List Pair)).map (·.2)) rfl (fun h14 => ?_) (fun h14 => ?_)
    · skip
      refine s_val rfl rfl (r_mv rfl rfl) ?_
      refine s_val rfl rfl (r_eq rfl rfl rfl) ?_
      refine s_val rfl rfl (r_pickT rfl rfl rfl) ?_
      refine s_val rfl rfl (r_mv rfl rfl) ?_
      refine s_val rfl rfl (r_mv rfl rfl) ?_
      refine s_val rfl rfl (r_eq rfl rfl rfl) ?_
      refine s_val rfl rfl (r_pickT rfl rfl rfl) ?_
      refine s_val rfl rfl (r_as rfl rfl) ?_
      refine s_nil ?_
      refine q_then ?_
      replace H : Hd _ _ _ [blk b13 [.slice (some ⟨b11, 0, none⟩) 2 2] 23, osl kPair (.slice (some ⟨b11, 0, none⟩) 2 2) wantR, osl (kHd kPair) u8 zs9, osl kIns v6 firstP, osl kPair u7 smallR, blk b5 [u7] 23, osl kPair u4 wantR, osl kIns v2 firstP, osl kPair u3 smallR, blk b1 [u3] 23] [gl] := H
      refine c_env [(0, .bool true)] ⟨rfl, trivial⟩ ?_
      refine c_ret ?_
      refine q_ret1 rfl rfl ?_
      replace H := H.keep 0
      replace H : Hd _ _ _ [] [gl] := H
      exact fin ⟨rfl, rfl⟩ H
    · exact (h14 (by rw [hz10]; rfl)).elim
  · exact (h12 rfl).elim

end Go.Proofs.YtlpgdkbokakniaaGreatDoor.X

set_option linter.unusedVariables false
namespace Go.Proofs.YtlpgdkbokakniaaGreatDoor.X
open Go
theorem Cn.heads0 {α : Type} {d : Kd α} {P : Program} {f : FuncId} {args : List Value} {v : Value} {ss : List (List α)} {Rs : List SP} {T : Value → List SP → Prop}
    (h : ∀ us : List (Value × List α), us.map (·.2) = ss → Cn P f args [] (rsl (kHd d) v us :: rsl (kSl d) v ss :: Rs) T) : Cn P f args [] (rsl (kSl d) v ss :: Rs) T := by
  intro w F H
  obtain ⟨us, hus, H2⟩ := H.heads 0 rfl
  refine (h us hus w F H2).mono ?_
  rintro e W' ⟨v, rfl, Bs, t, H⟩
  exact ⟨v, rfl, Bs, t, H.dropR⟩
theorem opens_job {P : Program} {t s i c m : TypeId} {W1 : List (List Pair) → Prop} {W2 : List Ins → Prop} {W3 : List Int → Prop}
    (hs : stOf P t = some [(s, 0, 1), (i, 1, 1), (c, 2, 1), (c, 3, 1), (c, 4, 1), (i, 5, 1), (i, 6, 1), (i, 7, 1), (m, 8, 1)]) (hc : P.cellsOf t = 9) (hi : P.underlying i = some (.int .i64))
    (h1 : Opens P s (kSl (kSl kPair)) W1) (h2 : Opens P c (kSl kIns) W2) (h3 : Opens P m (kSl (kInt .i64)) W3)
    {H : Type} (enc : TypeId × Value → H) (w : World) (fuel : Nat) (cs : List Value) (x : DataW H × List MemPlace) (h : DataW.trod enc P w 0 (fun _ => true) true fuel t cs = some x) :
    ∃ (vS : Value) (ss : List (List Pair)) (n1 : Int) (vM : Value) (map : List Ins) (vC : Value) (comb : List Ins) (vR : Value) (red : List Ins) (n5 n6 n7 : Int) (vK : Value) (marks : List Int),
      cs = [vS, .int .i64 n1, vM, vC, vR, .int .i64 n5, .int .i64 n6, .int .i64 n7, vK] ∧ ((rsl (kSl kPair) vS ss).P w (Old w) ∧ (rsl kIns vM map).P w (Old w) ∧ (rsl kIns vC comb).P w (Old w) ∧ (rsl kIns vR red).P w (Old w) ∧ (rsl (kInt .i64) vK marks).P w (Old w)) ∧
      (W1 ss ∧ W2 map ∧ W2 comb ∧ W2 red ∧ W3 marks) ∧ (In64 n1 ∧ In64 n5 ∧ In64 n6 ∧ In64 n7) := by
  obtain ⟨hl, n, hf⟩ := open_st hs h
  rw [hc] at hl
  match cs, hl with
  | [c0, c1, c2, c3, c4, c5, c6, c7, c8], _ =>
    obtain ⟨y0, g0⟩ := hf 0 _ _ _ rfl
    obtain ⟨y1, g1⟩ := hf 1 _ _ _ rfl
    obtain ⟨y2, g2⟩ := hf 2 _ _ _ rfl
    obtain ⟨y3, g3⟩ := hf 3 _ _ _ rfl
    obtain ⟨y4, g4⟩ := hf 4 _ _ _ rfl
    obtain ⟨y5, g5⟩ := hf 5 _ _ _ rfl
    obtain ⟨y6, g6⟩ := hf 6 _ _ _ rfl
    obtain ⟨y7, g7⟩ := hf 7 _ _ _ rfl
    obtain ⟨y8, g8⟩ := hf 8 _ _ _ rfl
    obtain ⟨a0, r0, w0⟩ := h1 enc w n _ _ g0
    obtain ⟨a1, r1, w1⟩ := opens_int hi enc w n _ _ g1
    obtain ⟨a2, r2, w2⟩ := h2 enc w n _ _ g2
    obtain ⟨a3, r3, w3⟩ := h2 enc w n _ _ g3
    obtain ⟨a4, r4, w4⟩ := h2 enc w n _ _ g4
    obtain ⟨a5, r5, w5⟩ := opens_int hi enc w n _ _ g5
    obtain ⟨a6, r6, w6⟩ := opens_int hi enc w n _ _ g6
    obtain ⟨a7, r7, w7⟩ := opens_int hi enc w n _ _ g7
    obtain ⟨a8, r8, w8⟩ := h3 enc w n _ _ g8
    have q1 : [c1] = [Value.int .i64 a1] := r1
    have q5 : [c5] = [Value.int .i64 a5] := r5
    have q6 : [c6] = [Value.int .i64 a6] := r6
    have q7 : [c7] = [Value.int .i64 a7] := r7
    simp only [List.cons.injEq, and_true] at q1 q5 q6 q7
    subst q1 q5 q6 q7
    exact ⟨c0, a0, a1, c2, a2, c3, a3, c4, a4, a5, a6, a7, c8, a8, rfl, ⟨r0, r2, r3, r4, r8⟩, ⟨w0, w2, w3, w4, w8⟩, w1, w5, w6, w7⟩
end Go.Proofs.YtlpgdkbokakniaaGreatDoor.X

set_option linter.unusedVariables false
namespace Go.Proofs.YtlpgdkbokakniaaGreatDoor.X
open Go
def altJ (J : Job) (cb : List Ins) (ch wi fu : Int) (mk : List Int) : Job := ⟨J.us, J.parts, J.map, cb, J.red, ch, wi, fu, mk⟩
theorem ok_alt {J : Job} (h : OkJ J) {cb : List Ins} {ch wi fu : Int} {mk : List Int} (h1 : badI cb < 0) (h2 : ∀ i ∈ cb, In64 i.a) (h3 : 1 ≤ ch ∧ ch ≤ 7) (h4 : 1 ≤ wi ∧ wi ≤ 4) (h5 : 1 ≤ fu ∧ fu ≤ 2000) (h6 : mk.length ≤ 4) (h7 : marksUp J.us.length 0 mk) : OkJ (altJ J cb ch wi fu mk) := by
  obtain ⟨g1, g2, g3, g4, g5, g6, g7, g8, g9, g10, g11⟩ := h.may
  exact ⟨⟨g1, g2, h6, g4, h7, g6, g7, h1, h3, h4, h5⟩, h.map, h2, h.red⟩
theorem OkJ.chunk {J : Job} (h : OkJ J) : 1 ≤ J.chunk ∧ J.chunk ≤ 7 := h.may.2.2.2.2.2.2.2.2.1
theorem OkJ.window {J : Job} (h : OkJ J) : 1 ≤ J.window ∧ J.window ≤ 4 := h.may.2.2.2.2.2.2.2.2.2.1
theorem OkJ.marks {J : Job} (h : OkJ J) : J.marks.length ≤ 4 ∧ marksUp J.us.length 0 J.marks := ⟨h.may.2.2.1, h.may.2.2.2.2.1⟩
section
variable {D : Dig}
theorem allOf_congr {J K : Job} {p : Int} (hp : J.parts = K.parts) : ∀ (k : Nat), (∀ s, s < k → (splitM D J s).1 = (splitM D K s).1) → allOf D J p k = allOf D K p k
  | 0, _ => rfl
  | k + 1, h => by
    unfold allOf onlyM
    rw [allOf_congr hp k fun s hs => h s (by omega), h k (by omega), hp]
theorem partsGo_congr {J K : Job} : ∀ (k p : Nat) (out : List (List Pair)), (∀ q : Nat, p ≤ q → q < p + k → partM D J q = partM D K q) → partsGo D J k p out = partsGo D K k p out
  | 0, _, _, _ => rfl
  | k + 1, p, out, h => by
    unfold partsGo
    rw [h p (Nat.le_refl _) (by omega)]
    split
    · rfl
    · exact partsGo_congr k (p + 1) _ fun q h1 h2 => h q (by omega) (by omega)
theorem wholeGo_congr {J K : Job} (hp : J.parts = K.parts) (h2 : ∀ q : Nat, q < J.parts.toNat → partM D J q = partM D K q) : ∀ (k s : Nat), (∀ q, s ≤ q → q < s + k → splitM D J q = splitM D K q) → wholeGo D J k s = wholeGo D K k s
  | 0, _, _ => by
    show partsGo D J J.parts.toNat 0 [] = partsGo D K K.parts.toNat 0 []
    rw [← hp]
    exact partsGo_congr _ _ _ fun q _ hq => h2 q (by omega)
  | k + 1, s, h => by
    unfold wholeGo
    rw [h s (Nat.le_refl _) (by omega)]
    split
    · rfl
    · exact wholeGo_congr hp h2 k (s + 1) fun q h1 h3 => h q (by omega) (by omega)
theorem whole_of {J K : Job} (hu : J.us.length = K.us.length) (hp : J.parts = K.parts) (h1 : ∀ s, s < J.us.length → splitM D J s = splitM D K s) (h2 : ∀ q : Nat, q < J.parts.toNat → partM D J q = partM D K q) : wholeM D J = wholeM D K := by
  unfold wholeM
  rw [← hu]
  exact wholeGo_congr hp h2 _ _ fun q _ hq => h1 q (by omega)
/-! ### More fuel -/
end
end Go.Proofs.YtlpgdkbokakniaaGreatDoor.X

set_option linter.unusedVariables false
namespace Go.Proofs.YtlpgdkbokakniaaGreatDoor.X
open Go
def combP : List Ins := [⟨7, 0, ⟨#[]⟩⟩, ⟨20, 3, ⟨#[]⟩⟩, ⟨0, 0, ⟨#[]⟩⟩, ⟨22, 0, ⟨#[]⟩⟩, ⟨6, 0, ⟨#[]⟩⟩, ⟨21, 0, ⟨#[]⟩⟩, ⟨23, 0, ⟨#[]⟩⟩, ⟨19, 0, ⟨#[]⟩⟩]
theorem combP_in64 : ∀ i ∈ combP, In64 i.a := by
  intro i hi
  simp only [combP, List.mem_cons, List.not_mem_nil, or_false] at hi
  rcases hi with rfl | rfl | rfl | rfl | rfl | rfl | rfl | rfl <;> (unfold In64; decide)
theorem combP_bad : badI combP < 0 := by decide +kernel
theorem bad_nil : badI [] < 0 := by decide +kernel
theorem pushM_ok {stk vs : List Val} (h : ∀ v ∈ vs, bigV v = false) (hl : stk.length + vs.length ≤ 16) : pushM stk vs = (0, stk ++ vs) := by
  unfold pushM
  rw [if_neg (fun g => by obtain ⟨v, hv, hb⟩ := List.any_eq_true.1 g; rw [h v hv] at hb; cases hb), if_neg (by omega)]
theorem big_txt {s : ByteArray} (h : s.size ≤ 64) : bigV (vtxt s) = false := by
  unfold bigV vtxt
  simp; exact h
section
variable {D : Dig} {key : ByteArray} {p : Int} {g : Nat → Val} {t : List Pair} {vs : List ByteArray} {v : ByteArray}
theorem st_none : doesM D key ⟨p, false, [], g, t, []⟩ ⟨7, 0, ⟨#[]⟩⟩ = (⟨p, false, [vint 0], g, t, []⟩, 0) := by
  refine Eq.trans (does_act (by exact (show ¬ (0 : Int) ≠ 0 by decide))) (Eq.trans (act_7 (by rfl)) ?_)
  rfl
theorem st_next (hv : v.size ≤ 64) : doesM D key ⟨p, false, [], g, t, v :: vs⟩ ⟨7, 0, ⟨#[]⟩⟩ = (⟨p, false, [vtxt v, vint 1], g, t, vs⟩, 0) := by
  refine Eq.trans (does_act (by exact (show ¬ (0 : Int) ≠ 0 by decide))) (Eq.trans (act_7 (by rfl)) ?_)
  show pushV ⟨p, false, [], g, t, vs⟩ [vtxt v, vint 1] = _
  unfold pushV
  rw [pushM_ok (fun x hx => by
    rcases List.mem_cons.1 hx with rfl | hx
    · exact big_txt hv
    · rw [List.mem_singleton.1 hx]; rfl) (Nat.le_of_ble_eq_true rfl)]
  rfl
theorem st_no : doesM D key ⟨p, false, [vint 0], g, t, vs⟩ ⟨20, 3, ⟨#[]⟩⟩ = (⟨p, false, [], g, t, vs⟩, 0) := by
  refine Eq.trans (does_act (by exact (show ¬ (0 : Int) ≠ 0 by decide))) (Eq.trans (act_20 (by rfl)) ?_)
  rfl
theorem st_yes : doesM D key ⟨p, false, [vtxt v, vint 1], g, t, vs⟩ ⟨20, 3, ⟨#[]⟩⟩ = (⟨3, false, [vtxt v], g, t, vs⟩, 0) := by
  refine Eq.trans (does_act (by exact (show ¬ (0 : Int) ≠ 0 by decide))) (Eq.trans (act_20 (by rfl)) ?_)
  rfl
theorem st_halt : doesM D key ⟨p, false, [], g, t, vs⟩ ⟨0, 0, ⟨#[]⟩⟩ = (⟨p, true, [], g, t, vs⟩, 0) := by
  refine Eq.trans (does_act (by exact (show ¬ (0 : Int) ≠ 0 by decide))) (Eq.trans (act_0 (by rfl)) ?_)
  rfl
theorem st_store : doesM D key ⟨p, false, [vtxt v], g, t, vs⟩ ⟨22, 0, ⟨#[]⟩⟩ = (⟨p, false, [], setG g 0 (vtxt v), t, vs⟩, 0) := by
  refine Eq.trans (does_act (by exact (show ¬ (0 : Int) ≠ 0 by decide))) (Eq.trans (act_22 (by rfl)) ?_)
  rfl
theorem st_key (hk : key.size ≤ 16) : doesM D key ⟨p, false, [], g, t, vs⟩ ⟨6, 0, ⟨#[]⟩⟩ = (⟨p, false, [vtxt key], g, t, vs⟩, 0) := by
  refine Eq.trans (does_act (by exact (show ¬ (0 : Int) ≠ 0 by decide))) (Eq.trans (act_6 (by rfl)) ?_)
  show pushV ⟨p, false, [], g, t, vs⟩ [vtxt key] = _
  unfold pushV
  rw [pushM_ok (fun x hx => by rw [List.mem_singleton.1 hx]; exact big_txt (by omega)) (Nat.le_of_ble_eq_true rfl)]
  rfl
theorem st_load (hv : v.size ≤ 64) : doesM D key ⟨p, false, [vtxt key], setG g 0 (vtxt v), t, vs⟩ ⟨21, 0, ⟨#[]⟩⟩ = (⟨p, false, [vtxt key, vtxt v], setG g 0 (vtxt v), t, vs⟩, 0) := by
  refine Eq.trans (does_act (by exact (show ¬ (0 : Int) ≠ 0 by decide))) (Eq.trans (act_21 (by rfl)) ?_)
  show pushV ⟨p, false, [vtxt key], setG g 0 (vtxt v), t, vs⟩ [vtxt v] = _
  unfold pushV
  rw [pushM_ok (fun x hx => by rw [List.mem_singleton.1 hx]; exact big_txt hv) (Nat.le_of_ble_eq_true rfl)]
  rfl
theorem st_emit (hk : key.size ≤ 16) (ht : t.length < 40) : doesM D key ⟨p, false, [vtxt key, vtxt v], g, t, vs⟩ ⟨23, 0, ⟨#[]⟩⟩ = (⟨p, false, [], g, t ++ [⟨key, v⟩], vs⟩, 0) := by
  refine Eq.trans (does_act (by exact (show ¬ (0 : Int) ≠ 0 by decide))) (Eq.trans (act_23 (by rfl)) ?_)
  show (({pos := p, halted := false, stk := [], g := g, told := (emitM t key v).2, vals := vs} : VM), (emitM t key v).1) = _
  unfold emitM
  rw [if_neg (by omega), if_neg (by omega)]
theorem st_jump : doesM D key ⟨p, false, [], g, t, vs⟩ ⟨19, 0, ⟨#[]⟩⟩ = (⟨0, false, [], g, t, vs⟩, 0) := by
  refine Eq.trans (does_act (by exact (show ¬ (0 : Int) ≠ 0 by decide))) (Eq.trans (act_19 (by rfl)) ?_)
  rfl
theorem play_one {q : List Ins} {k : Nat} {m m' : VM} {i : Ins} (hc : m.pos < q.length ∧ m.halted = false) (hi : q[m.pos.toNat]? = some i) (hd : doesM D key {m with pos := m.pos + 1} i = (m', 0)) : playM D q key (k + 1) m = playM D q key k m' := by
  rw [play_go hc hi (by rw [hd]; exact fun h => h rfl), hd]
theorem comb_play (hk : key.size ≤ 16) (n : Nat) : ∀ (vs : List ByteArray) (g : Nat → Val) (t : List Pair), (∀ v ∈ vs, v.size ≤ 64) → t.length + vs.length ≤ 40 →
    ∃ m', playM D combP key (7 * vs.length + 3 + n) ⟨0, false, [], g, t, vs⟩ = (m', 0) ∧ m'.told = t ++ vs.map fun v => (⟨key, v⟩ : Pair)
  | [], g, t, _, _ => by
    refine ⟨⟨3, true, [], g, t, []⟩, ?_, (List.append_nil _).symm⟩
    rw [show 7 * ([] : List ByteArray).length + 3 + n = (n + 2) + 1 by simp; omega, play_one (m' := ⟨1, false, [vint 0], g, t, []⟩) ⟨show (0 : Int) < 8 by decide, rfl⟩ rfl st_none, show n + 2 = (n + 1) + 1 from rfl, play_one (m' := ⟨2, false, [], g, t, []⟩) ⟨show (1 : Int) < 8 by decide, rfl⟩ rfl st_no, play_one (m' := ⟨3, true, [], g, t, []⟩) ⟨show (2 : Int) < 8 by decide, rfl⟩ rfl st_halt, play_stop _ (fun h => by cases h.2)]
  | v :: vs, g, t, hv, ht => by
    have hv0 := hv v (List.mem_cons_self ..)
    rw [List.length_cons] at ht
    obtain ⟨m', h1, h2⟩ := comb_play hk n vs (setG g 0 (vtxt v)) (t ++ [⟨key, v⟩]) (fun x hx => hv x (List.mem_cons_of_mem _ hx)) (by rw [List.length_append, List.length_cons, List.length_nil]; omega)
    refine ⟨m', ?_, by rw [h2, List.append_assoc]; rfl⟩
    rw [show 7 * (v :: vs).length + 3 + n = (7 * vs.length + 3 + n) + 1 + 1 + 1 + 1 + 1 + 1 + 1 by rw [List.length_cons]; omega]
    rw [play_one (m' := ⟨1, false, [vtxt v, vint 1], g, t, vs⟩) ⟨show (0 : Int) < 8 by decide, rfl⟩ rfl (st_next hv0),
      play_one (m' := ⟨3, false, [vtxt v], g, t, vs⟩) ⟨show (1 : Int) < 8 by decide, rfl⟩ rfl st_yes,
      play_one (m' := ⟨4, false, [], setG g 0 (vtxt v), t, vs⟩) ⟨show (3 : Int) < 8 by decide, rfl⟩ rfl st_store,
      play_one (m' := ⟨5, false, [vtxt key], setG g 0 (vtxt v), t, vs⟩) ⟨show (4 : Int) < 8 by decide, rfl⟩ rfl (st_key hk),
      play_one (m' := ⟨6, false, [vtxt key, vtxt v], setG g 0 (vtxt v), t, vs⟩) ⟨show (5 : Int) < 8 by decide, rfl⟩ rfl (st_load hv0),
      play_one (m' := ⟨7, false, [], setG g 0 (vtxt v), t ++ [⟨key, v⟩], vs⟩) ⟨show (6 : Int) < 8 by decide, rfl⟩ rfl (st_emit hk (show t.length < 40 by omega)),
      play_one (m' := ⟨0, false, [], setG g 0 (vtxt v), t ++ [⟨key, v⟩], vs⟩) ⟨show (7 : Int) < 8 by decide, rfl⟩ rfl st_jump]
    exact h1
theorem comb_run (hk : key.size ≤ 16) (hv : ∀ v ∈ vs, v.size ≤ 64) (hl : vs.length ≤ 40) : runM D combP key vs 2000 = (vs.map fun v => (⟨key, v⟩ : Pair), 0) := by
  obtain ⟨m', h1, h2⟩ := comb_play (D := D) hk (2000 - (7 * vs.length + 3)) vs (fun _ => val0) [] hv (by simpa using hl)
  rw [show 7 * vs.length + 3 + (2000 - (7 * vs.length + 3)) = 2000 by omega] at h1
  unfold runM
  rw [if_neg (fun h => h.elim (fun h => h combP_bad) (by decide))]
  show (if (playM D combP key 2000 (vm0 vs)).2 ≠ 0 then _ else ((playM D combP key 2000 (vm0 vs)).1.told, (0 : Int))) = _
  rw [show playM D combP key 2000 (vm0 vs) = (m', 0) from h1, if_neg (by simp), h2]
  rfl
theorem comb_go {ps : List Pair} (hp : mayL ps) (hl : ps.length ≤ 40) : ∀ (ks : List ByteArray) (i : Nat), (keysL ps).drop i = ks → eachGo D combP ps 2000 true ks (flatP ps ((keysL ps).take i)) = (flatP ps (keysL ps), 0)
  | [], i, hd => by
    have : (keysL ps).length ≤ i := by
      have := congrArg List.length hd
      rw [List.length_drop] at this
      have h0 : ([] : List ByteArray).length = 0 := rfl
      omega
    rw [List.take_of_length_le this]; rfl
  | k :: ks, i, hd => by
    have hi : (keysL ps)[i]? = some k := by
      have := congrArg (·[0]?) hd
      simpa using this
    have hm : k ∈ ps.map (·.key) := (comp_mem _ _).1 (at_mem hi)
    obtain ⟨q, hq, rfl⟩ := List.mem_map.1 hm
    have hr : runM D combP q.key (ofL ps q.key) 2000 = (pairsOf ps q.key, 0) := comb_run (hp q hq).1 (fun v hv => by
      unfold ofL at hv
      obtain ⟨x, hx, rfl⟩ := List.mem_map.1 hv
      exact (hp x (List.mem_filter.1 hx).1).2) (Nat.le_trans (ofL_len _ _) hl)
    have hf := flatP_step (ps := ps) hi
    have hn := flatP_lenK ps (i + 1)
    rw [hf, List.length_append] at hn
    unfold eachGo
    rw [hr, if_neg (by simp), if_neg, if_neg (by show ¬ 40 < _ + (pairsOf ps q.key).length; omega)]
    · show eachGo D combP ps 2000 true ks (flatP ps ((keysL ps).take i) ++ pairsOf ps q.key) = _
      rw [← hf]
      exact comb_go hp hl ks (i + 1) (by rw [← List.drop_drop, hd]; rfl)
    · rintro ⟨_, h⟩
      obtain ⟨x, hx, hb⟩ := List.any_eq_true.1 h
      exact (of_decide_eq_true hb) (pairsOf_key hx)
theorem comb_plain {ps : List Pair} (hp : mayL ps) (hl : ps.length ≤ 40) : combM D combP ps 2000 = combM D [] ps 2000 := by
  have h1 : combM D combP ps 2000 = eachM D combP ps 2000 true := if_neg (by decide)
  have h2 : combM D [] ps 2000 = (srt ps, 0) := if_pos rfl
  rw [h1, h2, ← flat_srt, ← keys_ref]
  exact comb_go hp hl _ 0 rfl
theorem split_plain (hD : ∀ s : ByteArray, In64 (D.num s)) {J : Job} (hJ : OkJ J) (ch wi : Int) (mk : List Int) (s : Nat) : splitM D (altJ J combP ch wi 2000 mk) s = splitM D (altJ J [] ch wi 2000 mk) s := by
  unfold splitM
  have e : mapM D (altJ J combP ch wi 2000 mk) s = mapM D (altJ J [] ch wi 2000 mk) s := rfl
  rw [e]
  split
  · rfl
  · exact comb_plain (map_small hD hJ.map _ _ fun q hq => by cases hq) (mapM_len _ _ _)
theorem whole_plain (hD : ∀ s : ByteArray, In64 (D.num s)) {J : Job} (hJ : OkJ J) (ch wi : Int) (mk : List Int) : wholeM D (altJ J combP ch wi 2000 mk) = wholeM D (altJ J [] ch wi 2000 mk) := by
  refine whole_of rfl rfl (fun s _ => split_plain hD hJ ch wi mk s) fun q _ => ?_
  show eachM D J.red (srt (allOf D (altJ J combP ch wi 2000 mk) q J.us.length)) 2000 false = eachM D J.red (srt (allOf D (altJ J [] ch wi 2000 mk) q J.us.length)) 2000 false
  rw [allOf_congr (D := D) (J := altJ J combP ch wi 2000 mk) (K := altJ J [] ch wi 2000 mk) rfl _ fun s _ => by rw [split_plain hD hJ ch wi mk s]]
end
end Go.Proofs.YtlpgdkbokakniaaGreatDoor.X

set_option linter.unusedVariables false
set_option linter.unusedSimpArgs false
namespace Go.Proofs.YtlpgdkbokakniaaGreatDoor.X
open Go
set_option maxHeartbeats 4000000 in
theorem modelPlainC_ok (vS vM vC vR vK : Value) (J : Job) (ss : List (List Pair)) (gm : ∀ i ∈ J.map, In64 i.a) (gc : ∀ i ∈ J.comb, In64 i.a) (gr : ∀ i ∈ J.red, In64 i.a) (p : Int) :
    Cn Tryz.prog 6 [.agg #[vS, .int .i64 J.parts, vM, vC, vR, .int .i64 J.chunk, .int .i64 J.window, .int .i64 J.fuel, vK], .int .i64 p] [] [rsl (kHd kPair) vS J.us, rsl (kSl kPair) vS ss, rsl kIns vM J.map, rsl kIns vC J.comb, rsl kIns vR J.red, rsl (kInt .i64) vK J.marks, gl] (fun v Bs => v = .bool true ∧ Bs = []) := by
  intro w0 F0 H
  obtain ⟨A1, c2, rfl, hc3, hm4, hp5⟩ := H.fR 0 rfl
  obtain ⟨A6, c7, rfl, hc8, hm9, hp10⟩ := H.fR 2 rfl
  obtain ⟨A11, c12, rfl, hc13, hm14, hp15⟩ := H.fR 3 rfl
  obtain ⟨A16, c17, rfl, hc18, hm19, hp20⟩ := H.fR 4 rfl
  obtain ⟨A21, c22, rfl, hc23, hm24, hp25⟩ := H.fR 5 rfl
  refine enter (args := [.agg #[.slice A1 J.us.length c2, .int .i64 J.parts, .slice A6 J.map.length c7, .slice A11 J.comb.length c12, .slice A16 J.red.length c17, .int .i64 J.chunk, .int .i64 J.window, .int .i64 J.fuel, .slice A21 J.marks.length c22], .int .i64 p]) Tryz.func6 rfl rfl (Nat.le_of_ble_eq_true rfl) ?_
  refine c_seq ?_
  refine c_reg ?_
  refine s_box rfl rfl rfl rfl H (fun b26 w H => ?_)
  refine s_val rfl rfl (r_as rfl rfl) ?_
  refine s_nil ?_
  refine q_then ?_
  replace H : Hd _ _ _ [blk b26 [.slice A1 J.us.length c2, .int .i64 J.parts, .slice A6 J.map.length c7, .slice A11 J.comb.length c12, .slice A16 J.red.length c17, .int .i64 J.chunk, .int .i64 J.window, .int .i64 J.fuel, .slice A21 J.marks.length c22] 43] [rsl (kHd kPair) (.slice A1 J.us.length c2) J.us, rsl (kSl kPair) (.slice A1 J.us.length c2) ss, rsl kIns (.slice A6 J.map.length c7) J.map, rsl kIns (.slice A11 J.comb.length c12) J.comb, rsl kIns (.slice A16 J.red.length c17) J.red, rsl (kInt .i64) (.slice A21 J.marks.length c22) J.marks, gl] := H
  refine c_env [(2, .pointer (some ⟨b26, 0, none⟩)), (4, .bool false)] ⟨rfl, rfl, trivial⟩ ?_
  refine c_seq ?_
  refine c_seq ?_
  refine c_reg ?_
  refine s_val rfl rfl (r_ldA (cs := [.slice A1 J.us.length c2, .int .i64 J.parts, .slice A6 J.map.length c7, .slice A11 J.comb.length c12, .slice A16 J.red.length c17, .int .i64 J.chunk, .int .i64 J.window, .int .i64 J.fuel, .slice A21 J.marks.length c22]) rfl ty43 rfl rfl (H.cellsI 0 rfl rfl)) ?_
  refine sc (greatJob_ok (.slice A1 J.us.length c2) (.slice A6 J.map.length c7) (.slice A11 J.comb.length c12) (.slice A16 J.red.length c17) (.slice A21 J.marks.length c22) J) H (lR 0 rfl (lR 2 rfl (lR 3 rfl (lR 4 rfl (lR 5 rfl l0))))) rfl rfl (e_fn kn21 rfl rfl) ?_
  rintro _ _ w ⟨rfl, rfl⟩ H
  refine s_val rfl rfl (r_mv rfl rfl) ?_
  refine s_boo (d := 20) (b := greatJ J) rfl (fun h27 => ?_) (fun h27 => ?_)
  · skip
    refine s_no rfl rfl ?_
    refine s_no rfl rfl ?_
    refine s_no rfl rfl ?_
    refine s_val rfl rfl (r_pickT rfl rfl rfl) ?_
    refine s_nil ?_
    refine q_then ?_
    refine c_env [(2, .pointer (some ⟨b26, 0, none⟩)), (4, .bool false), (24, .bool true)] ⟨rfl, rfl, rfl, trivial⟩ ?_
    refine c_yes rfl ?_
    refine c_seq ?_
    refine c_reg ?_
    refine sc awake13_ok H (lR 6 rfl l0) rfl rfl (e_fn kn23 rfl rfl) ?_
    rintro _ _ w ⟨rfl, rfl⟩ H
    refine s_val rfl rfl (r_as rfl rfl) ?_
    refine s_nil ?_
    refine q_then ?_
    refine c_env [(2, .pointer (some ⟨b26, 0, none⟩)), (4, .bool true)] ⟨rfl, rfl, trivial⟩ ?_
    refine c_ret ?_
    refine q_thenR ?_
    refine q_ret1 rfl rfl ?_
    replace H := H.keep 0
    replace H : Hd _ _ _ [] [rsl (kHd kPair) (.slice A1 J.us.length c2) J.us, rsl (kSl kPair) (.slice A1 J.us.length c2) ss, rsl kIns (.slice A6 J.map.length c7) J.map, rsl kIns (.slice A11 J.comb.length c12) J.comb, rsl kIns (.slice A16 J.red.length c17) J.red, rsl (kInt .i64) (.slice A21 J.marks.length c22) J.marks, gl] := H
    exact fin ⟨rfl, rfl⟩ H
  · skip
    refine s_val rfl rfl (r_ldA (cs := [.slice A1 J.us.length c2, .int .i64 J.parts, .slice A6 J.map.length c7, .slice A11 J.comb.length c12, .slice A16 J.red.length c17, .int .i64 J.chunk, .int .i64 J.window, .int .i64 J.fuel, .slice A21 J.marks.length c22]) rfl ty43 rfl rfl (H.cellsI 0 rfl rfl)) ?_
    refine sc (jmay_ok (.slice A1 J.us.length c2) (.slice A6 J.map.length c7) (.slice A11 J.comb.length c12) (.slice A16 J.red.length c17) (.slice A21 J.marks.length c22) J) H (lR 0 rfl (lR 2 rfl (lR 3 rfl (lR 4 rfl (lR 5 rfl l0))))) rfl rfl (e_fn kn22 rfl rfl) ?_
    rintro _ _ w ⟨rfl, rfl⟩ H
    refine s_val rfl rfl (r_notP rfl rfl) ?_
    refine s_val rfl rfl (r_pickF rfl rfl rfl) ?_
    refine s_nil ?_
    refine q_then ?_
    refine c_env [(2, .pointer (some ⟨b26, 0, none⟩)), (4, .bool false), (24, .bool (decide (¬ (mayJ J))))] ⟨rfl, rfl, rfl, trivial⟩ ?_
    refine c_dec (p := ¬ (mayJ J)) rfl (fun h28 => ?_) (fun h28 => ?_)
    · skip
      refine c_seq ?_
      refine c_reg ?_
      refine sc awake13_ok H (lR 6 rfl l0) rfl rfl (e_fn kn23 rfl rfl) ?_
      rintro _ _ w ⟨rfl, rfl⟩ H
      refine s_val rfl rfl (r_as rfl rfl) ?_
      refine s_nil ?_
      refine q_then ?_
      refine c_env [(2, .pointer (some ⟨b26, 0, none⟩)), (4, .bool true)] ⟨rfl, rfl, trivial⟩ ?_
      refine c_ret ?_
      refine q_thenR ?_
      refine q_ret1 rfl rfl ?_
      replace H := H.keep 0
      replace H : Hd _ _ _ [] [rsl (kHd kPair) (.slice A1 J.us.length c2) J.us, rsl (kSl kPair) (.slice A1 J.us.length c2) ss, rsl kIns (.slice A6 J.map.length c7) J.map, rsl kIns (.slice A11 J.comb.length c12) J.comb, rsl kIns (.slice A16 J.red.length c17) J.red, rsl (kInt .i64) (.slice A21 J.marks.length c22) J.marks, gl] := H
      exact fin ⟨rfl, rfl⟩ H
    · skip
      refine c_skip ?_
      refine q_then ?_
      refine c_env [(2, .pointer (some ⟨b26, 0, none⟩)), (4, .bool false)] ⟨rfl, rfl, trivial⟩ ?_
      refine c_seq ?_
      have hJ : OkJ J := ⟨Classical.not_not.1 h28, gm, gc, gr⟩
      have hus := hJ.us
      have hpt := hJ.parts
      have hfu := hJ.fuel
      refine c_reg ?_
      refine s_val rfl rfl (r_fa rfl fo43_7 rfl) ?_
      refine s_st rfl rfl rfl ty3 rfl rfl H rfl (Nat.le_of_ble_eq_true rfl) (fun u hu => by simp [Value.cells] at hu; subst hu; rfl) (fun w H => ?_)
      replace H : Hd _ _ _ [blk b26 [.slice A1 J.us.length c2, .int .i64 J.parts, .slice A6 J.map.length c7, .slice A11 J.comb.length c12, .slice A16 J.red.length c17, .int .i64 J.chunk, .int .i64 J.window, .int .i64 2000, .slice A21 J.marks.length c22] 43] [rsl (kHd kPair) (.slice A1 J.us.length c2) J.us, rsl (kSl kPair) (.slice A1 J.us.length c2) ss, rsl kIns (.slice A6 J.map.length c7) J.map, rsl kIns (.slice A11 J.comb.length c12) J.comb, rsl kIns (.slice A16 J.red.length c17) J.red, rsl (kInt .i64) (.slice A21 J.marks.length c22) J.marks, gl] := H
      refine s_nil ?_
      refine q_then ?_
      refine c_env [(2, .pointer (some ⟨b26, 0, none⟩)), (4, .bool false)] ⟨rfl, rfl, trivial⟩ ?_
      refine c_seq ?_
      refine c_ord (.e 0 (.e 1 (.b 2 3 (.m 3 (.m 4 (.m 5 .z))) (.m 2 (.m 4 (.m 5 .z)))))) (fun w => ∃ Ar, Hd w0 F0 w (blk b26 [.slice A1 J.us.length c2, .int .i64 J.parts, .slice A6 J.map.length c7, .slice A11 J.comb.length c12, .slice A16 J.red.length c17, .int .i64 J.chunk, .int .i64 J.window, .int .i64 2000, .slice A21 J.marks.length c22] 43 :: Ar) [rsl (kHd kPair) (.slice A1 J.us.length c2) J.us, rsl (kSl kPair) (.slice A1 J.us.length c2) ss, rsl kIns (.slice A6 J.map.length c7) J.map, rsl kIns (.slice A11 J.comb.length c12) J.comb, rsl kIns (.slice A16 J.red.length c17) J.red, rsl (kInt .i64) (.slice A21 J.marks.length c22) J.marks, gl]) mo (by kernel_rfl) (fun w H => ⟨_, H⟩) H (fun w H => ?_)
      refine d_val rfl rfl rfl (fun w ⟨Ar, H⟩ => r_ldA (cs := [.slice A1 J.us.length c2, .int .i64 J.parts, .slice A6 J.map.length c7, .slice A11 J.comb.length c12, .slice A16 J.red.length c17, .int .i64 J.chunk, .int .i64 J.window, .int .i64 2000, .slice A21 J.marks.length c22]) rfl ty43 rfl rfl (H.cellsI 0 rfl rfl)) ?_
      refine d_val rfl rfl rfl (fun w ⟨Ar, H⟩ => r_ldA (cs := [.slice A1 J.us.length c2, .int .i64 J.parts, .slice A6 J.map.length c7, .slice A11 J.comb.length c12, .slice A16 J.red.length c17, .int .i64 J.chunk, .int .i64 J.window, .int .i64 2000, .slice A21 J.marks.length c22]) rfl ty43 rfl rfl (H.cellsI 0 rfl rfl)) ?_
      refine d_both rfl rfl ?_ ?_
      · skip
        refine s_alloc rfl rfl rfl zr43 H (fun b29 w H => ?_)
        replace H := H.pick 1 rfl
        replace H : Hd _ _ _ [blk b26 [.slice A1 J.us.length c2, .int .i64 J.parts, .slice A6 J.map.length c7, .slice A11 J.comb.length c12, .slice A16 J.red.length c17, .int .i64 J.chunk, .int .i64 J.window, .int .i64 2000, .slice A21 J.marks.length c22] 43, blk b29 [.slice none 0 0, .int .i64 0, .slice none 0 0, .slice none 0 0, .slice none 0 0, .int .i64 0, .int .i64 0, .int .i64 0, .slice none 0 0] 43] [rsl (kHd kPair) (.slice A1 J.us.length c2) J.us, rsl (kSl kPair) (.slice A1 J.us.length c2) ss, rsl kIns (.slice A6 J.map.length c7) J.map, rsl kIns (.slice A11 J.comb.length c12) J.comb, rsl kIns (.slice A16 J.red.length c17) J.red, rsl (kInt .i64) (.slice A21 J.marks.length c22) J.marks, gl] := H
        refine d_back ⟨_, H⟩ ?_
        refine d_main rfl ?_
        refine s_alloc rfl rfl rfl zr43 H (fun b30 w H => ?_)
        replace H := H.pick 1 rfl
        replace H : Hd _ _ _ [blk b26 [.slice A1 J.us.length c2, .int .i64 J.parts, .slice A6 J.map.length c7, .slice A11 J.comb.length c12, .slice A16 J.red.length c17, .int .i64 J.chunk, .int .i64 J.window, .int .i64 2000, .slice A21 J.marks.length c22] 43, blk b30 [.slice none 0 0, .int .i64 0, .slice none 0 0, .slice none 0 0, .slice none 0 0, .int .i64 0, .int .i64 0, .int .i64 0, .slice none 0 0] 43, blk b29 [.slice none 0 0, .int .i64 0, .slice none 0 0, .slice none 0 0, .slice none 0 0, .int .i64 0, .int .i64 0, .int .i64 0, .slice none 0 0] 43] [rsl (kHd kPair) (.slice A1 J.us.length c2) J.us, rsl (kSl kPair) (.slice A1 J.us.length c2) ss, rsl kIns (.slice A6 J.map.length c7) J.map, rsl kIns (.slice A11 J.comb.length c12) J.comb, rsl kIns (.slice A16 J.red.length c17) J.red, rsl (kInt .i64) (.slice A21 J.marks.length c22) J.marks, gl] := H
        refine d_back ⟨_, H⟩ ?_
        refine d_main rfl ?_
        replace H := H.pick 2 rfl
        refine s_st rfl rfl rfl ty43 rfl rfl H rfl (Nat.le_of_ble_eq_true rfl) (fun u hu => by simp [Value.cells] at hu; rcases hu with rfl | rfl | rfl | rfl | rfl | rfl | rfl | rfl | rfl <;> rfl) (fun w H => ?_)
        replace H : Hd _ _ _ [blk b29 [.slice A1 J.us.length c2, .int .i64 J.parts, .slice A6 J.map.length c7, .slice A11 J.comb.length c12, .slice A16 J.red.length c17, .int .i64 J.chunk, .int .i64 J.window, .int .i64 2000, .slice A21 J.marks.length c22] 43, blk b26 [.slice A1 J.us.length c2, .int .i64 J.parts, .slice A6 J.map.length c7, .slice A11 J.comb.length c12, .slice A16 J.red.length c17, .int .i64 J.chunk, .int .i64 J.window, .int .i64 2000, .slice A21 J.marks.length c22] 43, blk b30 [.slice none 0 0, .int .i64 0, .slice none 0 0, .slice none 0 0, .slice none 0 0, .int .i64 0, .int .i64 0, .int .i64 0, .slice none 0 0] 43] [rsl (kHd kPair) (.slice A1 J.us.length c2) J.us, rsl (kSl kPair) (.slice A1 J.us.length c2) ss, rsl kIns (.slice A6 J.map.length c7) J.map, rsl kIns (.slice A11 J.comb.length c12) J.comb, rsl kIns (.slice A16 J.red.length c17) J.red, rsl (kInt .i64) (.slice A21 J.marks.length c22) J.marks, gl] := H
        replace H := H.pick 1 rfl
        replace H : Hd _ _ _ [blk b26 [.slice A1 J.us.length c2, .int .i64 J.parts, .slice A6 J.map.length c7, .slice A11 J.comb.length c12, .slice A16 J.red.length c17, .int .i64 J.chunk, .int .i64 J.window, .int .i64 2000, .slice A21 J.marks.length c22] 43, blk b29 [.slice A1 J.us.length c2, .int .i64 J.parts, .slice A6 J.map.length c7, .slice A11 J.comb.length c12, .slice A16 J.red.length c17, .int .i64 J.chunk, .int .i64 J.window, .int .i64 2000, .slice A21 J.marks.length c22] 43, blk b30 [.slice none 0 0, .int .i64 0, .slice none 0 0, .slice none 0 0, .slice none 0 0, .int .i64 0, .int .i64 0, .int .i64 0, .slice none 0 0] 43] [rsl (kHd kPair) (.slice A1 J.us.length c2) J.us, rsl (kSl kPair) (.slice A1 J.us.length c2) ss, rsl kIns (.slice A6 J.map.length c7) J.map, rsl kIns (.slice A11 J.comb.length c12) J.comb, rsl kIns (.slice A16 J.red.length c17) J.red, rsl (kInt .i64) (.slice A21 J.marks.length c22) J.marks, gl] := H
        refine d_back ⟨_, H⟩ ?_
        refine d_main rfl ?_
        replace H := H.pick 2 rfl
        refine s_st rfl rfl rfl ty43 rfl rfl H rfl (Nat.le_of_ble_eq_true rfl) (fun u hu => by simp [Value.cells] at hu; rcases hu with rfl | rfl | rfl | rfl | rfl | rfl | rfl | rfl | rfl <;> rfl) (fun w H => ?_)
        replace H : Hd _ _ _ [blk b30 [.slice A1 J.us.length c2, .int .i64 J.parts, .slice A6 J.map.length c7, .slice A11 J.comb.length c12, .slice A16 J.red.length c17, .int .i64 J.chunk, .int .i64 J.window, .int .i64 2000, .slice A21 J.marks.length c22] 43, blk b26 [.slice A1 J.us.length c2, .int .i64 J.parts, .slice A6 J.map.length c7, .slice A11 J.comb.length c12, .slice A16 J.red.length c17, .int .i64 J.chunk, .int .i64 J.window, .int .i64 2000, .slice A21 J.marks.length c22] 43, blk b29 [.slice A1 J.us.length c2, .int .i64 J.parts, .slice A6 J.map.length c7, .slice A11 J.comb.length c12, .slice A16 J.red.length c17, .int .i64 J.chunk, .int .i64 J.window, .int .i64 2000, .slice A21 J.marks.length c22] 43] [rsl (kHd kPair) (.slice A1 J.us.length c2) J.us, rsl (kSl kPair) (.slice A1 J.us.length c2) ss, rsl kIns (.slice A6 J.map.length c7) J.map, rsl kIns (.slice A11 J.comb.length c12) J.comb, rsl kIns (.slice A16 J.red.length c17) J.red, rsl (kInt .i64) (.slice A21 J.marks.length c22) J.marks, gl] := H
        replace H := H.pick 1 rfl
        replace H : Hd _ _ _ [blk b26 [.slice A1 J.us.length c2, .int .i64 J.parts, .slice A6 J.map.length c7, .slice A11 J.comb.length c12, .slice A16 J.red.length c17, .int .i64 J.chunk, .int .i64 J.window, .int .i64 2000, .slice A21 J.marks.length c22] 43, blk b30 [.slice A1 J.us.length c2, .int .i64 J.parts, .slice A6 J.map.length c7, .slice A11 J.comb.length c12, .slice A16 J.red.length c17, .int .i64 J.chunk, .int .i64 J.window, .int .i64 2000, .slice A21 J.marks.length c22] 43, blk b29 [.slice A1 J.us.length c2, .int .i64 J.parts, .slice A6 J.map.length c7, .slice A11 J.comb.length c12, .slice A16 J.red.length c17, .int .i64 J.chunk, .int .i64 J.window, .int .i64 2000, .slice A21 J.marks.length c22] 43] [rsl (kHd kPair) (.slice A1 J.us.length c2) J.us, rsl (kSl kPair) (.slice A1 J.us.length c2) ss, rsl kIns (.slice A6 J.map.length c7) J.map, rsl kIns (.slice A11 J.comb.length c12) J.comb, rsl kIns (.slice A16 J.red.length c17) J.red, rsl (kInt .i64) (.slice A21 J.marks.length c22) J.marks, gl] := H
        refine d_back ⟨_, H⟩ ?_
        refine d_nil ?_
        refine q_then ?_
        refine c_env [(2, .pointer (some ⟨b26, 0, none⟩)), (4, .bool false), (5, .pointer (some ⟨b29, 0, none⟩)), (6, .pointer (some ⟨b30, 0, none⟩))] ⟨rfl, rfl, rfl, rfl, trivial⟩ ?_
        refine c_seq ?_
        refine c_reg ?_
        refine s_val rfl rfl (r_fa rfl fo43_3 rfl) ?_
        replace H := H.pick 2 rfl
        refine s_st rfl rfl rfl ty22 rfl rfl H rfl (Nat.le_of_ble_eq_true rfl) (fun u hu => by simp [Value.cells] at hu; subst hu; rfl) (fun w H => ?_)
        replace H : Hd _ _ _ [blk b29 [.slice A1 J.us.length c2, .int .i64 J.parts, .slice A6 J.map.length c7, .slice none 0 0, .slice A16 J.red.length c17, .int .i64 J.chunk, .int .i64 J.window, .int .i64 2000, .slice A21 J.marks.length c22] 43, blk b26 [.slice A1 J.us.length c2, .int .i64 J.parts, .slice A6 J.map.length c7, .slice A11 J.comb.length c12, .slice A16 J.red.length c17, .int .i64 J.chunk, .int .i64 J.window, .int .i64 2000, .slice A21 J.marks.length c22] 43, blk b30 [.slice A1 J.us.length c2, .int .i64 J.parts, .slice A6 J.map.length c7, .slice A11 J.comb.length c12, .slice A16 J.red.length c17, .int .i64 J.chunk, .int .i64 J.window, .int .i64 2000, .slice A21 J.marks.length c22] 43] [rsl (kHd kPair) (.slice A1 J.us.length c2) J.us, rsl (kSl kPair) (.slice A1 J.us.length c2) ss, rsl kIns (.slice A6 J.map.length c7) J.map, rsl kIns (.slice A11 J.comb.length c12) J.comb, rsl kIns (.slice A16 J.red.length c17) J.red, rsl (kInt .i64) (.slice A21 J.marks.length c22) J.marks, gl] := H
        refine s_nil ?_
        refine q_then ?_
        refine c_env [(2, .pointer (some ⟨b26, 0, none⟩)), (4, .bool false), (5, .pointer (some ⟨b29, 0, none⟩)), (6, .pointer (some ⟨b30, 0, none⟩))] ⟨rfl, rfl, rfl, rfl, trivial⟩ ?_
        refine c_seq ?_
        refine c_reg ?_
        refine s_val rfl rfl (r_bd (parts := [(0, .const (.int .i64 7))]) (vs := [.int .i64 7]) (cs := [.int .i64 7, .int .i64 0, .string ⟨#[]⟩]) rfl bd29 rfl rfl) ?_
        refine s_val rfl rfl (r_bd (parts := [(0, .const (.int .i64 20)), (1, .const (.int .i64 3))]) (vs := [.int .i64 20, .int .i64 3]) (cs := [.int .i64 20, .int .i64 3, .string ⟨#[]⟩]) rfl bd29 rfl rfl) ?_
        refine s_val rfl rfl (r_bd (parts := [(0, .const (.int .i64 0))]) (vs := [.int .i64 0]) (cs := [.int .i64 0, .int .i64 0, .string ⟨#[]⟩]) rfl bd29 rfl rfl) ?_
        refine s_val rfl rfl (r_bd (parts := [(0, .const (.int .i64 22))]) (vs := [.int .i64 22]) (cs := [.int .i64 22, .int .i64 0, .string ⟨#[]⟩]) rfl bd29 rfl rfl) ?_
        refine s_val rfl rfl (r_bd (parts := [(0, .const (.int .i64 6))]) (vs := [.int .i64 6]) (cs := [.int .i64 6, .int .i64 0, .string ⟨#[]⟩]) rfl bd29 rfl rfl) ?_
        refine s_val rfl rfl (r_bd (parts := [(0, .const (.int .i64 21))]) (vs := [.int .i64 21]) (cs := [.int .i64 21, .int .i64 0, .string ⟨#[]⟩]) rfl bd29 rfl rfl) ?_
        refine s_val rfl rfl (r_bd (parts := [(0, .const (.int .i64 23))]) (vs := [.int .i64 23]) (cs := [.int .i64 23, .int .i64 0, .string ⟨#[]⟩]) rfl bd29 rfl rfl) ?_
        refine s_val rfl rfl (r_bd (parts := [(0, .const (.int .i64 19))]) (vs := [.int .i64 19]) (cs := [.int .i64 19, .int .i64 0, .string ⟨#[]⟩]) rfl bd29 rfl rfl) ?_
        refine s_bsl (parts := [(0, .tmp 30), (1, .tmp 31), (2, .tmp 32), (3, .tmp 33), (4, .tmp 34), (5, .tmp 35), (6, .tmp 36), (7, .tmp 37)]) (vs := [.agg #[.int .i64 7, .int .i64 0, .string ⟨#[]⟩], .agg #[.int .i64 20, .int .i64 3, .string ⟨#[]⟩], .agg #[.int .i64 0, .int .i64 0, .string ⟨#[]⟩], .agg #[.int .i64 22, .int .i64 0, .string ⟨#[]⟩], .agg #[.int .i64 6, .int .i64 0, .string ⟨#[]⟩], .agg #[.int .i64 21, .int .i64 0, .string ⟨#[]⟩], .agg #[.int .i64 23, .int .i64 0, .string ⟨#[]⟩], .agg #[.int .i64 19, .int .i64 0, .string ⟨#[]⟩]]) (cs := [.int .i64 7, .int .i64 0, .string ⟨#[]⟩, .int .i64 20, .int .i64 3, .string ⟨#[]⟩, .int .i64 0, .int .i64 0, .string ⟨#[]⟩, .int .i64 22, .int .i64 0, .string ⟨#[]⟩, .int .i64 6, .int .i64 0, .string ⟨#[]⟩, .int .i64 21, .int .i64 0, .string ⟨#[]⟩, .int .i64 23, .int .i64 0, .string ⟨#[]⟩, .int .i64 19, .int .i64 0, .string ⟨#[]⟩]) rfl rfl rfl sl22 zr29 rfl (by decide) (by decide) rfl rfl H (fun b31 w H => ?_)
        refine s_val rfl rfl (r_fa rfl fo43_3 rfl) ?_
        replace H := H.pick 3 rfl
        refine s_st rfl rfl rfl ty22 rfl rfl H rfl (Nat.le_of_ble_eq_true rfl) (fun u hu => by simp [Value.cells] at hu; subst hu; rfl) (fun w H => ?_)
        replace H : Hd _ _ _ [blk b30 [.slice A1 J.us.length c2, .int .i64 J.parts, .slice A6 J.map.length c7, .slice (some ⟨b31, 0, none⟩) 8 8, .slice A16 J.red.length c17, .int .i64 J.chunk, .int .i64 J.window, .int .i64 2000, .slice A21 J.marks.length c22] 43, blk b31 [.int .i64 7, .int .i64 0, .string ⟨#[]⟩, .int .i64 20, .int .i64 3, .string ⟨#[]⟩, .int .i64 0, .int .i64 0, .string ⟨#[]⟩, .int .i64 22, .int .i64 0, .string ⟨#[]⟩, .int .i64 6, .int .i64 0, .string ⟨#[]⟩, .int .i64 21, .int .i64 0, .string ⟨#[]⟩, .int .i64 23, .int .i64 0, .string ⟨#[]⟩, .int .i64 19, .int .i64 0, .string ⟨#[]⟩] 29, blk b29 [.slice A1 J.us.length c2, .int .i64 J.parts, .slice A6 J.map.length c7, .slice none 0 0, .slice A16 J.red.length c17, .int .i64 J.chunk, .int .i64 J.window, .int .i64 2000, .slice A21 J.marks.length c22] 43, blk b26 [.slice A1 J.us.length c2, .int .i64 J.parts, .slice A6 J.map.length c7, .slice A11 J.comb.length c12, .slice A16 J.red.length c17, .int .i64 J.chunk, .int .i64 J.window, .int .i64 2000, .slice A21 J.marks.length c22] 43] [rsl (kHd kPair) (.slice A1 J.us.length c2) J.us, rsl (kSl kPair) (.slice A1 J.us.length c2) ss, rsl kIns (.slice A6 J.map.length c7) J.map, rsl kIns (.slice A11 J.comb.length c12) J.comb, rsl kIns (.slice A16 J.red.length c17) J.red, rsl (kInt .i64) (.slice A21 J.marks.length c22) J.marks, gl] := H
        refine s_nil ?_
        refine q_then ?_
        refine c_env [(2, .pointer (some ⟨b26, 0, none⟩)), (4, .bool false), (5, .pointer (some ⟨b29, 0, none⟩)), (6, .pointer (some ⟨b30, 0, none⟩))] ⟨rfl, rfl, rfl, rfl, trivial⟩ ?_
        refine c_seq ?_
        refine c_seq ?_
        replace H := H.pick 1 rfl
        replace H : Hd _ _ _ [blk b31 [.int .i64 7, .int .i64 0, .string ⟨#[]⟩, .int .i64 20, .int .i64 3, .string ⟨#[]⟩, .int .i64 0, .int .i64 0, .string ⟨#[]⟩, .int .i64 22, .int .i64 0, .string ⟨#[]⟩, .int .i64 6, .int .i64 0, .string ⟨#[]⟩, .int .i64 21, .int .i64 0, .string ⟨#[]⟩, .int .i64 23, .int .i64 0, .string ⟨#[]⟩, .int .i64 19, .int .i64 0, .string ⟨#[]⟩] 29, blk b30 [.slice A1 J.us.length c2, .int .i64 J.parts, .slice A6 J.map.length c7, .slice (some ⟨b31, 0, none⟩) 8 8, .slice A16 J.red.length c17, .int .i64 J.chunk, .int .i64 J.window, .int .i64 2000, .slice A21 J.marks.length c22] 43, blk b29 [.slice A1 J.us.length c2, .int .i64 J.parts, .slice A6 J.map.length c7, .slice none 0 0, .slice A16 J.red.length c17, .int .i64 J.chunk, .int .i64 J.window, .int .i64 2000, .slice A21 J.marks.length c22] 43, blk b26 [.slice A1 J.us.length c2, .int .i64 J.parts, .slice A6 J.map.length c7, .slice A11 J.comb.length c12, .slice A16 J.red.length c17, .int .i64 J.chunk, .int .i64 J.window, .int .i64 2000, .slice A21 J.marks.length c22] 43] [rsl (kHd kPair) (.slice A1 J.us.length c2) J.us, rsl (kSl kPair) (.slice A1 J.us.length c2) ss, rsl kIns (.slice A6 J.map.length c7) J.map, rsl kIns (.slice A11 J.comb.length c12) J.comb, rsl kIns (.slice A16 J.red.length c17) J.red, rsl (kInt .i64) (.slice A21 J.marks.length c22) J.marks, gl] := H
        replace H : Hd w0 F0 w [osl kIns (.slice (some ⟨b31, 0, none⟩) 8 8) combP, blk b30 [.slice A1 J.us.length c2, .int .i64 J.parts, .slice A6 J.map.length c7, .slice (some ⟨b31, 0, none⟩) 8 8, .slice A16 J.red.length c17, .int .i64 J.chunk, .int .i64 J.window, .int .i64 2000, .slice A21 J.marks.length c22] 43, blk b29 [.slice A1 J.us.length c2, .int .i64 J.parts, .slice A6 J.map.length c7, .slice none 0 0, .slice A16 J.red.length c17, .int .i64 J.chunk, .int .i64 J.window, .int .i64 2000, .slice A21 J.marks.length c22] 43, blk b26 [.slice A1 J.us.length c2, .int .i64 J.parts, .slice A6 J.map.length c7, .slice A11 J.comb.length c12, .slice A16 J.red.length c17, .int .i64 J.chunk, .int .i64 J.window, .int .i64 2000, .slice A21 J.marks.length c22] 43] [rsl (kHd kPair) (.slice A1 J.us.length c2) J.us, rsl (kSl kPair) (.slice A1 J.us.length c2) ss, rsl kIns (.slice A6 J.map.length c7) J.map, rsl kIns (.slice A11 J.comb.length c12) J.comb, rsl kIns (.slice A16 J.red.length c17) J.red, rsl (kInt .i64) (.slice A21 J.marks.length c22) J.marks, gl] := H.turn (fun F h => blk_osl h rfl (by decide) rfl)
        refine c_reg ?_
        refine s_val rfl rfl (r_as rfl rfl) ?_
        refine s_nil ?_
        refine q_then ?_
        refine c_env [(2, .pointer (some ⟨b26, 0, none⟩)), (4, .bool false), (5, .pointer (some ⟨b29, 0, none⟩)), (6, .pointer (some ⟨b30, 0, none⟩)), (7, .int .i64 0)] ⟨rfl, rfl, rfl, rfl, rfl, trivial⟩ ?_
        refine c_block ?_
        replace H := H.pick 3 rfl
        replace H := H.pick 3 rfl
        replace H := H.pick 3 rfl
        replace H := H.pick 3 rfl
        replace H := H.pick 3 rfl
        replace H := H.pick 3 rfl
        replace H := H.pick 3 rfl
        refine c_loop (σ := Nat) (fun s => [(2, .pointer (some ⟨b26, 0, none⟩)), (5, .pointer (some ⟨b29, 0, none⟩)), (6, .pointer (some ⟨b30, 0, none⟩)), (7, .int .i64 ((s : Nat) : Int))]) (fun s w => (Hd w0 F0 w [blk b30 [.slice A1 J.us.length c2, .int .i64 J.parts, .slice A6 J.map.length c7, .slice (some ⟨b31, 0, none⟩) 8 8, .slice A16 J.red.length c17, .int .i64 J.chunk, .int .i64 J.window, .int .i64 2000, .slice A21 J.marks.length c22] 43, blk b29 [.slice A1 J.us.length c2, .int .i64 J.parts, .slice A6 J.map.length c7, .slice none 0 0, .slice A16 J.red.length c17, .int .i64 J.chunk, .int .i64 J.window, .int .i64 2000, .slice A21 J.marks.length c22] 43, blk b26 [.slice A1 J.us.length c2, .int .i64 J.parts, .slice A6 J.map.length c7, .slice A11 J.comb.length c12, .slice A16 J.red.length c17, .int .i64 J.chunk, .int .i64 J.window, .int .i64 2000, .slice A21 J.marks.length c22] 43, osl kIns (.slice (some ⟨b31, 0, none⟩) 8 8) combP] [rsl (kHd kPair) (.slice A1 J.us.length c2) J.us, rsl (kSl kPair) (.slice A1 J.us.length c2) ss, rsl kIns (.slice A6 J.map.length c7) J.map, rsl kIns (.slice A11 J.comb.length c12) J.comb, rsl kIns (.slice A16 J.red.length c17) J.red, rsl (kInt .i64) (.slice A21 J.marks.length c22) J.marks, gl]) ∧ (s ≤ J.us.length)) (fun s => J.us.length - s) 0 ⟨rfl, rfl, rfl, rfl, trivial⟩ ⟨H, by (try dsimp only); omega⟩ ?_
        rintro s w ⟨H, hs⟩
        refine c_seq ?_
        refine c_seq ?_
        refine c_reg ?_
        refine s_val rfl rfl (r_mv rfl rfl) ?_
        refine s_val rfl rfl (r_fa rfl fo43_0 rfl) ?_
        refine s_val rfl rfl (r_ld rfl ty31 rfl (H.cellI 2 rfl rfl)) ?_
        refine s_val rfl rfl (r_lenL rfl un31 rfl) ?_
        refine s_val rfl rfl (r_lt rfl rfl rfl) ?_
        refine s_nil ?_
        refine q_then ?_
        refine c_env [(2, .pointer (some ⟨b26, 0, none⟩)), (5, .pointer (some ⟨b29, 0, none⟩)), (6, .pointer (some ⟨b30, 0, none⟩)), (7, .int .i64 ((s : Nat) : Int)), (44, .bool (decide (((s : Nat) : Int) < ((J.us.length : Nat) : Int))))] ⟨rfl, rfl, rfl, rfl, rfl, trivial⟩ ?_
        refine c_dec (p := ((s : Nat) : Int) < ((J.us.length : Nat) : Int)) rfl (fun h32 => ?_) (fun h32 => ?_)
        · skip
          refine c_skip ?_
          refine q_then ?_
          refine c_env [(2, .pointer (some ⟨b26, 0, none⟩)), (5, .pointer (some ⟨b29, 0, none⟩)), (6, .pointer (some ⟨b30, 0, none⟩)), (7, .int .i64 ((s : Nat) : Int))] ⟨rfl, rfl, rfl, rfl, trivial⟩ ?_
          refine c_seq ?_
          refine c_block ?_
          refine c_seq ?_
          refine c_reg ?_
          refine s_val rfl rfl (r_ldA (cs := [.slice A1 J.us.length c2, .int .i64 J.parts, .slice A6 J.map.length c7, .slice none 0 0, .slice A16 J.red.length c17, .int .i64 J.chunk, .int .i64 J.window, .int .i64 2000, .slice A21 J.marks.length c22]) rfl ty43 rfl rfl (H.cellsI 1 rfl rfl)) ?_
          refine s_val rfl rfl (r_mv rfl rfl) ?_
          refine sc (split_ok (.slice A1 J.us.length c2) (.slice A6 J.map.length c7) (.slice none 0 0) (.slice A16 J.red.length c17) (.slice A21 J.marks.length c22) (altJ J [] J.chunk J.window 2000 J.marks) (ok_alt hJ bad_nil (fun i hi => by cases hi) hJ.chunk hJ.window (by omega) hJ.marks.1 hJ.marks.2) s (show s < J.us.length by omega)) H (lR 0 rfl (lR 2 rfl (lX (fun F _ _ => rsl_nil _ _ F trivial (by decide)) (lR 4 rfl (lR 5 rfl (lR 6 rfl l0)))))) rfl rfl (e_fn kn25 rfl rfl) ?_
          rintro _ _ w ⟨u33, rfl, rfl⟩ H
          replace H : Hd w0 F0 w [osl kPair u33 ((splitM dg (altJ J [] J.chunk J.window 2000 J.marks) s).1), blk b30 [.slice A1 J.us.length c2, .int .i64 J.parts, .slice A6 J.map.length c7, .slice (some ⟨b31, 0, none⟩) 8 8, .slice A16 J.red.length c17, .int .i64 J.chunk, .int .i64 J.window, .int .i64 2000, .slice A21 J.marks.length c22] 43, blk b29 [.slice A1 J.us.length c2, .int .i64 J.parts, .slice A6 J.map.length c7, .slice none 0 0, .slice A16 J.red.length c17, .int .i64 J.chunk, .int .i64 J.window, .int .i64 2000, .slice A21 J.marks.length c22] 43, blk b26 [.slice A1 J.us.length c2, .int .i64 J.parts, .slice A6 J.map.length c7, .slice A11 J.comb.length c12, .slice A16 J.red.length c17, .int .i64 J.chunk, .int .i64 J.window, .int .i64 2000, .slice A21 J.marks.length c22] 43, osl kIns (.slice (some ⟨b31, 0, none⟩) 8 8) combP] [rsl (kHd kPair) (.slice A1 J.us.length c2) J.us, rsl (kSl kPair) (.slice A1 J.us.length c2) ss, rsl kIns (.slice A6 J.map.length c7) J.map, rsl kIns (.slice A11 J.comb.length c12) J.comb, rsl kIns (.slice A16 J.red.length c17) J.red, rsl (kInt .i64) (.slice A21 J.marks.length c22) J.marks, gl] := H
          refine s_val rfl rfl (r_mv rfl rfl) ?_
          refine s_val rfl rfl (r_ex rfl rfl rfl) ?_
          refine s_val rfl rfl (r_ex rfl rfl rfl) ?_
          refine s_val rfl rfl (r_as rfl rfl) ?_
          refine s_val rfl rfl (r_as rfl rfl) ?_
          refine s_nil ?_
          refine q_then ?_
          refine c_env [(2, .pointer (some ⟨b26, 0, none⟩)), (5, .pointer (some ⟨b29, 0, none⟩)), (6, .pointer (some ⟨b30, 0, none⟩)), (7, .int .i64 ((s : Nat) : Int)), (8, u33), (9, .int .i64 ((splitM dg (altJ J [] J.chunk J.window 2000 J.marks) s).2))] ⟨rfl, rfl, rfl, rfl, rfl, rfl, trivial⟩ ?_
          refine c_seq ?_
          refine c_reg ?_
          refine s_val rfl rfl (r_ldA (cs := [.slice A1 J.us.length c2, .int .i64 J.parts, .slice A6 J.map.length c7, .slice (some ⟨b31, 0, none⟩) 8 8, .slice A16 J.red.length c17, .int .i64 J.chunk, .int .i64 J.window, .int .i64 2000, .slice A21 J.marks.length c22]) rfl ty43 rfl rfl (H.cellsI 1 rfl rfl)) ?_
          refine s_val rfl rfl (r_mv rfl rfl) ?_
          refine sc (split_ok (.slice A1 J.us.length c2) (.slice A6 J.map.length c7) (.slice (some ⟨b31, 0, none⟩) 8 8) (.slice A16 J.red.length c17) (.slice A21 J.marks.length c22) (altJ J combP J.chunk J.window 2000 J.marks) (ok_alt hJ combP_bad combP_in64 hJ.chunk hJ.window (by omega) hJ.marks.1 hJ.marks.2) s (show s < J.us.length by omega)) H (lR 0 rfl (lR 2 rfl (lA 4 rfl own_rd (lR 4 rfl (lR 5 rfl (lR 6 rfl l0)))))) rfl rfl (e_fn kn25 rfl rfl) ?_
          rintro _ _ w ⟨u34, rfl, rfl⟩ H
          rw [split_plain num_in hJ] at H ⊢
          replace H : Hd w0 F0 w [osl kPair u34 ((splitM dg (altJ J [] J.chunk J.window 2000 J.marks) s).1), osl kPair u33 ((splitM dg (altJ J [] J.chunk J.window 2000 J.marks) s).1), blk b30 [.slice A1 J.us.length c2, .int .i64 J.parts, .slice A6 J.map.length c7, .slice (some ⟨b31, 0, none⟩) 8 8, .slice A16 J.red.length c17, .int .i64 J.chunk, .int .i64 J.window, .int .i64 2000, .slice A21 J.marks.length c22] 43, blk b29 [.slice A1 J.us.length c2, .int .i64 J.parts, .slice A6 J.map.length c7, .slice none 0 0, .slice A16 J.red.length c17, .int .i64 J.chunk, .int .i64 J.window, .int .i64 2000, .slice A21 J.marks.length c22] 43, blk b26 [.slice A1 J.us.length c2, .int .i64 J.parts, .slice A6 J.map.length c7, .slice A11 J.comb.length c12, .slice A16 J.red.length c17, .int .i64 J.chunk, .int .i64 J.window, .int .i64 2000, .slice A21 J.marks.length c22] 43, osl kIns (.slice (some ⟨b31, 0, none⟩) 8 8) combP] [rsl (kHd kPair) (.slice A1 J.us.length c2) J.us, rsl (kSl kPair) (.slice A1 J.us.length c2) ss, rsl kIns (.slice A6 J.map.length c7) J.map, rsl kIns (.slice A11 J.comb.length c12) J.comb, rsl kIns (.slice A16 J.red.length c17) J.red, rsl (kInt .i64) (.slice A21 J.marks.length c22) J.marks, gl] := H
          refine s_val rfl rfl (r_mv rfl rfl) ?_
          refine s_val rfl rfl (r_ex rfl rfl rfl) ?_
          refine s_val rfl rfl (r_ex rfl rfl rfl) ?_
          refine s_val rfl rfl (r_as rfl rfl) ?_
          refine s_val rfl rfl (r_as rfl rfl) ?_
          refine s_nil ?_
          refine q_then ?_
          refine c_env [(2, .pointer (some ⟨b26, 0, none⟩)), (5, .pointer (some ⟨b29, 0, none⟩)), (6, .pointer (some ⟨b30, 0, none⟩)), (7, .int .i64 ((s : Nat) : Int)), (8, u33), (9, .int .i64 ((splitM dg (altJ J [] J.chunk J.window 2000 J.marks) s).2)), (10, u34), (11, .int .i64 ((splitM dg (altJ J [] J.chunk J.window 2000 J.marks) s).2))] ⟨rfl, rfl, rfl, rfl, rfl, rfl, rfl, rfl, trivial⟩ ?_
          refine c_seq ?_
          refine c_reg ?_
          refine s_val rfl rfl (r_mv rfl rfl) ?_
          refine s_val rfl rfl (r_mv rfl rfl) ?_
          refine s_val rfl rfl (r_ne rfl rfl rfl) ?_
          refine s_val rfl rfl (r_mv rfl rfl) ?_
          refine s_dec (d := 62) (p := ((splitM dg (altJ J [] J.chunk J.window 2000 J.marks) s).2) ≠ ((splitM dg (altJ J [] J.chunk J.window 2000 J.marks) s).2)) rfl (fun h35 => ?_) (fun h35 => ?_)
          · exact (h35 rfl).elim
          · skip
            refine s_val rfl rfl (r_mv rfl rfl) ?_
            refine s_val rfl rfl (r_mv rfl rfl) ?_
            refine sc (samePairs_ok u33 u34 ((splitM dg (altJ J [] J.chunk J.window 2000 J.marks) s).1) ((splitM dg (altJ J [] J.chunk J.window 2000 J.marks) s).1)) H (lA 1 rfl own_rd (lA 0 rfl own_rd l0)) rfl rfl (e_fn kn19 rfl rfl) ?_
            rintro _ _ w ⟨rfl, rfl⟩ H
            refine s_val rfl rfl (r_notP rfl rfl) ?_
            refine s_val rfl rfl (r_pickF rfl rfl rfl) ?_
            refine s_nil ?_
            refine q_then ?_
            refine c_env [(2, .pointer (some ⟨b26, 0, none⟩)), (5, .pointer (some ⟨b29, 0, none⟩)), (6, .pointer (some ⟨b30, 0, none⟩)), (7, .int .i64 ((s : Nat) : Int)), (67, .bool (decide (¬ (((splitM dg (altJ J [] J.chunk J.window 2000 J.marks) s).1) = ((splitM dg (altJ J [] J.chunk J.window 2000 J.marks) s).1)))))] ⟨rfl, rfl, rfl, rfl, rfl, trivial⟩ ?_
            refine c_dec (p := ¬ (((splitM dg (altJ J [] J.chunk J.window 2000 J.marks) s).1) = ((splitM dg (altJ J [] J.chunk J.window 2000 J.marks) s).1))) rfl (fun h36 => ?_) (fun h36 => ?_)
            · exact (h36 rfl).elim
            · skip
              refine c_skip ?_
              refine q_blockN ?_
              refine q_then ?_
              refine c_env [(2, .pointer (some ⟨b26, 0, none⟩)), (5, .pointer (some ⟨b29, 0, none⟩)), (6, .pointer (some ⟨b30, 0, none⟩)), (7, .int .i64 ((s : Nat) : Int))] ⟨rfl, rfl, rfl, rfl, trivial⟩ ?_
              refine c_reg ?_
              refine s_val rfl rfl (r_mv rfl rfl) ?_
              refine s_val rfl rfl (r_add (z := ((s + 1 : Nat) : Int)) rfl rfl rfl (by rw [w64 (by omega) (by omega)]; omega)) ?_
              refine s_val rfl rfl (r_as rfl rfl) ?_
              refine s_nil ?_
              replace H := H.pick 5 rfl
              replace H := H.pick 5 rfl
              replace H := H.pick 5 rfl
              replace H := H.pick 5 rfl
              replace H := H.keep 4
              replace H := H.pick 3 rfl
              replace H := H.pick 3 rfl
              replace H := H.pick 3 rfl
              replace H := H.pick 3 rfl
              exact q_round (s := s) (s + 1) ⟨rfl, rfl, rfl, rfl, trivial⟩ ⟨H, by (try dsimp only); omega⟩ (by (try dsimp only); omega)
        · skip
          refine c_exit ?_
          refine q_thenE ?_
          refine q_thenE ?_
          refine q_blockE ?_
          refine q_then ?_
          refine c_env [(5, .pointer (some ⟨b29, 0, none⟩)), (6, .pointer (some ⟨b30, 0, none⟩))] ⟨rfl, rfl, trivial⟩ ?_
          refine c_seq ?_
          refine c_reg ?_
          refine s_val rfl rfl (r_ldA (cs := [.slice A1 J.us.length c2, .int .i64 J.parts, .slice A6 J.map.length c7, .slice none 0 0, .slice A16 J.red.length c17, .int .i64 J.chunk, .int .i64 J.window, .int .i64 2000, .slice A21 J.marks.length c22]) rfl ty43 rfl rfl (H.cellsI 1 rfl rfl)) ?_
          refine sc (whole_ok (.slice A1 J.us.length c2) (.slice A6 J.map.length c7) (.slice none 0 0) (.slice A16 J.red.length c17) (.slice A21 J.marks.length c22) (altJ J [] J.chunk J.window 2000 J.marks) (ok_alt hJ bad_nil (fun i hi => by cases hi) hJ.chunk hJ.window (by omega) hJ.marks.1 hJ.marks.2)) H (lR 0 rfl (lR 2 rfl (lX (fun F _ _ => rsl_nil _ _ F trivial (by decide)) (lR 4 rfl (lR 5 rfl (lR 6 rfl l0)))))) rfl rfl (e_fn kn24 rfl rfl) ?_
          rintro _ _ w ⟨u37, zs38, rfl, rfl, hz39⟩ H
          refine s_val rfl rfl (r_mv rfl rfl) ?_
          refine s_val rfl rfl (r_ex rfl rfl rfl) ?_
          refine s_val rfl rfl (r_ex rfl rfl rfl) ?_
          refine s_val rfl rfl (r_ex rfl rfl rfl) ?_
          refine s_val rfl rfl (r_as rfl rfl) ?_
          refine s_val rfl rfl (r_as rfl rfl) ?_
          refine s_val rfl rfl (r_as rfl rfl) ?_
          refine s_nil ?_
          refine q_then ?_
          replace H : Hd _ _ _ [osl (kHd kPair) u37 zs38, blk b30 [.slice A1 J.us.length c2, .int .i64 J.parts, .slice A6 J.map.length c7, .slice (some ⟨b31, 0, none⟩) 8 8, .slice A16 J.red.length c17, .int .i64 J.chunk, .int .i64 J.window, .int .i64 2000, .slice A21 J.marks.length c22] 43, blk b29 [.slice A1 J.us.length c2, .int .i64 J.parts, .slice A6 J.map.length c7, .slice none 0 0, .slice A16 J.red.length c17, .int .i64 J.chunk, .int .i64 J.window, .int .i64 2000, .slice A21 J.marks.length c22] 43, blk b26 [.slice A1 J.us.length c2, .int .i64 J.parts, .slice A6 J.map.length c7, .slice A11 J.comb.length c12, .slice A16 J.red.length c17, .int .i64 J.chunk, .int .i64 J.window, .int .i64 2000, .slice A21 J.marks.length c22] 43, osl kIns (.slice (some ⟨b31, 0, none⟩) 8 8) combP] [rsl (kHd kPair) (.slice A1 J.us.length c2) J.us, rsl (kSl kPair) (.slice A1 J.us.length c2) ss, rsl kIns (.slice A6 J.map.length c7) J.map, rsl kIns (.slice A11 J.comb.length c12) J.comb, rsl kIns (.slice A16 J.red.length c17) J.red, rsl (kInt .i64) (.slice A21 J.marks.length c22) J.marks, gl] := H
          refine c_env [(6, .pointer (some ⟨b30, 0, none⟩)), (12, u37), (13, .int .i64 ((wholeM dg (altJ J [] J.chunk J.window 2000 J.marks)).2.1)), (14, .int .i64 ((wholeM dg (altJ J [] J.chunk J.window 2000 J.marks)).2.2))] ⟨rfl, rfl, rfl, rfl, trivial⟩ ?_
          refine c_seq ?_
          refine c_reg ?_
          refine s_val rfl rfl (r_ldA (cs := [.slice A1 J.us.length c2, .int .i64 J.parts, .slice A6 J.map.length c7, .slice (some ⟨b31, 0, none⟩) 8 8, .slice A16 J.red.length c17, .int .i64 J.chunk, .int .i64 J.window, .int .i64 2000, .slice A21 J.marks.length c22]) rfl ty43 rfl rfl (H.cellsI 1 rfl rfl)) ?_
          refine sc (whole_ok (.slice A1 J.us.length c2) (.slice A6 J.map.length c7) (.slice (some ⟨b31, 0, none⟩) 8 8) (.slice A16 J.red.length c17) (.slice A21 J.marks.length c22) (altJ J combP J.chunk J.window 2000 J.marks) (ok_alt hJ combP_bad combP_in64 hJ.chunk hJ.window (by omega) hJ.marks.1 hJ.marks.2)) H (lR 0 rfl (lR 2 rfl (lA 4 rfl own_rd (lR 4 rfl (lR 5 rfl (lR 6 rfl l0)))))) rfl rfl (e_fn kn24 rfl rfl) ?_
          rintro _ _ w ⟨u40, zs41, rfl, rfl, hz42⟩ H
          rw [whole_plain num_in hJ] at hz42 ⊢
          refine s_val rfl rfl (r_mv rfl rfl) ?_
          refine s_val rfl rfl (r_ex rfl rfl rfl) ?_
          refine s_val rfl rfl (r_ex rfl rfl rfl) ?_
          refine s_val rfl rfl (r_ex rfl rfl rfl) ?_
          refine s_val rfl rfl (r_as rfl rfl) ?_
          refine s_val rfl rfl (r_as rfl rfl) ?_
          refine s_val rfl rfl (r_as rfl rfl) ?_
          refine s_nil ?_
          refine q_then ?_
          replace H : Hd _ _ _ [osl (kHd kPair) u40 zs41, osl (kHd kPair) u37 zs38, blk b30 [.slice A1 J.us.length c2, .int .i64 J.parts, .slice A6 J.map.length c7, .slice (some ⟨b31, 0, none⟩) 8 8, .slice A16 J.red.length c17, .int .i64 J.chunk, .int .i64 J.window, .int .i64 2000, .slice A21 J.marks.length c22] 43, blk b29 [.slice A1 J.us.length c2, .int .i64 J.parts, .slice A6 J.map.length c7, .slice none 0 0, .slice A16 J.red.length c17, .int .i64 J.chunk, .int .i64 J.window, .int .i64 2000, .slice A21 J.marks.length c22] 43, blk b26 [.slice A1 J.us.length c2, .int .i64 J.parts, .slice A6 J.map.length c7, .slice A11 J.comb.length c12, .slice A16 J.red.length c17, .int .i64 J.chunk, .int .i64 J.window, .int .i64 2000, .slice A21 J.marks.length c22] 43, osl kIns (.slice (some ⟨b31, 0, none⟩) 8 8) combP] [rsl (kHd kPair) (.slice A1 J.us.length c2) J.us, rsl (kSl kPair) (.slice A1 J.us.length c2) ss, rsl kIns (.slice A6 J.map.length c7) J.map, rsl kIns (.slice A11 J.comb.length c12) J.comb, rsl kIns (.slice A16 J.red.length c17) J.red, rsl (kInt .i64) (.slice A21 J.marks.length c22) J.marks, gl] := H
          refine c_env [(12, u37), (13, .int .i64 ((wholeM dg (altJ J [] J.chunk J.window 2000 J.marks)).2.1)), (14, .int .i64 ((wholeM dg (altJ J [] J.chunk J.window 2000 J.marks)).2.2)), (15, u40), (16, .int .i64 ((wholeM dg (altJ J [] J.chunk J.window 2000 J.marks)).2.1)), (17, .int .i64 ((wholeM dg (altJ J [] J.chunk J.window 2000 J.marks)).2.2))] ⟨rfl, rfl, rfl, rfl, rfl, rfl, trivial⟩ ?_
          refine c_seq ?_
          refine c_reg ?_
          refine s_val rfl rfl (r_mv rfl rfl) ?_
          refine s_val rfl rfl (r_mv rfl rfl) ?_
          refine s_val rfl rfl (r_eq rfl rfl rfl) ?_
          refine s_val rfl rfl (r_mv rfl rfl) ?_
          refine s_dec (d := 83) (p := ((wholeM dg (altJ J [] J.chunk J.window 2000 J.marks)).2.1) = ((wholeM dg (altJ J [] J.chunk J.window 2000 J.marks)).2.1)) rfl (fun h43 => ?_) (fun h43 => ?_)
          · skip
            refine s_val rfl rfl (r_mv rfl rfl) ?_
            refine s_val rfl rfl (r_mv rfl rfl) ?_
            refine s_val rfl rfl (r_eq rfl rfl rfl) ?_
            refine s_val rfl rfl (r_pickT rfl rfl rfl) ?_
            refine s_val rfl rfl (r_mv rfl rfl) ?_
            refine s_dec (d := 88) (p := ((wholeM dg (altJ J [] J.chunk J.window 2000 J.marks)).2.2) = ((wholeM dg (altJ J [] J.chunk J.window 2000 J.marks)).2.2)) rfl (fun h44 => ?_) (fun h44 => ?_)
            · skip
              refine s_val rfl rfl (r_mv rfl rfl) ?_
              refine s_val rfl rfl (r_mv rfl rfl) ?_
              refine sc (sameRuns_ok u37 zs38 u40 zs41) H (lA 1 rfl own_rd (lA 0 rfl own_rd l0)) rfl rfl (e_fn kn29 rfl rfl) ?_
              rintro _ _ w ⟨rfl, rfl⟩ H
              refine s_val rfl rfl (r_pickT rfl rfl rfl) ?_
              refine s_val rfl rfl (r_mv rfl rfl) ?_
              refine s_dec (d := 93) (p := (zs38 : List (Value × List Pair)).map (·.2) = (zs41 : List (Value × List Pair)).map (·.2)) rfl (fun h45 => ?_) (fun h45 => ?_)
              · skip
                refine sc awake13_ok H (lR 6 rfl l0) rfl rfl (e_fn kn23 rfl rfl) ?_
                rintro _ _ w ⟨rfl, rfl⟩ H
                refine s_val rfl rfl (r_pickT rfl rfl rfl) ?_
                refine s_val rfl rfl (r_as rfl rfl) ?_
                refine s_nil ?_
                refine q_then ?_
                refine c_env [(4, .bool true)] ⟨rfl, trivial⟩ ?_
                refine c_ret ?_
                refine q_ret1 rfl rfl ?_
                replace H := H.keep 0
                replace H : Hd _ _ _ [] [rsl (kHd kPair) (.slice A1 J.us.length c2) J.us, rsl (kSl kPair) (.slice A1 J.us.length c2) ss, rsl kIns (.slice A6 J.map.length c7) J.map, rsl kIns (.slice A11 J.comb.length c12) J.comb, rsl kIns (.slice A16 J.red.length c17) J.red, rsl (kInt .i64) (.slice A21 J.marks.length c22) J.marks, gl] := H
                exact fin ⟨rfl, rfl⟩ H
              · exact (h45 (hz39.trans hz42.symm)).elim
            · exact (h44 rfl).elim
          · exact (h43 rfl).elim
      · skip
        refine s_alloc rfl rfl rfl zr43 H (fun b46 w H => ?_)
        replace H := H.pick 1 rfl
        replace H : Hd _ _ _ [blk b26 [.slice A1 J.us.length c2, .int .i64 J.parts, .slice A6 J.map.length c7, .slice A11 J.comb.length c12, .slice A16 J.red.length c17, .int .i64 J.chunk, .int .i64 J.window, .int .i64 2000, .slice A21 J.marks.length c22] 43, blk b46 [.slice none 0 0, .int .i64 0, .slice none 0 0, .slice none 0 0, .slice none 0 0, .int .i64 0, .int .i64 0, .int .i64 0, .slice none 0 0] 43] [rsl (kHd kPair) (.slice A1 J.us.length c2) J.us, rsl (kSl kPair) (.slice A1 J.us.length c2) ss, rsl kIns (.slice A6 J.map.length c7) J.map, rsl kIns (.slice A11 J.comb.length c12) J.comb, rsl kIns (.slice A16 J.red.length c17) J.red, rsl (kInt .i64) (.slice A21 J.marks.length c22) J.marks, gl] := H
        refine d_back ⟨_, H⟩ ?_
        refine d_main rfl ?_
        refine s_alloc rfl rfl rfl zr43 H (fun b47 w H => ?_)
        replace H := H.pick 1 rfl
        replace H : Hd _ _ _ [blk b26 [.slice A1 J.us.length c2, .int .i64 J.parts, .slice A6 J.map.length c7, .slice A11 J.comb.length c12, .slice A16 J.red.length c17, .int .i64 J.chunk, .int .i64 J.window, .int .i64 2000, .slice A21 J.marks.length c22] 43, blk b47 [.slice none 0 0, .int .i64 0, .slice none 0 0, .slice none 0 0, .slice none 0 0, .int .i64 0, .int .i64 0, .int .i64 0, .slice none 0 0] 43, blk b46 [.slice none 0 0, .int .i64 0, .slice none 0 0, .slice none 0 0, .slice none 0 0, .int .i64 0, .int .i64 0, .int .i64 0, .slice none 0 0] 43] [rsl (kHd kPair) (.slice A1 J.us.length c2) J.us, rsl (kSl kPair) (.slice A1 J.us.length c2) ss, rsl kIns (.slice A6 J.map.length c7) J.map, rsl kIns (.slice A11 J.comb.length c12) J.comb, rsl kIns (.slice A16 J.red.length c17) J.red, rsl (kInt .i64) (.slice A21 J.marks.length c22) J.marks, gl] := H
        refine d_back ⟨_, H⟩ ?_
        refine d_main rfl ?_
        replace H := H.pick 1 rfl
        refine s_st rfl rfl rfl ty43 rfl rfl H rfl (Nat.le_of_ble_eq_true rfl) (fun u hu => by simp [Value.cells] at hu; rcases hu with rfl | rfl | rfl | rfl | rfl | rfl | rfl | rfl | rfl <;> rfl) (fun w H => ?_)
        replace H : Hd _ _ _ [blk b47 [.slice A1 J.us.length c2, .int .i64 J.parts, .slice A6 J.map.length c7, .slice A11 J.comb.length c12, .slice A16 J.red.length c17, .int .i64 J.chunk, .int .i64 J.window, .int .i64 2000, .slice A21 J.marks.length c22] 43, blk b26 [.slice A1 J.us.length c2, .int .i64 J.parts, .slice A6 J.map.length c7, .slice A11 J.comb.length c12, .slice A16 J.red.length c17, .int .i64 J.chunk, .int .i64 J.window, .int .i64 2000, .slice A21 J.marks.length c22] 43, blk b46 [.slice none 0 0, .int .i64 0, .slice none 0 0, .slice none 0 0, .slice none 0 0, .int .i64 0, .int .i64 0, .int .i64 0, .slice none 0 0] 43] [rsl (kHd kPair) (.slice A1 J.us.length c2) J.us, rsl (kSl kPair) (.slice A1 J.us.length c2) ss, rsl kIns (.slice A6 J.map.length c7) J.map, rsl kIns (.slice A11 J.comb.length c12) J.comb, rsl kIns (.slice A16 J.red.length c17) J.red, rsl (kInt .i64) (.slice A21 J.marks.length c22) J.marks, gl] := H
        replace H := H.pick 1 rfl
        replace H : Hd _ _ _ [blk b26 [.slice A1 J.us.length c2, .int .i64 J.parts, .slice A6 J.map.length c7, .slice A11 J.comb.length c12, .slice A16 J.red.length c17, .int .i64 J.chunk, .int .i64 J.window, .int .i64 2000, .slice A21 J.marks.length c22] 43, blk b47 [.slice A1 J.us.length c2, .int .i64 J.parts, .slice A6 J.map.length c7, .slice A11 J.comb.length c12, .slice A16 J.red.length c17, .int .i64 J.chunk, .int .i64 J.window, .int .i64 2000, .slice A21 J.marks.length c22] 43, blk b46 [.slice none 0 0, .int .i64 0, .slice none 0 0, .slice none 0 0, .slice none 0 0, .int .i64 0, .int .i64 0, .int .i64 0, .slice none 0 0] 43] [rsl (kHd kPair) (.slice A1 J.us.length c2) J.us, rsl (kSl kPair) (.slice A1 J.us.length c2) ss, rsl kIns (.slice A6 J.map.length c7) J.map, rsl kIns (.slice A11 J.comb.length c12) J.comb, rsl kIns (.slice A16 J.red.length c17) J.red, rsl (kInt .i64) (.slice A21 J.marks.length c22) J.marks, gl] := H
        refine d_back ⟨_, H⟩ ?_
        refine d_main rfl ?_
        replace H := H.pick 2 rfl
        refine s_st rfl rfl rfl ty43 rfl rfl H rfl (Nat.le_of_ble_eq_true rfl) (fun u hu => by simp [Value.cells] at hu; rcases hu with rfl | rfl | rfl | rfl | rfl | rfl | rfl | rfl | rfl <;> rfl) (fun w H => ?_)
        replace H : Hd _ _ _ [blk b46 [.slice A1 J.us.length c2, .int .i64 J.parts, .slice A6 J.map.length c7, .slice A11 J.comb.length c12, .slice A16 J.red.length c17, .int .i64 J.chunk, .int .i64 J.window, .int .i64 2000, .slice A21 J.marks.length c22] 43, blk b26 [.slice A1 J.us.length c2, .int .i64 J.parts, .slice A6 J.map.length c7, .slice A11 J.comb.length c12, .slice A16 J.red.length c17, .int .i64 J.chunk, .int .i64 J.window, .int .i64 2000, .slice A21 J.marks.length c22] 43, blk b47 [.slice A1 J.us.length c2, .int .i64 J.parts, .slice A6 J.map.length c7, .slice A11 J.comb.length c12, .slice A16 J.red.length c17, .int .i64 J.chunk, .int .i64 J.window, .int .i64 2000, .slice A21 J.marks.length c22] 43] [rsl (kHd kPair) (.slice A1 J.us.length c2) J.us, rsl (kSl kPair) (.slice A1 J.us.length c2) ss, rsl kIns (.slice A6 J.map.length c7) J.map, rsl kIns (.slice A11 J.comb.length c12) J.comb, rsl kIns (.slice A16 J.red.length c17) J.red, rsl (kInt .i64) (.slice A21 J.marks.length c22) J.marks, gl] := H
        replace H := H.pick 1 rfl
        replace H : Hd _ _ _ [blk b26 [.slice A1 J.us.length c2, .int .i64 J.parts, .slice A6 J.map.length c7, .slice A11 J.comb.length c12, .slice A16 J.red.length c17, .int .i64 J.chunk, .int .i64 J.window, .int .i64 2000, .slice A21 J.marks.length c22] 43, blk b46 [.slice A1 J.us.length c2, .int .i64 J.parts, .slice A6 J.map.length c7, .slice A11 J.comb.length c12, .slice A16 J.red.length c17, .int .i64 J.chunk, .int .i64 J.window, .int .i64 2000, .slice A21 J.marks.length c22] 43, blk b47 [.slice A1 J.us.length c2, .int .i64 J.parts, .slice A6 J.map.length c7, .slice A11 J.comb.length c12, .slice A16 J.red.length c17, .int .i64 J.chunk, .int .i64 J.window, .int .i64 2000, .slice A21 J.marks.length c22] 43] [rsl (kHd kPair) (.slice A1 J.us.length c2) J.us, rsl (kSl kPair) (.slice A1 J.us.length c2) ss, rsl kIns (.slice A6 J.map.length c7) J.map, rsl kIns (.slice A11 J.comb.length c12) J.comb, rsl kIns (.slice A16 J.red.length c17) J.red, rsl (kInt .i64) (.slice A21 J.marks.length c22) J.marks, gl] := H
        refine d_back ⟨_, H⟩ ?_
        refine d_nil ?_
        refine q_then ?_
        refine c_env [(2, .pointer (some ⟨b26, 0, none⟩)), (4, .bool false), (5, .pointer (some ⟨b47, 0, none⟩)), (6, .pointer (some ⟨b46, 0, none⟩))] ⟨rfl, rfl, rfl, rfl, trivial⟩ ?_
        refine c_seq ?_
        refine c_reg ?_
        refine s_val rfl rfl (r_fa rfl fo43_3 rfl) ?_
        replace H := H.pick 2 rfl
        refine s_st rfl rfl rfl ty22 rfl rfl H rfl (Nat.le_of_ble_eq_true rfl) (fun u hu => by simp [Value.cells] at hu; subst hu; rfl) (fun w H => ?_)
        replace H : Hd _ _ _ [blk b47 [.slice A1 J.us.length c2, .int .i64 J.parts, .slice A6 J.map.length c7, .slice none 0 0, .slice A16 J.red.length c17, .int .i64 J.chunk, .int .i64 J.window, .int .i64 2000, .slice A21 J.marks.length c22] 43, blk b26 [.slice A1 J.us.length c2, .int .i64 J.parts, .slice A6 J.map.length c7, .slice A11 J.comb.length c12, .slice A16 J.red.length c17, .int .i64 J.chunk, .int .i64 J.window, .int .i64 2000, .slice A21 J.marks.length c22] 43, blk b46 [.slice A1 J.us.length c2, .int .i64 J.parts, .slice A6 J.map.length c7, .slice A11 J.comb.length c12, .slice A16 J.red.length c17, .int .i64 J.chunk, .int .i64 J.window, .int .i64 2000, .slice A21 J.marks.length c22] 43] [rsl (kHd kPair) (.slice A1 J.us.length c2) J.us, rsl (kSl kPair) (.slice A1 J.us.length c2) ss, rsl kIns (.slice A6 J.map.length c7) J.map, rsl kIns (.slice A11 J.comb.length c12) J.comb, rsl kIns (.slice A16 J.red.length c17) J.red, rsl (kInt .i64) (.slice A21 J.marks.length c22) J.marks, gl] := H
        refine s_nil ?_
        refine q_then ?_
        refine c_env [(2, .pointer (some ⟨b26, 0, none⟩)), (4, .bool false), (5, .pointer (some ⟨b47, 0, none⟩)), (6, .pointer (some ⟨b46, 0, none⟩))] ⟨rfl, rfl, rfl, rfl, trivial⟩ ?_
        refine c_seq ?_
        refine c_reg ?_
        refine s_val rfl rfl (r_bd (parts := [(0, .const (.int .i64 7))]) (vs := [.int .i64 7]) (cs := [.int .i64 7, .int .i64 0, .string ⟨#[]⟩]) rfl bd29 rfl rfl) ?_
        refine s_val rfl rfl (r_bd (parts := [(0, .const (.int .i64 20)), (1, .const (.int .i64 3))]) (vs := [.int .i64 20, .int .i64 3]) (cs := [.int .i64 20, .int .i64 3, .string ⟨#[]⟩]) rfl bd29 rfl rfl) ?_
        refine s_val rfl rfl (r_bd (parts := [(0, .const (.int .i64 0))]) (vs := [.int .i64 0]) (cs := [.int .i64 0, .int .i64 0, .string ⟨#[]⟩]) rfl bd29 rfl rfl) ?_
        refine s_val rfl rfl (r_bd (parts := [(0, .const (.int .i64 22))]) (vs := [.int .i64 22]) (cs := [.int .i64 22, .int .i64 0, .string ⟨#[]⟩]) rfl bd29 rfl rfl) ?_
        refine s_val rfl rfl (r_bd (parts := [(0, .const (.int .i64 6))]) (vs := [.int .i64 6]) (cs := [.int .i64 6, .int .i64 0, .string ⟨#[]⟩]) rfl bd29 rfl rfl) ?_
        refine s_val rfl rfl (r_bd (parts := [(0, .const (.int .i64 21))]) (vs := [.int .i64 21]) (cs := [.int .i64 21, .int .i64 0, .string ⟨#[]⟩]) rfl bd29 rfl rfl) ?_
        refine s_val rfl rfl (r_bd (parts := [(0, .const (.int .i64 23))]) (vs := [.int .i64 23]) (cs := [.int .i64 23, .int .i64 0, .string ⟨#[]⟩]) rfl bd29 rfl rfl) ?_
        refine s_val rfl rfl (r_bd (parts := [(0, .const (.int .i64 19))]) (vs := [.int .i64 19]) (cs := [.int .i64 19, .int .i64 0, .string ⟨#[]⟩]) rfl bd29 rfl rfl) ?_
        refine s_bsl (parts := [(0, .tmp 30), (1, .tmp 31), (2, .tmp 32), (3, .tmp 33), (4, .tmp 34), (5, .tmp 35), (6, .tmp 36), (7, .tmp 37)]) (vs := [.agg #[.int .i64 7, .int .i64 0, .string ⟨#[]⟩], .agg #[.int .i64 20, .int .i64 3, .string ⟨#[]⟩], .agg #[.int .i64 0, .int .i64 0, .string ⟨#[]⟩], .agg #[.int .i64 22, .int .i64 0, .string ⟨#[]⟩], .agg #[.int .i64 6, .int .i64 0, .string ⟨#[]⟩], .agg #[.int .i64 21, .int .i64 0, .string ⟨#[]⟩], .agg #[.int .i64 23, .int .i64 0, .string ⟨#[]⟩], .agg #[.int .i64 19, .int .i64 0, .string ⟨#[]⟩]]) (cs := [.int .i64 7, .int .i64 0, .string ⟨#[]⟩, .int .i64 20, .int .i64 3, .string ⟨#[]⟩, .int .i64 0, .int .i64 0, .string ⟨#[]⟩, .int .i64 22, .int .i64 0, .string ⟨#[]⟩, .int .i64 6, .int .i64 0, .string ⟨#[]⟩, .int .i64 21, .int .i64 0, .string ⟨#[]⟩, .int .i64 23, .int .i64 0, .string ⟨#[]⟩, .int .i64 19, .int .i64 0, .string ⟨#[]⟩]) rfl rfl rfl sl22 zr29 rfl (by decide) (by decide) rfl rfl H (fun b48 w H => ?_)
        refine s_val rfl rfl (r_fa rfl fo43_3 rfl) ?_
        replace H := H.pick 3 rfl
        refine s_st rfl rfl rfl ty22 rfl rfl H rfl (Nat.le_of_ble_eq_true rfl) (fun u hu => by simp [Value.cells] at hu; subst hu; rfl) (fun w H => ?_)
        replace H : Hd _ _ _ [blk b46 [.slice A1 J.us.length c2, .int .i64 J.parts, .slice A6 J.map.length c7, .slice (some ⟨b48, 0, none⟩) 8 8, .slice A16 J.red.length c17, .int .i64 J.chunk, .int .i64 J.window, .int .i64 2000, .slice A21 J.marks.length c22] 43, blk b48 [.int .i64 7, .int .i64 0, .string ⟨#[]⟩, .int .i64 20, .int .i64 3, .string ⟨#[]⟩, .int .i64 0, .int .i64 0, .string ⟨#[]⟩, .int .i64 22, .int .i64 0, .string ⟨#[]⟩, .int .i64 6, .int .i64 0, .string ⟨#[]⟩, .int .i64 21, .int .i64 0, .string ⟨#[]⟩, .int .i64 23, .int .i64 0, .string ⟨#[]⟩, .int .i64 19, .int .i64 0, .string ⟨#[]⟩] 29, blk b47 [.slice A1 J.us.length c2, .int .i64 J.parts, .slice A6 J.map.length c7, .slice none 0 0, .slice A16 J.red.length c17, .int .i64 J.chunk, .int .i64 J.window, .int .i64 2000, .slice A21 J.marks.length c22] 43, blk b26 [.slice A1 J.us.length c2, .int .i64 J.parts, .slice A6 J.map.length c7, .slice A11 J.comb.length c12, .slice A16 J.red.length c17, .int .i64 J.chunk, .int .i64 J.window, .int .i64 2000, .slice A21 J.marks.length c22] 43] [rsl (kHd kPair) (.slice A1 J.us.length c2) J.us, rsl (kSl kPair) (.slice A1 J.us.length c2) ss, rsl kIns (.slice A6 J.map.length c7) J.map, rsl kIns (.slice A11 J.comb.length c12) J.comb, rsl kIns (.slice A16 J.red.length c17) J.red, rsl (kInt .i64) (.slice A21 J.marks.length c22) J.marks, gl] := H
        refine s_nil ?_
        refine q_then ?_
        refine c_env [(2, .pointer (some ⟨b26, 0, none⟩)), (4, .bool false), (5, .pointer (some ⟨b47, 0, none⟩)), (6, .pointer (some ⟨b46, 0, none⟩))] ⟨rfl, rfl, rfl, rfl, trivial⟩ ?_
        refine c_seq ?_
        refine c_seq ?_
        replace H := H.pick 1 rfl
        replace H : Hd _ _ _ [blk b48 [.int .i64 7, .int .i64 0, .string ⟨#[]⟩, .int .i64 20, .int .i64 3, .string ⟨#[]⟩, .int .i64 0, .int .i64 0, .string ⟨#[]⟩, .int .i64 22, .int .i64 0, .string ⟨#[]⟩, .int .i64 6, .int .i64 0, .string ⟨#[]⟩, .int .i64 21, .int .i64 0, .string ⟨#[]⟩, .int .i64 23, .int .i64 0, .string ⟨#[]⟩, .int .i64 19, .int .i64 0, .string ⟨#[]⟩] 29, blk b46 [.slice A1 J.us.length c2, .int .i64 J.parts, .slice A6 J.map.length c7, .slice (some ⟨b48, 0, none⟩) 8 8, .slice A16 J.red.length c17, .int .i64 J.chunk, .int .i64 J.window, .int .i64 2000, .slice A21 J.marks.length c22] 43, blk b47 [.slice A1 J.us.length c2, .int .i64 J.parts, .slice A6 J.map.length c7, .slice none 0 0, .slice A16 J.red.length c17, .int .i64 J.chunk, .int .i64 J.window, .int .i64 2000, .slice A21 J.marks.length c22] 43, blk b26 [.slice A1 J.us.length c2, .int .i64 J.parts, .slice A6 J.map.length c7, .slice A11 J.comb.length c12, .slice A16 J.red.length c17, .int .i64 J.chunk, .int .i64 J.window, .int .i64 2000, .slice A21 J.marks.length c22] 43] [rsl (kHd kPair) (.slice A1 J.us.length c2) J.us, rsl (kSl kPair) (.slice A1 J.us.length c2) ss, rsl kIns (.slice A6 J.map.length c7) J.map, rsl kIns (.slice A11 J.comb.length c12) J.comb, rsl kIns (.slice A16 J.red.length c17) J.red, rsl (kInt .i64) (.slice A21 J.marks.length c22) J.marks, gl] := H
        replace H : Hd w0 F0 w [osl kIns (.slice (some ⟨b48, 0, none⟩) 8 8) combP, blk b46 [.slice A1 J.us.length c2, .int .i64 J.parts, .slice A6 J.map.length c7, .slice (some ⟨b48, 0, none⟩) 8 8, .slice A16 J.red.length c17, .int .i64 J.chunk, .int .i64 J.window, .int .i64 2000, .slice A21 J.marks.length c22] 43, blk b47 [.slice A1 J.us.length c2, .int .i64 J.parts, .slice A6 J.map.length c7, .slice none 0 0, .slice A16 J.red.length c17, .int .i64 J.chunk, .int .i64 J.window, .int .i64 2000, .slice A21 J.marks.length c22] 43, blk b26 [.slice A1 J.us.length c2, .int .i64 J.parts, .slice A6 J.map.length c7, .slice A11 J.comb.length c12, .slice A16 J.red.length c17, .int .i64 J.chunk, .int .i64 J.window, .int .i64 2000, .slice A21 J.marks.length c22] 43] [rsl (kHd kPair) (.slice A1 J.us.length c2) J.us, rsl (kSl kPair) (.slice A1 J.us.length c2) ss, rsl kIns (.slice A6 J.map.length c7) J.map, rsl kIns (.slice A11 J.comb.length c12) J.comb, rsl kIns (.slice A16 J.red.length c17) J.red, rsl (kInt .i64) (.slice A21 J.marks.length c22) J.marks, gl] := H.turn (fun F h => blk_osl h rfl (by decide) rfl)
        refine c_reg ?_
        refine s_val rfl rfl (r_as rfl rfl) ?_
        refine s_nil ?_
        refine q_then ?_
        refine c_env [(2, .pointer (some ⟨b26, 0, none⟩)), (4, .bool false), (5, .pointer (some ⟨b47, 0, none⟩)), (6, .pointer (some ⟨b46, 0, none⟩)), (7, .int .i64 0)] ⟨rfl, rfl, rfl, rfl, rfl, trivial⟩ ?_
        refine c_block ?_
        replace H := H.pick 3 rfl
        replace H := H.pick 3 rfl
        replace H := H.pick 3 rfl
        replace H := H.pick 3 rfl
        replace H := H.pick 3 rfl
        replace H := H.pick 3 rfl
        replace H := H.pick 3 rfl
        refine c_loop (σ := Nat) (fun s => [(2, .pointer (some ⟨b26, 0, none⟩)), (5, .pointer (some ⟨b47, 0, none⟩)), (6, .pointer (some ⟨b46, 0, none⟩)), (7, .int .i64 ((s : Nat) : Int))]) (fun s w => (Hd w0 F0 w [blk b46 [.slice A1 J.us.length c2, .int .i64 J.parts, .slice A6 J.map.length c7, .slice (some ⟨b48, 0, none⟩) 8 8, .slice A16 J.red.length c17, .int .i64 J.chunk, .int .i64 J.window, .int .i64 2000, .slice A21 J.marks.length c22] 43, blk b47 [.slice A1 J.us.length c2, .int .i64 J.parts, .slice A6 J.map.length c7, .slice none 0 0, .slice A16 J.red.length c17, .int .i64 J.chunk, .int .i64 J.window, .int .i64 2000, .slice A21 J.marks.length c22] 43, blk b26 [.slice A1 J.us.length c2, .int .i64 J.parts, .slice A6 J.map.length c7, .slice A11 J.comb.length c12, .slice A16 J.red.length c17, .int .i64 J.chunk, .int .i64 J.window, .int .i64 2000, .slice A21 J.marks.length c22] 43, osl kIns (.slice (some ⟨b48, 0, none⟩) 8 8) combP] [rsl (kHd kPair) (.slice A1 J.us.length c2) J.us, rsl (kSl kPair) (.slice A1 J.us.length c2) ss, rsl kIns (.slice A6 J.map.length c7) J.map, rsl kIns (.slice A11 J.comb.length c12) J.comb, rsl kIns (.slice A16 J.red.length c17) J.red, rsl (kInt .i64) (.slice A21 J.marks.length c22) J.marks, gl]) ∧ (s ≤ J.us.length)) (fun s => J.us.length - s) 0 ⟨rfl, rfl, rfl, rfl, trivial⟩ ⟨H, by (try dsimp only); omega⟩ ?_
        rintro s w ⟨H, hs⟩
        refine c_seq ?_
        refine c_seq ?_
        refine c_reg ?_
        refine s_val rfl rfl (r_mv rfl rfl) ?_
        refine s_val rfl rfl (r_fa rfl fo43_0 rfl) ?_
        refine s_val rfl rfl (r_ld rfl ty31 rfl (H.cellI 2 rfl rfl)) ?_
        refine s_val rfl rfl (r_lenL rfl un31 rfl) ?_
        refine s_val rfl rfl (r_lt rfl rfl rfl) ?_
        refine s_nil ?_
        refine q_then ?_
        refine c_env [(2, .pointer (some ⟨b26, 0, none⟩)), (5, .pointer (some ⟨b47, 0, none⟩)), (6, .pointer (some ⟨b46, 0, none⟩)), (7, .int .i64 ((s : Nat) : Int)), (44, .bool (decide (((s : Nat) : Int) < ((J.us.length : Nat) : Int))))] ⟨rfl, rfl, rfl, rfl, rfl, trivial⟩ ?_
        refine c_dec (p := ((s : Nat) : Int) < ((J.us.length : Nat) : Int)) rfl (fun h49 => ?_) (fun h49 => ?_)
        · skip
          refine c_skip ?_
          refine q_then ?_
          refine c_env [(2, .pointer (some ⟨b26, 0, none⟩)), (5, .pointer (some ⟨b47, 0, none⟩)), (6, .pointer (some ⟨b46, 0, none⟩)), (7, .int .i64 ((s : Nat) : Int))] ⟨rfl, rfl, rfl, rfl, trivial⟩ ?_
          refine c_seq ?_
          refine c_block ?_
          refine c_seq ?_
          refine c_reg ?_
          refine s_val rfl rfl (r_ldA (cs := [.slice A1 J.us.length c2, .int .i64 J.parts, .slice A6 J.map.length c7, .slice none 0 0, .slice A16 J.red.length c17, .int .i64 J.chunk, .int .i64 J.window, .int .i64 2000, .slice A21 J.marks.length c22]) rfl ty43 rfl rfl (H.cellsI 1 rfl rfl)) ?_
          refine s_val rfl rfl (r_mv rfl rfl) ?_
          refine sc (split_ok (.slice A1 J.us.length c2) (.slice A6 J.map.length c7) (.slice none 0 0) (.slice A16 J.red.length c17) (.slice A21 J.marks.length c22) (altJ J [] J.chunk J.window 2000 J.marks) (ok_alt hJ bad_nil (fun i hi => by cases hi) hJ.chunk hJ.window (by omega) hJ.marks.1 hJ.marks.2) s (show s < J.us.length by omega)) H (lR 0 rfl (lR 2 rfl (lX (fun F _ _ => rsl_nil _ _ F trivial (by decide)) (lR 4 rfl (lR 5 rfl (lR 6 rfl l0)))))) rfl rfl (e_fn kn25 rfl rfl) ?_
          rintro _ _ w ⟨u50, rfl, rfl⟩ H
          replace H : Hd w0 F0 w [osl kPair u50 ((splitM dg (altJ J [] J.chunk J.window 2000 J.marks) s).1), blk b46 [.slice A1 J.us.length c2, .int .i64 J.parts, .slice A6 J.map.length c7, .slice (some ⟨b48, 0, none⟩) 8 8, .slice A16 J.red.length c17, .int .i64 J.chunk, .int .i64 J.window, .int .i64 2000, .slice A21 J.marks.length c22] 43, blk b47 [.slice A1 J.us.length c2, .int .i64 J.parts, .slice A6 J.map.length c7, .slice none 0 0, .slice A16 J.red.length c17, .int .i64 J.chunk, .int .i64 J.window, .int .i64 2000, .slice A21 J.marks.length c22] 43, blk b26 [.slice A1 J.us.length c2, .int .i64 J.parts, .slice A6 J.map.length c7, .slice A11 J.comb.length c12, .slice A16 J.red.length c17, .int .i64 J.chunk, .int .i64 J.window, .int .i64 2000, .slice A21 J.marks.length c22] 43, osl kIns (.slice (some ⟨b48, 0, none⟩) 8 8) combP] [rsl (kHd kPair) (.slice A1 J.us.length c2) J.us, rsl (kSl kPair) (.slice A1 J.us.length c2) ss, rsl kIns (.slice A6 J.map.length c7) J.map, rsl kIns (.slice A11 J.comb.length c12) J.comb, rsl kIns (.slice A16 J.red.length c17) J.red, rsl (kInt .i64) (.slice A21 J.marks.length c22) J.marks, gl] := H
          refine s_val rfl rfl (r_mv rfl rfl) ?_
          refine s_val rfl rfl (r_ex rfl rfl rfl) ?_
          refine s_val rfl rfl (r_ex rfl rfl rfl) ?_
          refine s_val rfl rfl (r_as rfl rfl) ?_
          refine s_val rfl rfl (r_as rfl rfl) ?_
          refine s_nil ?_
          refine q_then ?_
          refine c_env [(2, .pointer (some ⟨b26, 0, none⟩)), (5, .pointer (some ⟨b47, 0, none⟩)), (6, .pointer (some ⟨b46, 0, none⟩)), (7, .int .i64 ((s : Nat) : Int)), (8, u50), (9, .int .i64 ((splitM dg (altJ J [] J.chunk J.window 2000 J.marks) s).2))] ⟨rfl, rfl, rfl, rfl, rfl, rfl, trivial⟩ ?_
          refine c_seq ?_
          refine c_reg ?_
          refine s_val rfl rfl (r_ldA (cs := [.slice A1 J.us.length c2, .int .i64 J.parts, .slice A6 J.map.length c7, .slice (some ⟨b48, 0, none⟩) 8 8, .slice A16 J.red.length c17, .int .i64 J.chunk, .int .i64 J.window, .int .i64 2000, .slice A21 J.marks.length c22]) rfl ty43 rfl rfl (H.cellsI 1 rfl rfl)) ?_
          refine s_val rfl rfl (r_mv rfl rfl) ?_
          refine sc (split_ok (.slice A1 J.us.length c2) (.slice A6 J.map.length c7) (.slice (some ⟨b48, 0, none⟩) 8 8) (.slice A16 J.red.length c17) (.slice A21 J.marks.length c22) (altJ J combP J.chunk J.window 2000 J.marks) (ok_alt hJ combP_bad combP_in64 hJ.chunk hJ.window (by omega) hJ.marks.1 hJ.marks.2) s (show s < J.us.length by omega)) H (lR 0 rfl (lR 2 rfl (lA 4 rfl own_rd (lR 4 rfl (lR 5 rfl (lR 6 rfl l0)))))) rfl rfl (e_fn kn25 rfl rfl) ?_
          rintro _ _ w ⟨u51, rfl, rfl⟩ H
          rw [split_plain num_in hJ] at H ⊢
          replace H : Hd w0 F0 w [osl kPair u51 ((splitM dg (altJ J [] J.chunk J.window 2000 J.marks) s).1), osl kPair u50 ((splitM dg (altJ J [] J.chunk J.window 2000 J.marks) s).1), blk b46 [.slice A1 J.us.length c2, .int .i64 J.parts, .slice A6 J.map.length c7, .slice (some ⟨b48, 0, none⟩) 8 8, .slice A16 J.red.length c17, .int .i64 J.chunk, .int .i64 J.window, .int .i64 2000, .slice A21 J.marks.length c22] 43, blk b47 [.slice A1 J.us.length c2, .int .i64 J.parts, .slice A6 J.map.length c7, .slice none 0 0, .slice A16 J.red.length c17, .int .i64 J.chunk, .int .i64 J.window, .int .i64 2000, .slice A21 J.marks.length c22] 43, blk b26 [.slice A1 J.us.length c2, .int .i64 J.parts, .slice A6 J.map.length c7, .slice A11 J.comb.length c12, .slice A16 J.red.length c17, .int .i64 J.chunk, .int .i64 J.window, .int .i64 2000, .slice A21 J.marks.length c22] 43, osl kIns (.slice (some ⟨b48, 0, none⟩) 8 8) combP] [rsl (kHd kPair) (.slice A1 J.us.length c2) J.us, rsl (kSl kPair) (.slice A1 J.us.length c2) ss, rsl kIns (.slice A6 J.map.length c7) J.map, rsl kIns (.slice A11 J.comb.length c12) J.comb, rsl kIns (.slice A16 J.red.length c17) J.red, rsl (kInt .i64) (.slice A21 J.marks.length c22) J.marks, gl] := H
          refine s_val rfl rfl (r_mv rfl rfl) ?_
          refine s_val rfl rfl (r_ex rfl rfl rfl) ?_
          refine s_val rfl rfl (r_ex rfl rfl rfl) ?_
          refine s_val rfl rfl (r_as rfl rfl) ?_
          refine s_val rfl rfl (r_as rfl rfl) ?_
          refine s_nil ?_
          refine q_then ?_
          refine c_env [(2, .pointer (some ⟨b26, 0, none⟩)), (5, .pointer (some ⟨b47, 0, none⟩)), (6, .pointer (some ⟨b46, 0, none⟩)), (7, .int .i64 ((s : Nat) : Int)), (8, u50), (9, .int .i64 ((splitM dg (altJ J [] J.chunk J.window 2000 J.marks) s).2)), (10, u51), (11, .int .i64 ((splitM dg (altJ J [] J.chunk J.window 2000 J.marks) s).2))] ⟨rfl, rfl, rfl, rfl, rfl, rfl, rfl, rfl, trivial⟩ ?_
          refine c_seq ?_
          refine c_reg ?_
          refine s_val rfl rfl (r_mv rfl rfl) ?_
          refine s_val rfl rfl (r_mv rfl rfl) ?_
          refine s_val rfl rfl (r_ne rfl rfl rfl) ?_
          refine s_val rfl rfl (r_mv rfl rfl) ?_
          refine s_dec (d := 62) (p := ((splitM dg (altJ J [] J.chunk J.window 2000 J.marks) s).2) ≠ ((splitM dg (altJ J [] J.chunk J.window 2000 J.marks) s).2)) rfl (fun h52 => ?_) (fun h52 => ?_)
          · exact (h52 rfl).elim
          · skip
            refine s_val rfl rfl (r_mv rfl rfl) ?_
            refine s_val rfl rfl (r_mv rfl rfl) ?_
            refine sc (samePairs_ok u50 u51 ((splitM dg (altJ J [] J.chunk J.window 2000 J.marks) s).1) ((splitM dg (altJ J [] J.chunk J.window 2000 J.marks) s).1)) H (lA 1 rfl own_rd (lA 0 rfl own_rd l0)) rfl rfl (e_fn kn19 rfl rfl) ?_
            rintro _ _ w ⟨rfl, rfl⟩ H
            refine s_val rfl rfl (r_notP rfl rfl) ?_
            refine s_val rfl rfl (r_pickF rfl rfl rfl) ?_
            refine s_nil ?_
            refine q_then ?_
            refine c_env [(2, .pointer (some ⟨b26, 0, none⟩)), (5, .pointer (some ⟨b47, 0, none⟩)), (6, .pointer (some ⟨b46, 0, none⟩)), (7, .int .i64 ((s : Nat) : Int)), (67, .bool (decide (¬ (((splitM dg (altJ J [] J.chunk J.window 2000 J.marks) s).1) = ((splitM dg (altJ J [] J.chunk J.window 2000 J.marks) s).1)))))] ⟨rfl, rfl, rfl, rfl, rfl, trivial⟩ ?_
            refine c_dec (p := ¬ (((splitM dg (altJ J [] J.chunk J.window 2000 J.marks) s).1) = ((splitM dg (altJ J [] J.chunk J.window 2000 J.marks) s).1))) rfl (fun h53 => ?_) (fun h53 => ?_)
            · exact (h53 rfl).elim
            · skip
              refine c_skip ?_
              refine q_blockN ?_
              refine q_then ?_
              refine c_env [(2, .pointer (some ⟨b26, 0, none⟩)), (5, .pointer (some ⟨b47, 0, none⟩)), (6, .pointer (some ⟨b46, 0, none⟩)), (7, .int .i64 ((s : Nat) : Int))] ⟨rfl, rfl, rfl, rfl, trivial⟩ ?_
              refine c_reg ?_
              refine s_val rfl rfl (r_mv rfl rfl) ?_
              refine s_val rfl rfl (r_add (z := ((s + 1 : Nat) : Int)) rfl rfl rfl (by rw [w64 (by omega) (by omega)]; omega)) ?_
              refine s_val rfl rfl (r_as rfl rfl) ?_
              refine s_nil ?_
              replace H := H.pick 5 rfl
              replace H := H.pick 5 rfl
              replace H := H.pick 5 rfl
              replace H := H.pick 5 rfl
              replace H := H.keep 4
              replace H := H.pick 3 rfl
              replace H := H.pick 3 rfl
              replace H := H.pick 3 rfl
              replace H := H.pick 3 rfl
              exact q_round (s := s) (s + 1) ⟨rfl, rfl, rfl, rfl, trivial⟩ ⟨H, by (try dsimp only); omega⟩ (by (try dsimp only); omega)
        · skip
          refine c_exit ?_
          refine q_thenE ?_
          refine q_thenE ?_
          refine q_blockE ?_
          refine q_then ?_
          refine c_env [(5, .pointer (some ⟨b47, 0, none⟩)), (6, .pointer (some ⟨b46, 0, none⟩))] ⟨rfl, rfl, trivial⟩ ?_
          refine c_seq ?_
          refine c_reg ?_
          refine s_val rfl rfl (r_ldA (cs := [.slice A1 J.us.length c2, .int .i64 J.parts, .slice A6 J.map.length c7, .slice none 0 0, .slice A16 J.red.length c17, .int .i64 J.chunk, .int .i64 J.window, .int .i64 2000, .slice A21 J.marks.length c22]) rfl ty43 rfl rfl (H.cellsI 1 rfl rfl)) ?_
          refine sc (whole_ok (.slice A1 J.us.length c2) (.slice A6 J.map.length c7) (.slice none 0 0) (.slice A16 J.red.length c17) (.slice A21 J.marks.length c22) (altJ J [] J.chunk J.window 2000 J.marks) (ok_alt hJ bad_nil (fun i hi => by cases hi) hJ.chunk hJ.window (by omega) hJ.marks.1 hJ.marks.2)) H (lR 0 rfl (lR 2 rfl (lX (fun F _ _ => rsl_nil _ _ F trivial (by decide)) (lR 4 rfl (lR 5 rfl (lR 6 rfl l0)))))) rfl rfl (e_fn kn24 rfl rfl) ?_
          rintro _ _ w ⟨u54, zs55, rfl, rfl, hz56⟩ H
          refine s_val rfl rfl (r_mv rfl rfl) ?_
          refine s_val rfl rfl (r_ex rfl rfl rfl) ?_
          refine s_val rfl rfl (r_ex rfl rfl rfl) ?_
          refine s_val rfl rfl (r_ex rfl rfl rfl) ?_
          refine s_val rfl rfl (r_as rfl rfl) ?_
          refine s_val rfl rfl (r_as rfl rfl) ?_
          refine s_val rfl rfl (r_as rfl rfl) ?_
          refine s_nil ?_
          refine q_then ?_
          replace H : Hd _ _ _ [osl (kHd kPair) u54 zs55, blk b46 [.slice A1 J.us.length c2, .int .i64 J.parts, .slice A6 J.map.length c7, .slice (some ⟨b48, 0, none⟩) 8 8, .slice A16 J.red.length c17, .int .i64 J.chunk, .int .i64 J.window, .int .i64 2000, .slice A21 J.marks.length c22] 43, blk b47 [.slice A1 J.us.length c2, .int .i64 J.parts, .slice A6 J.map.length c7, .slice none 0 0, .slice A16 J.red.length c17, .int .i64 J.chunk, .int .i64 J.window, .int .i64 2000, .slice A21 J.marks.length c22] 43, blk b26 [.slice A1 J.us.length c2, .int .i64 J.parts, .slice A6 J.map.length c7, .slice A11 J.comb.length c12, .slice A16 J.red.length c17, .int .i64 J.chunk, .int .i64 J.window, .int .i64 2000, .slice A21 J.marks.length c22] 43, osl kIns (.slice (some ⟨b48, 0, none⟩) 8 8) combP] [rsl (kHd kPair) (.slice A1 J.us.length c2) J.us, rsl (kSl kPair) (.slice A1 J.us.length c2) ss, rsl kIns (.slice A6 J.map.length c7) J.map, rsl kIns (.slice A11 J.comb.length c12) J.comb, rsl kIns (.slice A16 J.red.length c17) J.red, rsl (kInt .i64) (.slice A21 J.marks.length c22) J.marks, gl] := H
          refine c_env [(6, .pointer (some ⟨b46, 0, none⟩)), (12, u54), (13, .int .i64 ((wholeM dg (altJ J [] J.chunk J.window 2000 J.marks)).2.1)), (14, .int .i64 ((wholeM dg (altJ J [] J.chunk J.window 2000 J.marks)).2.2))] ⟨rfl, rfl, rfl, rfl, trivial⟩ ?_
          refine c_seq ?_
          refine c_reg ?_
          refine s_val rfl rfl (r_ldA (cs := [.slice A1 J.us.length c2, .int .i64 J.parts, .slice A6 J.map.length c7, .slice (some ⟨b48, 0, none⟩) 8 8, .slice A16 J.red.length c17, .int .i64 J.chunk, .int .i64 J.window, .int .i64 2000, .slice A21 J.marks.length c22]) rfl ty43 rfl rfl (H.cellsI 1 rfl rfl)) ?_
          refine sc (whole_ok (.slice A1 J.us.length c2) (.slice A6 J.map.length c7) (.slice (some ⟨b48, 0, none⟩) 8 8) (.slice A16 J.red.length c17) (.slice A21 J.marks.length c22) (altJ J combP J.chunk J.window 2000 J.marks) (ok_alt hJ combP_bad combP_in64 hJ.chunk hJ.window (by omega) hJ.marks.1 hJ.marks.2)) H (lR 0 rfl (lR 2 rfl (lA 4 rfl own_rd (lR 4 rfl (lR 5 rfl (lR 6 rfl l0)))))) rfl rfl (e_fn kn24 rfl rfl) ?_
          rintro _ _ w ⟨u57, zs58, rfl, rfl, hz59⟩ H
          rw [whole_plain num_in hJ] at hz59 ⊢
          refine s_val rfl rfl (r_mv rfl rfl) ?_
          refine s_val rfl rfl (r_ex rfl rfl rfl) ?_
          refine s_val rfl rfl (r_ex rfl rfl rfl) ?_
          refine s_val rfl rfl (r_ex rfl rfl rfl) ?_
          refine s_val rfl rfl (r_as rfl rfl) ?_
          refine s_val rfl rfl (r_as rfl rfl) ?_
          refine s_val rfl rfl (r_as rfl rfl) ?_
          refine s_nil ?_
          refine q_then ?_
          replace H : Hd _ _ _ [osl (kHd kPair) u57 zs58, osl (kHd kPair) u54 zs55, blk b46 [.slice A1 J.us.length c2, .int .i64 J.parts, .slice A6 J.map.length c7, .slice (some ⟨b48, 0, none⟩) 8 8, .slice A16 J.red.length c17, .int .i64 J.chunk, .int .i64 J.window, .int .i64 2000, .slice A21 J.marks.length c22] 43, blk b47 [.slice A1 J.us.length c2, .int .i64 J.parts, .slice A6 J.map.length c7, .slice none 0 0, .slice A16 J.red.length c17, .int .i64 J.chunk, .int .i64 J.window, .int .i64 2000, .slice A21 J.marks.length c22] 43, blk b26 [.slice A1 J.us.length c2, .int .i64 J.parts, .slice A6 J.map.length c7, .slice A11 J.comb.length c12, .slice A16 J.red.length c17, .int .i64 J.chunk, .int .i64 J.window, .int .i64 2000, .slice A21 J.marks.length c22] 43, osl kIns (.slice (some ⟨b48, 0, none⟩) 8 8) combP] [rsl (kHd kPair) (.slice A1 J.us.length c2) J.us, rsl (kSl kPair) (.slice A1 J.us.length c2) ss, rsl kIns (.slice A6 J.map.length c7) J.map, rsl kIns (.slice A11 J.comb.length c12) J.comb, rsl kIns (.slice A16 J.red.length c17) J.red, rsl (kInt .i64) (.slice A21 J.marks.length c22) J.marks, gl] := H
          refine c_env [(12, u54), (13, .int .i64 ((wholeM dg (altJ J [] J.chunk J.window 2000 J.marks)).2.1)), (14, .int .i64 ((wholeM dg (altJ J [] J.chunk J.window 2000 J.marks)).2.2)), (15, u57), (16, .int .i64 ((wholeM dg (altJ J [] J.chunk J.window 2000 J.marks)).2.1)), (17, .int .i64 ((wholeM dg (altJ J [] J.chunk J.window 2000 J.marks)).2.2))] ⟨rfl, rfl, rfl, rfl, rfl, rfl, trivial⟩ ?_
          refine c_seq ?_
          refine c_reg ?_
          refine s_val rfl rfl (r_mv rfl rfl) ?_
          refine s_val rfl rfl (r_mv rfl rfl) ?_
          refine s_val rfl rfl (r_eq rfl rfl rfl) ?_
          refine s_val rfl rfl (r_mv rfl rfl) ?_
          refine s_dec (d := 83) (p := ((wholeM dg (altJ J [] J.chunk J.window 2000 J.marks)).2.1) = ((wholeM dg (altJ J [] J.chunk J.window 2000 J.marks)).2.1)) rfl (fun h60 => ?_) (fun h60 => ?_)
          · skip
            refine s_val rfl rfl (r_mv rfl rfl) ?_
            refine s_val rfl rfl (r_mv rfl rfl) ?_
            refine s_val rfl rfl (r_eq rfl rfl rfl) ?_
            refine s_val rfl rfl (r_pickT rfl rfl rfl) ?_
            refine s_val rfl rfl (r_mv rfl rfl) ?_
            refine s_dec (d := 88) (p := ((wholeM dg (altJ J [] J.chunk J.window 2000 J.marks)).2.2) = ((wholeM dg (altJ J [] J.chunk J.window 2000 J.marks)).2.2)) rfl (fun h61 => ?_) (fun h61 => ?_)
            · skip
              refine s_val rfl rfl (r_mv rfl rfl) ?_
              refine s_val rfl rfl (r_mv rfl rfl) ?_
              refine sc (sameRuns_ok u54 zs55 u57 zs58) H (lA 1 rfl own_rd (lA 0 rfl own_rd l0)) rfl rfl (e_fn kn29 rfl rfl) ?_
              rintro _ _ w ⟨rfl, rfl⟩ H
              refine s_val rfl rfl (r_pickT rfl rfl rfl) ?_
              refine s_val rfl rfl (r_mv rfl rfl) ?_
              refine s_dec (d := 93) (p := (zs55 : List (Value × List Pair)).map (·.2) = (zs58 : List (Value × List Pair)).map (·.2)) rfl (fun h62 => ?_) (fun h62 => ?_)
              · skip
                refine sc awake13_ok H (lR 6 rfl l0) rfl rfl (e_fn kn23 rfl rfl) ?_
                rintro _ _ w ⟨rfl, rfl⟩ H
                refine s_val rfl rfl (r_pickT rfl rfl rfl) ?_
                refine s_val rfl rfl (r_as rfl rfl) ?_
                refine s_nil ?_
                refine q_then ?_
                refine c_env [(4, .bool true)] ⟨rfl, trivial⟩ ?_
                refine c_ret ?_
                refine q_ret1 rfl rfl ?_
                replace H := H.keep 0
                replace H : Hd _ _ _ [] [rsl (kHd kPair) (.slice A1 J.us.length c2) J.us, rsl (kSl kPair) (.slice A1 J.us.length c2) ss, rsl kIns (.slice A6 J.map.length c7) J.map, rsl kIns (.slice A11 J.comb.length c12) J.comb, rsl kIns (.slice A16 J.red.length c17) J.red, rsl (kInt .i64) (.slice A21 J.marks.length c22) J.marks, gl] := H
                exact fin ⟨rfl, rfl⟩ H
              · exact (h62 (hz56.trans hz59.symm)).elim
            · exact (h61 rfl).elim
          · exact (h60 rfl).elim

end Go.Proofs.YtlpgdkbokakniaaGreatDoor.X

set_option linter.unusedVariables false
set_option linter.unusedSimpArgs false
namespace Go.Proofs.YtlpgdkbokakniaaGreatDoor.X
open Go
theorem modelPlain_ok (vS vM vC vR vK : Value) (ss : List (List Pair)) (map comb red : List Ins) (marks : List Int) (parts chunk window fuel : Int) (wj : ((∀ x ∈ ss, (∀ p ∈ x, p.key.size ≤ 9223372036854775807 ∧ p.val.size ≤ 9223372036854775807) ∧ x.length ≤ 9223372036854775807) ∧ ss.length ≤ 9223372036854775807) ∧ ((∀ p ∈ map, In64 p.op ∧ In64 p.a ∧ p.s.size ≤ 9223372036854775807) ∧ map.length ≤ 9223372036854775807) ∧ ((∀ p ∈ comb, In64 p.op ∧ In64 p.a ∧ p.s.size ≤ 9223372036854775807) ∧ comb.length ≤ 9223372036854775807) ∧ ((∀ p ∈ red, In64 p.op ∧ In64 p.a ∧ p.s.size ≤ 9223372036854775807) ∧ red.length ≤ 9223372036854775807) ∧ (∀ x ∈ marks, In64 x) ∧ marks.length ≤ 9223372036854775807) (wn : In64 parts ∧ In64 chunk ∧ In64 window ∧ In64 fuel) (k1 : Int) (g1 : In64 k1) :
    Cn Tryz.prog 6 [.agg #[vS, .int .i64 parts, vM, vC, vR, .int .i64 chunk, .int .i64 window, .int .i64 fuel, vK], .int .i64 k1] [] [rsl (kSl kPair) vS ss, rsl kIns vM map, rsl kIns vC comb, rsl kIns vR red, rsl (kInt .i64) vK marks, gl] (fun v Bs => v = .bool true ∧ Bs = []) :=
  Cn.heads0 fun us hus => modelPlainC_ok vS vM vC vR vK ⟨us, parts, map, comb, red, chunk, window, fuel, marks⟩ ss (fun i hi => (wj.2.1.1 i hi).2.1) (fun i hi => (wj.2.2.1.1 i hi).2.1) (fun i hi => (wj.2.2.2.1.1 i hi).2.1) k1

end Go.Proofs.YtlpgdkbokakniaaGreatDoor.X

set_option linter.unusedVariables false
set_option linter.unusedSimpArgs false
namespace Go.Proofs.YtlpgdkbokakniaaGreatDoor.X
open Go
theorem v_foot {P : Program} {W : World} {name : String} {g : Nat} {cs : Array Value} (hg : P.globalNamed name = some g) (h : W.var? P name = some cs) : Old W g := by
  unfold World.var? at h
  rw [hg] at h
  simp only [Option.bind_some] at h
  show g < W.heap.size
  rcases Nat.lt_or_ge g W.heap.size with h' | h'
  · exact h'
  · simp [Array.getElem?_eq_none h'] at h
theorem star2 : "*" ++ "errors.errorString" = "*errors.errorString" := by decide
theorem ptrRow (u : TypeId) (h : Tryz.prog.typeName? 3 u = some "*errors.errorString") : u = 219 := typeName_ptr_named (nm := "errors.errorString") (by rw [star2]; kernel_rfl) (by kernel_rfl) (by decide) u (by rw [star2]; exact h)
theorem gn0 : Tryz.prog.globalNamed "internal/strconv.uint64pow10" = some 2 := by kernel_rfl
theorem gt0 : (Tryz.prog.globals[2]?).map (·.type) = some 215 := by kernel_rfl
theorem gn1 : Tryz.prog.globalNamed "strconv.ErrSyntax" = some 0 := by kernel_rfl
theorem gt1 : (Tryz.prog.globals[0]?).map (·.type) = some 168 := by kernel_rfl
theorem gn2 : Tryz.prog.globalNamed "strconv.ErrRange" = some 1 := by kernel_rfl
theorem gt2 : (Tryz.prog.globals[1]?).map (·.type) = some 168 := by kernel_rfl
theorem lu168 : Tryz.prog.underlying 168 = some (.interface (Tryz.prog.methodsAt 168)) := by kernel_rfl
theorem lu215 : Tryz.prog.underlying 215 = some (.array 20 86) := by kernel_rfl
theorem lu86 : Tryz.prog.underlying 86 = some (.int .u64) := by kernel_rfl
theorem lu219 : Tryz.prog.underlying 219 = some (.pointer 221) := by kernel_rfl
theorem lu221 : Tryz.prog.underlying 221 = some (.struct #[⟨ "s", 9, 0, false, "", "errors", 0⟩]) := by kernel_rfl
theorem lu9 : Tryz.prog.underlying 9 = some (.string) := by kernel_rfl
theorem lc86 : Tryz.prog.cellsOf 86 = 1 := by kernel_rfl
theorem lc215 : Tryz.prog.cellsOf 215 = 20 := by kernel_rfl
theorem lc221 : Tryz.prog.cellsOf 221 = 1 := by kernel_rfl
theorem lc9 : Tryz.prog.cellsOf 9 = 1 := by kernel_rfl
theorem gl_laid {W : World} (h : laidMet Tryz.prog Rows.foldEmptyRow.laid W) : gl.P W (Old W) := by
  refine ⟨?_, ?_, ?_⟩
  · have h0 : laidMet Tryz.prog [("internal/strconv.uint64pow10", Lib.tabData .u64 Lib.pow10Tab)] W := by
      have e : Rows.foldEmptyRow.laid.filter (fun x => x.1 == "internal/strconv.uint64pow10") = [("internal/strconv.uint64pow10", Lib.tabData .u64 Lib.pow10Tab)] := by kernel_rfl
      have := h.filter (fun x => x.1 == "internal/strconv.uint64pow10"); rw [e] at this; exact this
    have hv := Lib.tabIs_of_head gn0 gt0 lu215 lu86 lc86 lc215 h0
    exact ⟨_, gn0, v_foot gn0 hv, _, hv, rfl⟩
  · have h0 : laidMet Tryz.prog [("strconv.ErrSyntax", Rows.laid_strconv_ErrSyntax)] W := by
      have e : Rows.foldEmptyRow.laid.filter (fun x => x.1 == "strconv.ErrSyntax") = [("strconv.ErrSyntax", Rows.laid_strconv_ErrSyntax)] := by kernel_rfl
      have := h.filter (fun x => x.1 == "strconv.ErrSyntax"); rw [e] at this; exact this
    obtain ⟨a0, s0, hv, -⟩ := laid_sentinel h0 gn1 gt1 lu168 ptrRow lu219 lu221 rfl rfl lu9 lc221 lc9
    exact ⟨_, gn1, v_foot gn1 hv, _, hv, _, _, rfl⟩
  · have h0 : laidMet Tryz.prog [("strconv.ErrRange", Rows.laid_strconv_ErrRange)] W := by
      have e : Rows.foldEmptyRow.laid.filter (fun x => x.1 == "strconv.ErrRange") = [("strconv.ErrRange", Rows.laid_strconv_ErrRange)] := by kernel_rfl
      have := h.filter (fun x => x.1 == "strconv.ErrRange"); rw [e] at this; exact this
    obtain ⟨a0, s0, hv, -⟩ := laid_sentinel h0 gn2 gt2 lu168 ptrRow lu219 lu221 rfl rfl lu9 lc221 lc9
    exact ⟨_, gn2, v_foot gn2 hv, _, hv, _, _, rfl⟩
end Go.Proofs.YtlpgdkbokakniaaGreatDoor.X

