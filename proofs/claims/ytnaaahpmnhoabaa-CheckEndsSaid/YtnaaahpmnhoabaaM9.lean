/- The places that jumps go to. -/
import Derived.Test.YtnaaahpmnhoabaaM8
set_option linter.unusedVariables false
set_option linter.unusedSimpArgs false
namespace Go.Proofs.Ytnaaahpmnhoabaa.X
open Go
set_option maxHeartbeats 1000000 in
theorem ptarg_ok (vxs : Value) (xs : List Ins) (hb : xs.length ≤ 1000000) :
    Cn Try.prog 68 [vxs] [] [rsl kIns vxs xs] (fun v Bs => Bs = [osl (kInt .i64) v (targI xs)]) := by
  intro w0 F0 H
  obtain ⟨A1, c2, rfl, hc3, hm4, hp5⟩ := H.fR 0 rfl
  refine enter (args := [.slice A1 xs.length c2]) Try.func68 rfl rfl (Nat.le_of_ble_eq_true rfl) ?_
  refine c_seq ?_
  refine c_reg ?_
  refine s_val rfl rfl (r_as rfl rfl) ?_
  refine s_nil ?_
  refine q_then ?_
  replace H : Hd _ _ _ [] [rsl kIns (.slice A1 xs.length c2) xs] := H
  refine c_env [(0, .slice A1 xs.length c2), (2, .slice none 0 0)] ⟨rfl, rfl, trivial⟩ ?_
  refine c_seq ?_
  refine c_seq ?_
  refine c_reg ?_
  refine s_val rfl rfl (r_mv rfl rfl) ?_
  refine sc (pMay_ok (.slice A1 xs.length c2) xs) H (lR 0 rfl l0) rfl rfl (e_fn kn71 rfl rfl) ?_
  rintro _ _ w ⟨rfl, rfl⟩ H
  refine s_val rfl rfl (r_notP rfl rfl) ?_
  refine s_nil ?_
  refine q_then ?_
  refine c_env [(0, .slice A1 xs.length c2), (2, .slice none 0 0), (8, .bool (decide (¬ (badI xs < 0))))] ⟨rfl, rfl, rfl, trivial⟩ ?_
  refine c_dec (p := ¬ (badI xs < 0)) rfl (fun h6 => ?_) (fun h6 => ?_)
  · skip
    refine c_seq ?_
    refine c_reg ?_
    refine s_val rfl rfl (r_as rfl rfl) ?_
    refine s_nil ?_
    refine q_then ?_
    refine c_env [(0, .slice A1 xs.length c2), (2, .slice none 0 0)] ⟨rfl, rfl, trivial⟩ ?_
    refine c_ret ?_
    refine q_thenR ?_
    refine q_ret1 rfl rfl ?_
    replace H := H.newnil (kInt .i64)
    have e : targI xs = [] := if_neg h6
    rw [← e] at H
    exact fin rfl H
  · skip
    refine c_skip ?_
    refine q_then ?_
    refine c_env [(0, .slice A1 xs.length c2), (2, .slice none 0 0)] ⟨rfl, rfl, trivial⟩ ?_
    refine c_seq ?_
    refine c_reg ?_
    refine s_val rfl rfl (r_as rfl rfl) ?_
    refine s_nil ?_
    refine q_then ?_
    refine c_env [(0, .slice A1 xs.length c2), (2, .slice none 0 0), (3, .slice none 0 0)] ⟨rfl, rfl, rfl, trivial⟩ ?_
    refine c_seq ?_
    refine c_seq ?_
    refine c_reg ?_
    refine s_val rfl rfl (r_mv rfl rfl) ?_
    refine s_val rfl rfl (r_lenL rfl un79 rfl) ?_
    refine s_val rfl rfl (r_mv rfl rfl) ?_
    refine s_nil ?_
    refine q_then ?_
    refine c_env [(2, .slice none 0 0), (3, .slice none 0 0), (9, .slice A1 xs.length c2), (10, .int .i64 ((xs.length : Nat) : Int)), (11, .int .i64 0)] ⟨rfl, rfl, rfl, rfl, rfl, trivial⟩ ?_
    refine c_block ?_
    replace H := H.newnil (kInt .i64)
    refine c_loop (σ := Nat × Value) (fun (k, l) => [(2, .slice none 0 0), (3, l), (9, .slice A1 xs.length c2), (10, .int .i64 ((xs.length : Nat) : Int)), (11, .int .i64 ((k : Nat) : Int))]) (fun (k, l) w => (Hd w0 F0 w [osl (kInt .i64) l (jlI xs k)] [rsl kIns (.slice A1 xs.length c2) xs]) ∧ (k ≤ xs.length)) (fun (k, l) => xs.length - k) (0, .slice none 0 0) ⟨rfl, rfl, rfl, rfl, rfl, trivial⟩ ⟨H, by (try dsimp only); omega⟩ ?_
    rintro ⟨k, l⟩ w ⟨H, hk⟩
    have hjl := jl_len xs k
    refine c_seq ?_
    refine c_reg ?_
    refine s_val rfl rfl (r_lt rfl rfl rfl) ?_
    refine s_nil ?_
    refine q_then ?_
    refine c_env [(2, .slice none 0 0), (3, l), (9, .slice A1 xs.length c2), (10, .int .i64 ((xs.length : Nat) : Int)), (11, .int .i64 ((k : Nat) : Int)), (12, .bool (decide (((k : Nat) : Int) < ((xs.length : Nat) : Int))))] ⟨rfl, rfl, rfl, rfl, rfl, rfl, trivial⟩ ?_
    refine c_seq ?_
    refine c_dec (p := ((k : Nat) : Int) < ((xs.length : Nat) : Int)) rfl (fun h7 => ?_) (fun h7 => ?_)
    · skip
      refine c_skip ?_
      refine q_then ?_
      refine c_env [(2, .slice none 0 0), (3, l), (9, .slice A1 xs.length c2), (10, .int .i64 ((xs.length : Nat) : Int)), (11, .int .i64 ((k : Nat) : Int))] ⟨rfl, rfl, rfl, rfl, rfl, trivial⟩ ?_
      refine c_seq ?_
      refine c_block ?_
      refine c_seq ?_
      refine c_reg ?_
      obtain ⟨x8, hx9⟩ : ∃ z9, xs[k]? = some z9 := ⟨_, List.getElem?_eq_getElem (show k < xs.length by omega)⟩
      have th10 := H.thR 0 rfl hx9
      refine s_val rfl rfl (r_iaE (p := oOf A1 + k * 3) rfl sl79 rfl rfl (by omega) (by omega) th10 rfl) ?_
      refine s_val rfl rfl (r_ldA (cs := [.int .i64 x8.op, .int .i64 x8.a, .string x8.s]) rfl ty86 rfl rfl (H.elsR 0 rfl hx9 rfl)) ?_
      refine s_alloc rfl rfl rfl zr86 H (fun b11 w H => ?_)
      refine s_st rfl rfl rfl ty86 rfl rfl H rfl (Nat.le_of_ble_eq_true rfl) (fun u hu => by simp [Value.cells] at hu; rcases hu with rfl | rfl | rfl <;> rfl) (fun w H => ?_)
      replace H : Hd _ _ _ [blk b11 [.int .i64 x8.op, .int .i64 x8.a, .string x8.s] 86, osl (kInt .i64) l (jlI xs k)] [rsl kIns (.slice A1 xs.length c2) xs] := H
      refine s_nil ?_
      refine q_then ?_
      refine c_env [(2, .slice none 0 0), (3, l), (5, .pointer (some ⟨b11, 0, none⟩)), (9, .slice A1 xs.length c2), (10, .int .i64 ((xs.length : Nat) : Int)), (11, .int .i64 ((k : Nat) : Int))] ⟨rfl, rfl, rfl, rfl, rfl, rfl, trivial⟩ ?_
      refine c_seq ?_
      refine c_reg ?_
      refine s_val rfl rfl (r_fa rfl fo86_0 rfl) ?_
      refine s_val rfl rfl (r_ld rfl ty3 rfl (H.cellI 0 rfl rfl)) ?_
      refine s_val rfl rfl (r_eq rfl rfl rfl) ?_
      refine s_val rfl rfl (r_mv rfl rfl) ?_
      refine s_dec (d := 18) (p := x8.op = 19) rfl (fun h12 => ?_) (fun h12 => ?_)
      · skip
        refine s_no rfl rfl ?_
        refine s_no rfl rfl ?_
        refine s_no rfl rfl ?_
        refine s_val rfl rfl (r_pickT rfl rfl rfl) ?_
        refine s_nil ?_
        refine q_then ?_
        refine c_env [(2, .slice none 0 0), (3, l), (5, .pointer (some ⟨b11, 0, none⟩)), (9, .slice A1 xs.length c2), (10, .int .i64 ((xs.length : Nat) : Int)), (11, .int .i64 ((k : Nat) : Int)), (22, .bool true)] ⟨rfl, rfl, rfl, rfl, rfl, rfl, rfl, trivial⟩ ?_
        refine c_yes rfl ?_
        refine c_reg ?_
        refine s_val rfl rfl (r_mv rfl rfl) ?_
        refine s_val rfl rfl (r_fa rfl fo86_1 rfl) ?_
        refine s_val rfl rfl (r_ld rfl ty3 rfl (H.cellI 0 rfl rfl)) ?_
        refine s_bsl (parts := [(0, .tmp 25)]) (vs := [.int .i64 x8.a]) (cs := [.int .i64 x8.a]) rfl rfl rfl sl22 zr3 rfl (by decide) (by decide) rfl rfl H (fun b13 w H => ?_)
        replace H := H.pick 2 rfl
        refine s_appF (xs := jlI xs k) (ys := [x8.a]) rfl rfl rfl sl22 zr3 rfl (by decide) rfl rfl H (by omega) (fun F hA hR => blk_rsl (hA _ (List.mem_of_getElem? (i := 0) rfl)) rfl (by decide) (RepsR.flat_eq.2 rfl)) (fun v14 w H => ?_)
        refine s_val rfl rfl (r_as rfl rfl) ?_
        refine s_nil ?_
        refine q_blockN ?_
        refine q_then ?_
        replace H : Hd _ _ _ [osl (kInt .i64) v14 ((jlI xs k) ++ [x8.a]), blk b13 [.int .i64 x8.a] 3, blk b11 [.int .i64 x8.op, .int .i64 x8.a, .string x8.s] 86] [rsl kIns (.slice A1 xs.length c2) xs] := H
        refine c_env [(2, .slice none 0 0), (3, v14), (9, .slice A1 xs.length c2), (10, .int .i64 ((xs.length : Nat) : Int)), (11, .int .i64 ((k : Nat) : Int))] ⟨rfl, rfl, rfl, rfl, rfl, trivial⟩ ?_
        refine c_reg ?_
        refine s_val rfl rfl (r_add (z := ((k + 1 : Nat) : Int)) rfl rfl rfl (by rw [w64 (by omega) (by omega)]; omega)) ?_
        refine s_val rfl rfl (r_mv rfl rfl) ?_
        refine s_nil ?_
        rw [← jl_yes hx9 (decide_eq_true (by omega))] at H
        replace H := H.keep 1
        exact q_round (s := (k, undef)) (k + 1, v14) ⟨rfl, rfl, rfl, rfl, rfl, trivial⟩ ⟨H, by (try dsimp only); omega⟩ (by (try dsimp only); omega)
      · skip
        refine s_val rfl rfl (r_fa rfl fo86_0 rfl) ?_
        refine s_val rfl rfl (r_ld rfl ty3 rfl (H.cellI 0 rfl rfl)) ?_
        refine s_val rfl rfl (r_eq rfl rfl rfl) ?_
        refine s_val rfl rfl (r_pickF rfl rfl rfl) ?_
        refine s_nil ?_
        refine q_then ?_
        refine c_env [(2, .slice none 0 0), (3, l), (5, .pointer (some ⟨b11, 0, none⟩)), (9, .slice A1 xs.length c2), (10, .int .i64 ((xs.length : Nat) : Int)), (11, .int .i64 ((k : Nat) : Int)), (22, .bool (decide (x8.op = 20)))] ⟨rfl, rfl, rfl, rfl, rfl, rfl, rfl, trivial⟩ ?_
        refine c_dec (p := x8.op = 20) rfl (fun h15 => ?_) (fun h15 => ?_)
        · skip
          refine c_reg ?_
          refine s_val rfl rfl (r_mv rfl rfl) ?_
          refine s_val rfl rfl (r_fa rfl fo86_1 rfl) ?_
          refine s_val rfl rfl (r_ld rfl ty3 rfl (H.cellI 0 rfl rfl)) ?_
          refine s_bsl (parts := [(0, .tmp 25)]) (vs := [.int .i64 x8.a]) (cs := [.int .i64 x8.a]) rfl rfl rfl sl22 zr3 rfl (by decide) (by decide) rfl rfl H (fun b16 w H => ?_)
          replace H := H.pick 2 rfl
          refine s_appF (xs := jlI xs k) (ys := [x8.a]) rfl rfl rfl sl22 zr3 rfl (by decide) rfl rfl H (by omega) (fun F hA hR => blk_rsl (hA _ (List.mem_of_getElem? (i := 0) rfl)) rfl (by decide) (RepsR.flat_eq.2 rfl)) (fun v17 w H => ?_)
          refine s_val rfl rfl (r_as rfl rfl) ?_
          refine s_nil ?_
          refine q_blockN ?_
          refine q_then ?_
          replace H : Hd _ _ _ [osl (kInt .i64) v17 ((jlI xs k) ++ [x8.a]), blk b16 [.int .i64 x8.a] 3, blk b11 [.int .i64 x8.op, .int .i64 x8.a, .string x8.s] 86] [rsl kIns (.slice A1 xs.length c2) xs] := H
          refine c_env [(2, .slice none 0 0), (3, v17), (9, .slice A1 xs.length c2), (10, .int .i64 ((xs.length : Nat) : Int)), (11, .int .i64 ((k : Nat) : Int))] ⟨rfl, rfl, rfl, rfl, rfl, trivial⟩ ?_
          refine c_reg ?_
          refine s_val rfl rfl (r_add (z := ((k + 1 : Nat) : Int)) rfl rfl rfl (by rw [w64 (by omega) (by omega)]; omega)) ?_
          refine s_val rfl rfl (r_mv rfl rfl) ?_
          refine s_nil ?_
          rw [← jl_yes hx9 (decide_eq_true (by omega))] at H
          replace H := H.keep 1
          exact q_round (s := (k, undef)) (k + 1, v17) ⟨rfl, rfl, rfl, rfl, rfl, trivial⟩ ⟨H, by (try dsimp only); omega⟩ (by (try dsimp only); omega)
        · skip
          refine c_skip ?_
          refine q_blockN ?_
          refine q_then ?_
          refine c_env [(2, .slice none 0 0), (3, l), (9, .slice A1 xs.length c2), (10, .int .i64 ((xs.length : Nat) : Int)), (11, .int .i64 ((k : Nat) : Int))] ⟨rfl, rfl, rfl, rfl, rfl, trivial⟩ ?_
          refine c_reg ?_
          refine s_val rfl rfl (r_add (z := ((k + 1 : Nat) : Int)) rfl rfl rfl (by rw [w64 (by omega) (by omega)]; omega)) ?_
          refine s_val rfl rfl (r_mv rfl rfl) ?_
          refine s_nil ?_
          rw [← jl_no hx9 (decide_eq_false (by omega))] at H
          replace H := H.pick 1 rfl
          replace H := H.keep 1
          exact q_round (s := (k, undef)) (k + 1, l) ⟨rfl, rfl, rfl, rfl, rfl, trivial⟩ ⟨H, by (try dsimp only); omega⟩ (by (try dsimp only); omega)
    · skip
      refine c_exit ?_
      refine q_thenE ?_
      refine q_thenE ?_
      refine q_blockE ?_
      refine q_then ?_
      refine c_env [(2, .slice none 0 0), (3, l)] ⟨rfl, rfl, trivial⟩ ?_
      refine c_seq ?_
      refine c_reg ?_
      refine s_val rfl rfl (r_mv rfl rfl) ?_
      refine sc (sortInt_ok l (jlI xs k) (by first | omega | (rw [sortI_len]; omega))) H l0 rfl rfl (e_fn kn93 rfl rfl) ?_
      rintro v18 _ w rfl H
      refine s_nil ?_
      refine q_then ?_
      replace H : Hd _ _ _ [osl (kInt .i64) l (sortI (jlI xs k))] [rsl kIns (.slice A1 xs.length c2) xs] := H
      refine c_env [(2, .slice none 0 0), (3, l)] ⟨rfl, rfl, trivial⟩ ?_
      refine c_seq ?_
      refine c_reg ?_
      refine s_val rfl rfl (r_mv rfl rfl) ?_
      refine sc (compInt_ok l (sortI (jlI xs k)) (by first | omega | (rw [sortI_len]; omega))) H l0 rfl rfl (e_fn kn94 rfl rfl) ?_
      rintro v19 _ w rfl H
      refine s_val rfl rfl (r_as rfl rfl) ?_
      refine s_nil ?_
      refine q_then ?_
      replace H : Hd _ _ _ [osl (kInt .i64) v19 (Lib.compact (sortI (jlI xs k)))] [rsl kIns (.slice A1 xs.length c2) xs] := H
      refine c_env [(2, v19)] ⟨rfl, trivial⟩ ?_
      refine c_ret ?_
      refine q_ret1 rfl rfl ?_
      have e : Lib.compact (sortI (jlI xs k)) = targI xs := by rw [jl_all (by omega)]; exact (if_pos (Classical.not_not.1 h6)).symm
      rw [e] at H
      exact fin rfl H

set_option maxHeartbeats 1000000 in
theorem rtarg_ok (vxs : Value) (xs : List Ins) (hb : xs.length ≤ 1000000) :
    Cn Try.prog 72 [vxs] [] [rsl kIns vxs xs] (fun v Bs => Bs = [osl (kInt .i64) v (refT xs)]) := by
  intro w0 F0 H
  obtain ⟨A1, c2, rfl, hc3, hm4, hp5⟩ := H.fR 0 rfl
  refine enter (args := [.slice A1 xs.length c2]) Try.func72 rfl rfl (Nat.le_of_ble_eq_true rfl) ?_
  refine c_seq ?_
  refine c_reg ?_
  refine s_val rfl rfl (r_as rfl rfl) ?_
  refine s_nil ?_
  refine q_then ?_
  replace H : Hd _ _ _ [] [rsl kIns (.slice A1 xs.length c2) xs] := H
  refine c_env [(0, .slice A1 xs.length c2), (2, .slice none 0 0)] ⟨rfl, rfl, trivial⟩ ?_
  refine c_seq ?_
  refine c_reg ?_
  refine s_val rfl rfl (r_as rfl rfl) ?_
  refine s_nil ?_
  refine q_then ?_
  refine c_env [(0, .slice A1 xs.length c2), (2, .slice none 0 0), (3, .slice none 0 0)] ⟨rfl, rfl, rfl, trivial⟩ ?_
  refine c_seq ?_
  refine c_seq ?_
  refine c_reg ?_
  refine s_val rfl rfl (r_as rfl rfl) ?_
  refine s_nil ?_
  refine q_then ?_
  refine c_env [(0, .slice A1 xs.length c2), (2, .slice none 0 0), (3, .slice none 0 0), (4, .int .i64 0)] ⟨rfl, rfl, rfl, rfl, trivial⟩ ?_
  refine c_block ?_
  replace H := H.newnil (kInt .i64)
  refine c_loop (σ := Nat × Value) (fun (t, l) => [(0, .slice A1 xs.length c2), (2, .slice none 0 0), (3, l), (4, .int .i64 ((t : Nat) : Int))]) (fun (t, l) w => (Hd w0 F0 w [osl (kInt .i64) l (refL xs t)] [rsl kIns (.slice A1 xs.length c2) xs]) ∧ (t ≤ xs.length + 1 ∧ (t = 0 ∨ badI xs < 0))) (fun (t, l) => xs.length + 1 - t) (0, .slice none 0 0) ⟨rfl, rfl, rfl, rfl, trivial⟩ ⟨H, by (try dsimp only); omega⟩ ?_
  rintro ⟨t, l⟩ w ⟨H, ht⟩
  have hrl := ref_len xs t
  refine c_seq ?_
  refine c_seq ?_
  refine c_reg ?_
  refine s_val rfl rfl (r_mv rfl rfl) ?_
  refine s_val rfl rfl (r_mv rfl rfl) ?_
  refine s_val rfl rfl (r_lenL rfl un79 rfl) ?_
  refine s_val rfl rfl (r_le rfl rfl rfl) ?_
  refine s_val rfl rfl (r_mv rfl rfl) ?_
  refine s_dec (d := 10) (p := ((t : Nat) : Int) ≤ ((xs.length : Nat) : Int)) rfl (fun h6 => ?_) (fun h6 => ?_)
  · skip
    refine s_val rfl rfl (r_mv rfl rfl) ?_
    refine sc (rbad_ok (.slice A1 xs.length c2) xs) H (lR 0 rfl l0) rfl rfl (e_fn kn70 rfl rfl) ?_
    rintro _ _ w ⟨rfl, rfl⟩ H
    refine s_val rfl rfl (r_lt rfl rfl rfl) ?_
    refine s_val rfl rfl (r_pickT rfl rfl rfl) ?_
    refine s_nil ?_
    refine q_then ?_
    refine c_env [(0, .slice A1 xs.length c2), (2, .slice none 0 0), (3, l), (4, .int .i64 ((t : Nat) : Int)), (14, .bool (decide ((badI xs) < 0)))] ⟨rfl, rfl, rfl, rfl, rfl, trivial⟩ ?_
    refine c_dec (p := (badI xs) < 0) rfl (fun h7 => ?_) (fun h7 => ?_)
    · skip
      refine c_skip ?_
      refine q_then ?_
      refine c_env [(0, .slice A1 xs.length c2), (2, .slice none 0 0), (3, l), (4, .int .i64 ((t : Nat) : Int))] ⟨rfl, rfl, rfl, rfl, trivial⟩ ?_
      refine c_seq ?_
      refine c_block ?_
      refine c_seq ?_
      refine c_reg ?_
      refine s_val rfl rfl (r_as rfl rfl) ?_
      refine s_nil ?_
      refine q_then ?_
      refine c_env [(0, .slice A1 xs.length c2), (2, .slice none 0 0), (3, l), (4, .int .i64 ((t : Nat) : Int)), (5, .int .i64 0)] ⟨rfl, rfl, rfl, rfl, rfl, trivial⟩ ?_
      refine c_block ?_
      refine c_loop (σ := Nat) (fun i => [(0, .slice A1 xs.length c2), (2, .slice none 0 0), (3, l), (4, .int .i64 ((t : Nat) : Int)), (5, .int .i64 ((i : Nat) : Int))]) (fun i w => (Hd w0 F0 w [osl (kInt .i64) l (refL xs t)] [rsl kIns (.slice A1 xs.length c2) xs]) ∧ (i ≤ xs.length) ∧ (∀ y ∈ xs.take i, hitI t y = false)) (fun i => xs.length - i) 0 ⟨rfl, rfl, rfl, rfl, rfl, trivial⟩ ⟨H, by omega, by simp⟩ ?_
      rintro i w ⟨H, hi, hn⟩
      refine c_seq ?_
      refine c_seq ?_
      refine c_reg ?_
      refine s_val rfl rfl (r_mv rfl rfl) ?_
      refine s_val rfl rfl (r_mv rfl rfl) ?_
      refine s_val rfl rfl (r_lenL rfl un79 rfl) ?_
      refine s_val rfl rfl (r_lt rfl rfl rfl) ?_
      refine s_nil ?_
      refine q_then ?_
      refine c_env [(0, .slice A1 xs.length c2), (2, .slice none 0 0), (3, l), (4, .int .i64 ((t : Nat) : Int)), (5, .int .i64 ((i : Nat) : Int)), (20, .bool (decide (((i : Nat) : Int) < ((xs.length : Nat) : Int))))] ⟨rfl, rfl, rfl, rfl, rfl, rfl, trivial⟩ ?_
      refine c_dec (p := ((i : Nat) : Int) < ((xs.length : Nat) : Int)) rfl (fun h8 => ?_) (fun h8 => ?_)
      · skip
        refine c_skip ?_
        refine q_then ?_
        refine c_env [(0, .slice A1 xs.length c2), (2, .slice none 0 0), (3, l), (4, .int .i64 ((t : Nat) : Int)), (5, .int .i64 ((i : Nat) : Int))] ⟨rfl, rfl, rfl, rfl, rfl, trivial⟩ ?_
        refine c_seq ?_
        refine c_block ?_
        refine c_seq ?_
        refine c_reg ?_
        refine s_val rfl rfl (r_mv rfl rfl) ?_
        refine s_val rfl rfl (r_mv rfl rfl) ?_
        obtain ⟨x9, hx10⟩ : ∃ z9, xs[i]? = some z9 := ⟨_, List.getElem?_eq_getElem (show i < xs.length by omega)⟩
        have th11 := H.thR 0 rfl hx10
        refine s_val rfl rfl (r_iaE (p := oOf A1 + i * 3) rfl sl79 rfl rfl (by omega) (by omega) th11 rfl) ?_
        refine s_val rfl rfl (r_fa rfl fo86_0 rfl) ?_
        refine s_val rfl rfl (r_ld rfl ty3 rfl (H.elR 0 rfl hx10 (q := 0) rfl rfl)) ?_
        refine s_val rfl rfl (r_eq rfl rfl rfl) ?_
        refine s_val rfl rfl (r_mv rfl rfl) ?_
        refine s_dec (d := 29) (p := x9.op = 19) rfl (fun h12 => ?_) (fun h12 => ?_)
        · skip
          refine s_no rfl rfl ?_
          refine s_no rfl rfl ?_
          refine s_no rfl rfl ?_
          refine s_no rfl rfl ?_
          refine s_no rfl rfl ?_
          refine s_no rfl rfl ?_
          refine s_val rfl rfl (r_pickT rfl rfl rfl) ?_
          refine s_val rfl rfl (r_mv rfl rfl) ?_
          refine s_val rfl rfl (r_mv rfl rfl) ?_
          refine s_val rfl rfl (r_mv rfl rfl) ?_
          have th13 := H.thR 0 rfl hx10
          refine s_val rfl rfl (r_iaE (p := oOf A1 + i * 3) rfl sl79 rfl rfl (by omega) (by omega) th13 rfl) ?_
          refine s_val rfl rfl (r_fa rfl fo86_1 rfl) ?_
          refine s_val rfl rfl (r_ld rfl ty3 rfl (H.elR 0 rfl hx10 (q := 1) rfl rfl)) ?_
          refine s_val rfl rfl (r_mv rfl rfl) ?_
          refine s_val rfl rfl (r_eq rfl rfl rfl) ?_
          refine s_val rfl rfl (r_pickT rfl rfl rfl) ?_
          refine s_nil ?_
          refine q_then ?_
          refine c_env [(0, .slice A1 xs.length c2), (2, .slice none 0 0), (3, l), (4, .int .i64 ((t : Nat) : Int)), (5, .int .i64 ((i : Nat) : Int)), (45, .bool (decide (x9.a = ((t : Nat) : Int))))] ⟨rfl, rfl, rfl, rfl, rfl, rfl, trivial⟩ ?_
          refine c_dec (p := x9.a = ((t : Nat) : Int)) rfl (fun h14 => ?_) (fun h14 => ?_)
          · skip
            refine c_seq ?_
            refine c_reg ?_
            refine s_val rfl rfl (r_mv rfl rfl) ?_
            refine s_val rfl rfl (r_mv rfl rfl) ?_
            refine s_bsl (parts := [(0, .tmp 47)]) (vs := [.int .i64 ((t : Nat) : Int)]) (cs := [.int .i64 ((t : Nat) : Int)]) rfl rfl rfl sl22 zr3 rfl (by decide) (by decide) rfl rfl H (fun b15 w H => ?_)
            replace H := H.pick 1 rfl
            refine s_appF (xs := refL xs t) (ys := [((t : Nat) : Int)]) rfl rfl rfl sl22 zr3 rfl (by decide) rfl rfl H (by omega) (fun F hA hR => blk_rsl (hA _ (List.mem_of_getElem? (i := 0) rfl)) rfl (by decide) (RepsR.flat_eq.2 rfl)) (fun v16 w H => ?_)
            refine s_val rfl rfl (r_as rfl rfl) ?_
            refine s_nil ?_
            refine q_then ?_
            replace H : Hd _ _ _ [osl (kInt .i64) v16 ((refL xs t) ++ [((t : Nat) : Int)]), blk b15 [.int .i64 ((t : Nat) : Int)] 3] [rsl kIns (.slice A1 xs.length c2) xs] := H
            refine c_env [(0, .slice A1 xs.length c2), (2, .slice none 0 0), (3, v16), (4, .int .i64 ((t : Nat) : Int)), (5, .int .i64 ((i : Nat) : Int))] ⟨rfl, rfl, rfl, rfl, rfl, trivial⟩ ?_
            refine c_exit ?_
            refine q_blockE' (by decide) ?_
            refine q_thenE ?_
            refine q_thenE ?_
            refine q_blockE ?_
            refine q_blockN ?_
            refine q_then ?_
            refine c_env [(0, .slice A1 xs.length c2), (2, .slice none 0 0), (3, v16), (4, .int .i64 ((t : Nat) : Int))] ⟨rfl, rfl, rfl, rfl, trivial⟩ ?_
            rw [← ref_yes hx10 (hit_yes (by omega))] at H
            refine c_reg ?_
            refine s_val rfl rfl (r_mv rfl rfl) ?_
            refine s_val rfl rfl (r_add (z := ((t + 1 : Nat) : Int)) rfl rfl rfl (by rw [w64 (by omega) (by omega)]; omega)) ?_
            refine s_val rfl rfl (r_as rfl rfl) ?_
            refine s_nil ?_
            replace H := H.keep 1
            exact q_round (s := (t, undef)) (t + 1, v16) ⟨rfl, rfl, rfl, rfl, trivial⟩ ⟨H, by (try dsimp only); omega⟩ (by (try dsimp only); omega)
          · skip
            refine c_skip ?_
            refine q_blockN ?_
            refine q_then ?_
            refine c_env [(0, .slice A1 xs.length c2), (2, .slice none 0 0), (3, l), (4, .int .i64 ((t : Nat) : Int)), (5, .int .i64 ((i : Nat) : Int))] ⟨rfl, rfl, rfl, rfl, rfl, trivial⟩ ?_
            refine c_reg ?_
            refine s_val rfl rfl (r_mv rfl rfl) ?_
            refine s_val rfl rfl (r_add (z := ((i + 1 : Nat) : Int)) rfl rfl rfl (by rw [w64 (by omega) (by omega)]; omega)) ?_
            refine s_val rfl rfl (r_as rfl rfl) ?_
            refine s_nil ?_
            exact q_round (s := i) (i + 1) ⟨rfl, rfl, rfl, rfl, rfl, trivial⟩ ⟨H, by (try dsimp only); omega, take_false hn hx10 (hit_no (by omega))⟩ (by (try dsimp only); omega)
        · skip
          refine s_val rfl rfl (r_mv rfl rfl) ?_
          refine s_val rfl rfl (r_mv rfl rfl) ?_
          have th17 := H.thR 0 rfl hx10
          refine s_val rfl rfl (r_iaE (p := oOf A1 + i * 3) rfl sl79 rfl rfl (by omega) (by omega) th17 rfl) ?_
          refine s_val rfl rfl (r_fa rfl fo86_0 rfl) ?_
          refine s_val rfl rfl (r_ld rfl ty3 rfl (H.elR 0 rfl hx10 (q := 0) rfl rfl)) ?_
          refine s_val rfl rfl (r_eq rfl rfl rfl) ?_
          refine s_val rfl rfl (r_pickF rfl rfl rfl) ?_
          refine s_val rfl rfl (r_mv rfl rfl) ?_
          refine s_dec (d := 37) (p := x9.op = 20) rfl (fun h18 => ?_) (fun h18 => ?_)
          · skip
            refine s_val rfl rfl (r_mv rfl rfl) ?_
            refine s_val rfl rfl (r_mv rfl rfl) ?_
            have th19 := H.thR 0 rfl hx10
            refine s_val rfl rfl (r_iaE (p := oOf A1 + i * 3) rfl sl79 rfl rfl (by omega) (by omega) th19 rfl) ?_
            refine s_val rfl rfl (r_fa rfl fo86_1 rfl) ?_
            refine s_val rfl rfl (r_ld rfl ty3 rfl (H.elR 0 rfl hx10 (q := 1) rfl rfl)) ?_
            refine s_val rfl rfl (r_mv rfl rfl) ?_
            refine s_val rfl rfl (r_eq rfl rfl rfl) ?_
            refine s_val rfl rfl (r_pickT rfl rfl rfl) ?_
            refine s_nil ?_
            refine q_then ?_
            refine c_env [(0, .slice A1 xs.length c2), (2, .slice none 0 0), (3, l), (4, .int .i64 ((t : Nat) : Int)), (5, .int .i64 ((i : Nat) : Int)), (45, .bool (decide (x9.a = ((t : Nat) : Int))))] ⟨rfl, rfl, rfl, rfl, rfl, rfl, trivial⟩ ?_
            refine c_dec (p := x9.a = ((t : Nat) : Int)) rfl (fun h20 => ?_) (fun h20 => ?_)
            · skip
              refine c_seq ?_
              refine c_reg ?_
              refine s_val rfl rfl (r_mv rfl rfl) ?_
              refine s_val rfl rfl (r_mv rfl rfl) ?_
              refine s_bsl (parts := [(0, .tmp 47)]) (vs := [.int .i64 ((t : Nat) : Int)]) (cs := [.int .i64 ((t : Nat) : Int)]) rfl rfl rfl sl22 zr3 rfl (by decide) (by decide) rfl rfl H (fun b21 w H => ?_)
              replace H := H.pick 1 rfl
              refine s_appF (xs := refL xs t) (ys := [((t : Nat) : Int)]) rfl rfl rfl sl22 zr3 rfl (by decide) rfl rfl H (by omega) (fun F hA hR => blk_rsl (hA _ (List.mem_of_getElem? (i := 0) rfl)) rfl (by decide) (RepsR.flat_eq.2 rfl)) (fun v22 w H => ?_)
              refine s_val rfl rfl (r_as rfl rfl) ?_
              refine s_nil ?_
              refine q_then ?_
              replace H : Hd _ _ _ [osl (kInt .i64) v22 ((refL xs t) ++ [((t : Nat) : Int)]), blk b21 [.int .i64 ((t : Nat) : Int)] 3] [rsl kIns (.slice A1 xs.length c2) xs] := H
              refine c_env [(0, .slice A1 xs.length c2), (2, .slice none 0 0), (3, v22), (4, .int .i64 ((t : Nat) : Int)), (5, .int .i64 ((i : Nat) : Int))] ⟨rfl, rfl, rfl, rfl, rfl, trivial⟩ ?_
              refine c_exit ?_
              refine q_blockE' (by decide) ?_
              refine q_thenE ?_
              refine q_thenE ?_
              refine q_blockE ?_
              refine q_blockN ?_
              refine q_then ?_
              refine c_env [(0, .slice A1 xs.length c2), (2, .slice none 0 0), (3, v22), (4, .int .i64 ((t : Nat) : Int))] ⟨rfl, rfl, rfl, rfl, trivial⟩ ?_
              rw [← ref_yes hx10 (hit_yes (by omega))] at H
              refine c_reg ?_
              refine s_val rfl rfl (r_mv rfl rfl) ?_
              refine s_val rfl rfl (r_add (z := ((t + 1 : Nat) : Int)) rfl rfl rfl (by rw [w64 (by omega) (by omega)]; omega)) ?_
              refine s_val rfl rfl (r_as rfl rfl) ?_
              refine s_nil ?_
              replace H := H.keep 1
              exact q_round (s := (t, undef)) (t + 1, v22) ⟨rfl, rfl, rfl, rfl, trivial⟩ ⟨H, by (try dsimp only); omega⟩ (by (try dsimp only); omega)
            · skip
              refine c_skip ?_
              refine q_blockN ?_
              refine q_then ?_
              refine c_env [(0, .slice A1 xs.length c2), (2, .slice none 0 0), (3, l), (4, .int .i64 ((t : Nat) : Int)), (5, .int .i64 ((i : Nat) : Int))] ⟨rfl, rfl, rfl, rfl, rfl, trivial⟩ ?_
              refine c_reg ?_
              refine s_val rfl rfl (r_mv rfl rfl) ?_
              refine s_val rfl rfl (r_add (z := ((i + 1 : Nat) : Int)) rfl rfl rfl (by rw [w64 (by omega) (by omega)]; omega)) ?_
              refine s_val rfl rfl (r_as rfl rfl) ?_
              refine s_nil ?_
              exact q_round (s := i) (i + 1) ⟨rfl, rfl, rfl, rfl, rfl, trivial⟩ ⟨H, by (try dsimp only); omega, take_false hn hx10 (hit_no (by omega))⟩ (by (try dsimp only); omega)
          · skip
            refine s_no rfl rfl ?_
            refine s_no rfl rfl ?_
            refine s_no rfl rfl ?_
            refine s_no rfl rfl ?_
            refine s_no rfl rfl ?_
            refine s_no rfl rfl ?_
            refine s_no rfl rfl ?_
            refine s_val rfl rfl (r_pickF rfl rfl rfl) ?_
            refine s_nil ?_
            refine q_then ?_
            refine c_env [(0, .slice A1 xs.length c2), (2, .slice none 0 0), (3, l), (4, .int .i64 ((t : Nat) : Int)), (5, .int .i64 ((i : Nat) : Int)), (45, .bool false)] ⟨rfl, rfl, rfl, rfl, rfl, rfl, trivial⟩ ?_
            refine c_no rfl ?_
            refine c_skip ?_
            refine q_blockN ?_
            refine q_then ?_
            refine c_env [(0, .slice A1 xs.length c2), (2, .slice none 0 0), (3, l), (4, .int .i64 ((t : Nat) : Int)), (5, .int .i64 ((i : Nat) : Int))] ⟨rfl, rfl, rfl, rfl, rfl, trivial⟩ ?_
            refine c_reg ?_
            refine s_val rfl rfl (r_mv rfl rfl) ?_
            refine s_val rfl rfl (r_add (z := ((i + 1 : Nat) : Int)) rfl rfl rfl (by rw [w64 (by omega) (by omega)]; omega)) ?_
            refine s_val rfl rfl (r_as rfl rfl) ?_
            refine s_nil ?_
            exact q_round (s := i) (i + 1) ⟨rfl, rfl, rfl, rfl, rfl, trivial⟩ ⟨H, by (try dsimp only); omega, take_false hn hx10 (hit_no (by omega))⟩ (by (try dsimp only); omega)
      · skip
        refine c_exit ?_
        refine q_thenE ?_
        refine q_thenE ?_
        refine q_blockE ?_
        refine q_blockN ?_
        refine q_then ?_
        refine c_env [(0, .slice A1 xs.length c2), (2, .slice none 0 0), (3, l), (4, .int .i64 ((t : Nat) : Int))] ⟨rfl, rfl, rfl, rfl, trivial⟩ ?_
        rw [← ref_no (i := i) (by omega) hn] at H
        refine c_reg ?_
        refine s_val rfl rfl (r_mv rfl rfl) ?_
        refine s_val rfl rfl (r_add (z := ((t + 1 : Nat) : Int)) rfl rfl rfl (by rw [w64 (by omega) (by omega)]; omega)) ?_
        refine s_val rfl rfl (r_as rfl rfl) ?_
        refine s_nil ?_
        exact q_round (s := (t, undef)) (t + 1, l) ⟨rfl, rfl, rfl, rfl, trivial⟩ ⟨H, by (try dsimp only); omega⟩ (by (try dsimp only); omega)
    · skip
      refine c_exit ?_
      refine q_thenE ?_
      refine q_thenE ?_
      refine q_blockE ?_
      refine q_then ?_
      refine c_env [(2, .slice none 0 0), (3, l)] ⟨rfl, rfl, trivial⟩ ?_
      refine c_seq ?_
      refine c_reg ?_
      refine s_val rfl rfl (r_mv rfl rfl) ?_
      refine s_val rfl rfl (r_as rfl rfl) ?_
      refine s_nil ?_
      refine q_then ?_
      refine c_env [(2, l)] ⟨rfl, trivial⟩ ?_
      refine c_ret ?_
      refine q_ret1 rfl rfl ?_
      have e : refL xs t = refT xs := ref_end ht (by omega)
      rw [e] at H
      exact fin rfl H
  · skip
    refine s_no rfl rfl ?_
    refine s_no rfl rfl ?_
    refine s_no rfl rfl ?_
    refine s_val rfl rfl (r_pickF rfl rfl rfl) ?_
    refine s_nil ?_
    refine q_then ?_
    refine c_env [(0, .slice A1 xs.length c2), (2, .slice none 0 0), (3, l), (4, .int .i64 ((t : Nat) : Int)), (14, .bool false)] ⟨rfl, rfl, rfl, rfl, rfl, trivial⟩ ?_
    refine c_no rfl ?_
    refine c_exit ?_
    refine q_thenE ?_
    refine q_thenE ?_
    refine q_blockE ?_
    refine q_then ?_
    refine c_env [(2, .slice none 0 0), (3, l)] ⟨rfl, rfl, trivial⟩ ?_
    refine c_seq ?_
    refine c_reg ?_
    refine s_val rfl rfl (r_mv rfl rfl) ?_
    refine s_val rfl rfl (r_as rfl rfl) ?_
    refine s_nil ?_
    refine q_then ?_
    refine c_env [(2, l)] ⟨rfl, trivial⟩ ?_
    refine c_ret ?_
    refine q_ret1 rfl rfl ?_
    have e : refL xs t = refT xs := ref_end ht (by omega)
    rw [e] at H
    exact fin rfl H

end Go.Proofs.Ytnaaahpmnhoabaa.X
