/- CheckMerges: texts P3, XE, F2, XJob, J1, XJob2, XCfg, XRed, XOb, XRed2, C1, XStg, N1, N2, J2, J3, joined by a program of ours; what nothing names is left out. -/
import Derived.Test.YthgehekecfpikaaGreatDoorCheckMergesQ3
import Derived.KernelRfl
set_option linter.unusedVariables false
set_option linter.unusedSimpArgs false
set_option maxHeartbeats 8000000
namespace Go.Proofs.YthgehekecfpikaaGreatDoor.X
open Go
theorem samePairs_ok (v1 v2 : Value) (xs ys : List Pair) :
    Cn Tryz.prog 25 [v1, v2] [] [rsl kPair v1 xs, rsl kPair v2 ys] (fun v Bs => v = .bool (decide (xs = ys)) ∧ Bs = []) := by
 intro w0 F0 H
 obtain ⟨A1, c2, rfl, hc3, hm4, hp5⟩ := H.fR 0 rfl
 obtain ⟨A6, c7, rfl, hc8, hm9, hp10⟩ := H.fR 1 rfl
 refine enter Tryz.func25 rfl rfl (Nat.le_of_ble_eq_true rfl) (c_seq (c_reg (s_1 rfl (s_nil (q_then ?_)))))
 replace H : Hd _ _ _ [] [rsl kPair (.slice A1 xs.length c2) xs, rsl kPair (.slice A6 ys.length c7) ys] := H
 refine c_seq (c_seq (c_reg (s_1 rfl (s_val rfl rfl (r_lenL rfl un35 rfl) (s_1 rfl (s_val rfl rfl (r_lenL rfl un35 rfl) (s_val rfl rfl (r_ne rfl rfl rfl) (s_nil (q_then ?_)))))))))
 refine c_dec rfl (fun h11 => ?_) (fun h11 => ?_)
 ·refine c_seq (c_reg (s_1 rfl (s_nil (q_then (c_ret (q_thenR (q_ret1 rfl rfl ?_)))))))
  have e : ¬ xs = ys := fun e => h11 (by rw [e])
  exact fin ⟨by rw [decide_eq_false e] <;> rfl, rfl⟩ H
 refine c_skip (q_then (c_seq (c_seq (c_reg (s_1 rfl (s_nil (q_then (c_block ?_))))))))
 have hle : xs.length = ys.length := by omega
 refine c_loop (σ := Nat) (fun k => [(0, .slice A1 xs.length c2), (1, .slice A6 ys.length c7), (5, .int .i64 ((k : Nat) : Int))]) (fun k w => (Hd w0 F0 w [] [rsl kPair (.slice A1 xs.length c2) xs, rsl kPair (.slice A6 ys.length c7) ys]) ∧ (k ≤ xs.length) ∧ (xs.length = ys.length) ∧ (xs.take k = ys.take k)) (fun k => xs.length - k) 0 ⟨rfl, rfl, rfl, trivial⟩ ⟨H, by omega, hle, rfl⟩ ?_
 rintro k w ⟨H, hk, hle, ht⟩
 refine c_seq (c_seq (c_reg (s_k 2 rfl (s_val rfl rfl (r_lenL rfl un35 rfl) (s_val rfl rfl (r_lt rfl rfl rfl) (s_nil (q_then ?_)))))))
 refine c_dec rfl (fun h12 => ?_) (fun h12 => ?_)
 ·refine c_skip (q_then (c_seq (c_block (c_seq (c_draw mo (by kernel_rfl) H (u_k 2 rfl ?_))))))
  obtain ⟨x13, hx14⟩ : ∃ z9, xs[k]? = some z9 := ⟨_, List.getElem?_eq_getElem (show k < xs.length by omega)⟩
  have th15 := H.thR 0 rfl hx14
  refine u_val rfl rfl (fun w H => r_iaE (p := oOf A1 + k * 2) rfl sl35 rfl rfl (by omega) (by omega) th15 rfl) (u_val rfl rfl (fun w H => r_ldA (cs := [.string x13.key, .string x13.val]) rfl ty106 rfl rfl (H.elsR 0 rfl hx14 rfl)) (u_k 2 rfl ?_))
  obtain ⟨x16, hx17⟩ : ∃ z9, ys[k]? = some z9 := ⟨_, List.getElem?_eq_getElem (show k < ys.length by omega)⟩
  have th18 := H.thR 1 rfl hx17
  refine u_val rfl rfl (fun w H => r_iaE (p := oOf A6 + k * 2) rfl sl35 rfl rfl (by omega) (by omega) th18 rfl) (u_val rfl rfl (fun w H => r_ldA (cs := [.string x16.key, .string x16.val]) rfl ty106 rfl rfl (H.elsR 1 rfl hx17 rfl)) (u_val rfl rfl (fun w H => r_nePair (p := x13) (q := x16) rfl eqz106 rfl rfl) (u_end (fun w H => (q_then ?_)))))
  refine c_dec rfl (fun h19 => ?_) (fun h19 => ?_)
  ·refine c_seq (c_reg (s_1 rfl (s_nil (q_then (c_ret (q_blockR (q_thenR (q_thenR (q_blockR (q_thenR (q_ret1 rfl rfl ?_)))))))))))
   have e : ¬ xs = ys := fun e => h19 (by rw [e, hx17] at hx14; exact (Option.some.inj hx14).symm)
   exact fin ⟨by rw [decide_eq_false e] <;> rfl, rfl⟩ H
  refine c_skip (q_blockN (q_then (c_reg (s_1 rfl (s_val rfl rfl (r_add (z := ((k + 1 : Nat) : Int)) rfl rfl rfl (by rw [w64 (by omega) (by omega)]; omega)) (s_1 rfl (s_nil ?_)))))))
  have e : x13 = x16 := Classical.not_not.1 h19
  subst e
  exact q_round (s := k) (k + 1) ⟨rfl, rfl, rfl, trivial⟩ ⟨H, by omega, hle, take_more hx14 hx17 ht⟩ (by (try dsimp only); omega)
 refine c_exit (q_thenE (q_thenE (q_blockE (q_then (c_seq (c_reg (s_1 rfl (s_nil (q_then (c_ret (q_ret1 rfl rfl ?_)))))))))))
 have e : xs = ys := by rw [← take_all (xs := xs) (k := k) (by omega), ← take_all (xs := ys) (k := k) (by omega)]; exact ht
 exact fin ⟨by rw [decide_eq_true e] <;> rfl, rfl⟩ H
theorem greatPairs_ok (vxs : Value) (xs : List Pair) (n : Int) :
    Cn Tryz.prog 23 [vxs, .int .i64 n] [] [rsl kPair vxs xs] (fun v Bs => v = .bool (greatP xs n) ∧ Bs = []) := by
 intro w0 F0 H
 obtain ⟨A1, c2, rfl, hc3, hm4, hp5⟩ := H.fR 0 rfl
 refine enter Tryz.func23 rfl rfl (Nat.le_of_ble_eq_true rfl) (c_seq (c_reg (s_1 rfl (s_nil (q_then ?_)))))
 replace H : Hd _ _ _ [] [rsl kPair (.slice A1 xs.length c2) xs] := H
 refine c_seq (c_seq (c_reg (s_1 rfl (s_nil (q_then (c_block (c_loop (σ := Nat) (fun k => [(0, .slice A1 xs.length c2), (1, .int .i64 n), (5, .int .i64 ((k : Nat) : Int))]) (fun k w => (Hd w0 F0 w [] [rsl kPair (.slice A1 xs.length c2) xs]) ∧ (k ≤ xs.length) ∧ (∀ y ∈ xs.take k, y.key.size ≤ 100 ∧ y.val.size ≤ 100)) (fun k => xs.length - k) 0 ⟨rfl, rfl, rfl, trivial⟩ ⟨H, by omega, by simp⟩ ?_)))))))
 rintro k w ⟨H, hk, hn⟩
 refine c_seq (c_seq (c_reg (s_k 2 rfl (s_val rfl rfl (r_lenL rfl un35 rfl) (s_val rfl rfl (r_lt rfl rfl rfl) (s_1 rfl ?_))))))
 refine s_dec (d := 10) rfl (fun h6 => ?_) (fun h6 => ?_)
 ·refine s_1 rfl (s_val rfl rfl (r_lenL rfl un35 rfl) (s_1 rfl (s_val rfl rfl (r_le rfl rfl rfl) (s_1 rfl (s_nil (q_then ?_))))))
  refine c_dec rfl (fun h7 => ?_) (fun h7 => ?_)
  ·refine c_skip (q_then (c_seq (c_block (c_seq (c_reg (s_k 2 rfl ?_))))))
   obtain ⟨x8, hx9⟩ : ∃ z9, xs[k]? = some z9 := ⟨_, List.getElem?_eq_getElem (show k < xs.length by omega)⟩
   have th10 := H.thR 0 rfl hx9
   refine s_val rfl rfl (r_iaE (p := oOf A1 + k * 2) rfl sl35 rfl rfl (by omega) (by omega) th10 rfl) (s_val rfl rfl (r_fa rfl fo106_0 rfl) (s_val rfl rfl (r_ld rfl ty9 rfl (H.elR 0 rfl hx9 (q := 0) rfl rfl)) (s_val rfl rfl (r_lenS rfl un9 rfl) (s_val rfl rfl (r_gt rfl rfl rfl) (s_1 rfl ?_)))))
   refine s_dec (d := 25) rfl (fun h11 => ?_) (fun h11 => ?_)
   ·exact s_k 8 rfl (s_nil (q_then (c_yes rfl (c_seq (c_reg (s_1 rfl (s_nil (q_then (c_ret (q_blockR (q_thenR (q_thenR (q_blockR (q_thenR (q_ret1 rfl rfl (fin ⟨congrArg Value.bool (greatP_hit hx9 (by omega)), rfl⟩ H))))))))))))))))
   refine s_k 2 rfl ?_
   have th12 := H.thR 0 rfl hx9
   refine s_val rfl rfl (r_iaE (p := oOf A1 + k * 2) rfl sl35 rfl rfl (by omega) (by omega) th12 rfl) (s_val rfl rfl (r_fa rfl fo106_1 rfl) (s_val rfl rfl (r_ld rfl ty9 rfl (H.elR 0 rfl hx9 (q := 1) rfl rfl)) (s_val rfl rfl (r_lenS rfl un9 rfl) (s_val rfl rfl (r_gt rfl rfl rfl) (s_1 rfl (s_nil (q_then ?_)))))))
   refine c_dec rfl (fun h13 => ?_) (fun h13 => ?_)
   ·exact c_seq (c_reg (s_1 rfl (s_nil (q_then (c_ret (q_blockR (q_thenR (q_thenR (q_blockR (q_thenR (q_ret1 rfl rfl (fin ⟨congrArg Value.bool (greatP_hit hx9 (by omega)), rfl⟩ H))))))))))))
   exact c_skip (q_blockN (q_then (c_reg (s_1 rfl (s_val rfl rfl (r_add (z := ((k + 1 : Nat) : Int)) rfl rfl rfl (by rw [w64 (by omega) (by omega)]; omega)) (s_1 rfl (s_nil (q_round (s := k) (k + 1) ⟨rfl, rfl, rfl, trivial⟩ ⟨H, by (try dsimp only); omega, take_prop hn hx9 (by omega)⟩ (by (try dsimp only); omega)))))))))
  exact c_exit (q_thenE (q_thenE (q_blockE (q_then (c_seq (c_reg (s_1 rfl (s_val rfl rfl (r_lenL rfl un35 rfl) (s_1 rfl (s_val rfl rfl (r_gt rfl rfl rfl) (s_1 rfl (s_nil (q_then (c_ret (q_ret1 rfl rfl (fin ⟨congrArg Value.bool (greatP_end hn (by omega)), rfl⟩ H))))))))))))))))
 exact s_k 5 rfl (s_nil (q_then (c_no rfl (c_exit (q_thenE (q_thenE (q_blockE (q_then (c_seq (c_reg (s_1 rfl (s_val rfl rfl (r_lenL rfl un35 rfl) (s_1 rfl (s_val rfl rfl (r_gt rfl rfl rfl) (s_1 rfl (s_nil (q_then (c_ret (q_ret1 rfl rfl (fin ⟨congrArg Value.bool (greatP_end hn (by omega)), rfl⟩ H))))))))))))))))))))
theorem pOf_ok (vxs : Value) (xs : List Pair) (key : ByteArray) (hb : xs.length ≤ 1000000) :
    Cn Tryz.prog 212 [vxs, .string key] [] [rsl kPair vxs xs] (fun v Bs => Bs = [osl kStr v (ofL xs key)]) := by
 intro w0 F0 H
 obtain ⟨A1, c2, rfl, hc3, hm4, hp5⟩ := H.fR 0 rfl
 refine enter Tryz.func212 rfl rfl (Nat.le_of_ble_eq_true rfl) (c_seq (c_reg (s_1 rfl (s_nil (q_then ?_)))))
 replace H : Hd _ _ _ [] [rsl kPair (.slice A1 xs.length c2) xs] := H
 refine c_seq (c_reg (s_1 rfl (s_nil (q_then (c_seq (c_seq (c_reg (s_1 rfl (s_val rfl rfl (r_lenL rfl un35 rfl) (s_1 rfl (s_nil (q_then (c_block ?_)))))))))))))
 replace H := H.newnil kStr
 refine c_loop (σ := Nat × Value) (fun (k, l) => [(1, .string key), (4, .slice none 0 0), (5, l), (8, .slice A1 xs.length c2), (9, .int .i64 ((xs.length : Nat) : Int)), (10, .int .i64 ((k : Nat) : Int))]) (fun (k, l) w => (Hd w0 F0 w [osl kStr l (ofL (xs.take k) key)] [rsl kPair (.slice A1 xs.length c2) xs]) ∧ (k ≤ xs.length)) (fun (k, l) => xs.length - k) (0, .slice none 0 0) ⟨rfl, rfl, rfl, rfl, rfl, rfl, trivial⟩ ⟨H, by (try dsimp only); omega⟩ ?_
 rintro ⟨k, l⟩ w ⟨H, hk⟩
 have hjl := ofL_len (xs.take k) key
 have hjt : (xs.take k).length ≤ xs.length := by simp; omega
 refine c_seq (c_reg (s_val rfl rfl (r_lt rfl rfl rfl) (s_nil (q_then (c_seq ?_)))))
 refine c_dec rfl (fun h6 => ?_) (fun h6 => ?_)
 ·refine c_skip (q_then (c_seq (c_block (c_seq (c_reg ?_)))))
  obtain ⟨x7, hx8⟩ : ∃ z9, xs[k]? = some z9 := ⟨_, List.getElem?_eq_getElem (show k < xs.length by omega)⟩
  have th9 := H.thR 0 rfl hx8
  refine s_val rfl rfl (r_iaE (p := oOf A1 + k * 2) rfl sl35 rfl rfl (by omega) (by omega) th9 rfl) (s_val rfl rfl (r_ldA (cs := [.string x7.key, .string x7.val]) rfl ty106 rfl rfl (H.elsR 0 rfl hx8 rfl)) (s_alloc rfl rfl rfl zr106 H (fun b10 w H => (s_st rfl rfl rfl ty106 rfl rfl H rfl (Nat.le_of_ble_eq_true rfl) (fun u hu => by simp [Value.cells] at hu; rcases hu with rfl | rfl <;> rfl) (fun w H => ?_)))))
  replace H := H.h2 (A := blk b10 [.string x7.key, .string x7.val] 106) (B := osl kStr l (ofL (xs.take k) key))
  refine s_nil (q_then (c_seq (c_reg (s_val rfl rfl (r_fa rfl fo106_0 rfl) (s_val rfl rfl (r_ld rfl ty9 rfl (H.cellI 0 rfl rfl)) (s_1 rfl (s_val rfl rfl (r_eqS rfl rfl rfl) (s_nil (q_then ?_)))))))))
  refine c_dec rfl (fun h11 => ?_) (fun h11 => ?_)
  ·refine c_reg (s_1 rfl (s_val rfl rfl (r_fa rfl fo106_1 rfl) (s_val rfl rfl (r_ld rfl ty9 rfl (H.cellI 0 rfl rfl)) (s_bsl (parts := [(0, .tmp 20)]) (vs := [.string x7.val]) (cs := [.string x7.val]) rfl rfl rfl sl241 zr9 rfl (by decide) (by decide) rfl rfl H (fun b12 w H => ?_)))))
   replace H := H.p2
   refine s_appF (xs := ofL (xs.take k) key) (ys := [x7.val]) rfl rfl rfl sl241 zr9 rfl (by decide) rfl rfl H (by omega) (fun F hA hR => blk_rsl (hA _ (List.mem_of_getElem? (i := 0) rfl)) rfl (by decide) (RepsR.flat_eq.2 rfl)) (fun v13 w H => (s_1 rfl (s_nil (q_blockN (q_then ?_)))))
   replace H : Hd _ _ _ [osl kStr v13 ((ofL (xs.take k) key) ++ [x7.val]), blk b12 [.string x7.val] 9, blk b10 [.string x7.key, .string x7.val] 106] [rsl kPair (.slice A1 xs.length c2) xs] := H
   refine c_reg (s_val rfl rfl (r_add (z := ((k + 1 : Nat) : Int)) rfl rfl rfl (by rw [w64 (by omega) (by omega)]; omega)) (s_1 rfl (s_nil ?_)))
   rw [← ofk_yes hx8 h11] at H
   replace H := H.k1
   exact q_round (s := (k, undef)) (k + 1, v13) ⟨rfl, rfl, rfl, rfl, rfl, rfl, trivial⟩ ⟨H, by (try dsimp only); omega⟩ (by (try dsimp only); omega)
  refine c_skip (q_blockN (q_then (c_reg (s_val rfl rfl (r_add (z := ((k + 1 : Nat) : Int)) rfl rfl rfl (by rw [w64 (by omega) (by omega)]; omega)) (s_1 rfl (s_nil ?_))))))
  rw [← ofk_no hx8 h11] at H
  replace H := H.sel 2 [1] [0] rfl (by kernel_rfl)
  exact q_round (s := (k, undef)) (k + 1, l) ⟨rfl, rfl, rfl, rfl, rfl, rfl, trivial⟩ ⟨H, by (try dsimp only); omega⟩ (by (try dsimp only); omega)
 refine c_exit (q_thenE (q_thenE (q_blockE (q_then (c_seq (c_reg (s_k 2 rfl (s_nil (q_then (c_ret (q_ret1 rfl rfl ?_)))))))))))
 rw [List.take_of_length_le (show xs.length ≤ k by omega)] at H
 exact fin rfl H
theorem pKeys_ok (vxs : Value) (xs : List Pair) (hb : xs.length ≤ 1000000) :
    Cn Tryz.prog 211 [vxs] [] [rsl kPair vxs xs] (fun v Bs => Bs = [osl kStr v (keysL xs)]) := by
 intro w0 F0 H
 obtain ⟨A1, c2, rfl, hc3, hm4, hp5⟩ := H.fR 0 rfl
 refine enter Tryz.func211 rfl rfl (Nat.le_of_ble_eq_true rfl) (c_seq (c_reg (s_1 rfl (s_nil (q_then ?_)))))
 replace H : Hd _ _ _ [] [rsl kPair (.slice A1 xs.length c2) xs] := H
 refine c_seq (c_reg (s_1 rfl (s_nil (q_then (c_seq (c_seq (c_reg (s_1 rfl (s_val rfl rfl (r_lenL rfl un35 rfl) (s_1 rfl (s_nil (q_then (c_block ?_)))))))))))))
 replace H := H.newnil kStr
 refine c_loop (σ := Nat × Value) (fun (k, l) => [(2, .slice none 0 0), (3, l), (6, .slice A1 xs.length c2), (7, .int .i64 ((xs.length : Nat) : Int)), (8, .int .i64 ((k : Nat) : Int))]) (fun (k, l) w => (Hd w0 F0 w [osl kStr l ((xs.take k).map (·.key))] [rsl kPair (.slice A1 xs.length c2) xs]) ∧ (k ≤ xs.length)) (fun (k, l) => xs.length - k) (0, .slice none 0 0) ⟨rfl, rfl, rfl, rfl, rfl, trivial⟩ ⟨H, by (try dsimp only); omega⟩ ?_
 rintro ⟨k, l⟩ w ⟨H, hk⟩
 have hjt : ((xs.take k).map (·.key)).length ≤ xs.length := by simp; omega
 refine c_seq (c_reg (s_val rfl rfl (r_lt rfl rfl rfl) (s_nil (q_then (c_seq ?_)))))
 refine c_dec rfl (fun h6 => ?_) (fun h6 => ?_)
 ·refine c_skip (q_then (c_seq (c_block (c_seq (c_reg ?_)))))
  obtain ⟨x7, hx8⟩ : ∃ z9, xs[k]? = some z9 := ⟨_, List.getElem?_eq_getElem (show k < xs.length by omega)⟩
  have th9 := H.thR 0 rfl hx8
  refine s_val rfl rfl (r_iaE (p := oOf A1 + k * 2) rfl sl35 rfl rfl (by omega) (by omega) th9 rfl) (s_val rfl rfl (r_ldA (cs := [.string x7.key, .string x7.val]) rfl ty106 rfl rfl (H.elsR 0 rfl hx8 rfl)) (s_alloc rfl rfl rfl zr106 H (fun b10 w H => (s_st rfl rfl rfl ty106 rfl rfl H rfl (Nat.le_of_ble_eq_true rfl) (fun u hu => by simp [Value.cells] at hu; rcases hu with rfl | rfl <;> rfl) (fun w H => ?_)))))
  replace H := H.h2 (A := blk b10 [.string x7.key, .string x7.val] 106) (B := osl kStr l ((xs.take k).map (·.key)))
  refine s_nil (q_then (c_reg (s_1 rfl (s_val rfl rfl (r_fa rfl fo106_0 rfl) (s_val rfl rfl (r_ld rfl ty9 rfl (H.cellI 0 rfl rfl)) (s_bsl (parts := [(0, .tmp 14)]) (vs := [.string x7.key]) (cs := [.string x7.key]) rfl rfl rfl sl241 zr9 rfl (by decide) (by decide) rfl rfl H (fun b11 w H => ?_)))))))
  replace H := H.p2
  refine s_appF (xs := (xs.take k).map (·.key)) (ys := [x7.key]) rfl rfl rfl sl241 zr9 rfl (by decide) rfl rfl H (by omega) (fun F hA hR => blk_rsl (hA _ (List.mem_of_getElem? (i := 0) rfl)) rfl (by decide) (RepsR.flat_eq.2 rfl)) (fun v12 w H => (s_1 rfl (s_nil (q_blockN (q_then ?_)))))
  replace H : Hd _ _ _ [osl kStr v12 (((xs.take k).map (·.key)) ++ [x7.key]), blk b11 [.string x7.key] 9, blk b10 [.string x7.key, .string x7.val] 106] [rsl kPair (.slice A1 xs.length c2) xs] := H
  refine c_reg (s_val rfl rfl (r_add (z := ((k + 1 : Nat) : Int)) rfl rfl rfl (by rw [w64 (by omega) (by omega)]; omega)) (s_1 rfl (s_nil ?_)))
  rw [← keyk hx8] at H
  replace H := H.k1
  exact q_round (s := (k, undef)) (k + 1, v12) ⟨rfl, rfl, rfl, rfl, rfl, trivial⟩ ⟨H, by (try dsimp only); omega⟩ (by (try dsimp only); omega)
 refine c_exit (q_thenE (q_thenE (q_blockE (q_then (c_seq (c_reg (s_1 rfl (sc (sortStr_ok l ((xs.take k).map (·.key)) (by first | omega | (rw [sortS_len]; omega))) H l0 rfl rfl (e_fn kn246 rfl rfl) ?_))))))))
 rintro v13 _ w rfl H
 replace H := H.h1 (A := osl kStr l (sortS ((xs.take k).map (·.key))))
 refine s_nil (q_then (c_seq (c_reg (s_1 rfl (sc (compStr_ok l (sortS ((xs.take k).map (·.key))) (by first | omega | (rw [sortS_len]; omega))) H l0 rfl rfl (e_fn kn247 rfl rfl) ?_)))))
 rintro v14 _ w rfl H
 replace H := H.h1 (A := osl kStr v14 (compS (sortS ((xs.take k).map (·.key)))))
 refine s_1 rfl (s_nil (q_then (c_ret (q_ret1 rfl rfl ?_))))
 rw [List.take_of_length_le (show xs.length ≤ k by omega)] at H
 exact fin rfl H
theorem indexFP_ok (f : FuncId) (cap : List Value) (Ex : List SP) (p : Pair → Bool) (hkf : Known Tryz.prog f) (hp : ∀ x, Cn Tryz.prog f ([.agg #[.string x.key, .string x.val]] ++ cap) [] Ex (fun v Bs => v = .bool (p x) ∧ Bs = [])) (v : Value) (xs : List Pair) :
    Cn Tryz.prog 206 [v, .func (.func f) #[] (cap).toArray] [] (rsl kPair v xs :: Ex) (fun v Bs => v = .int .i64 (fidx p xs) ∧ Bs = []) := by
 intro w0 F0 H
 obtain ⟨A1, c2, rfl, hc3, hm4, hp5⟩ := H.fR 0 rfl
 refine enter Tryz.func206 rfl rfl (Nat.le_of_ble_eq_true rfl) (c_seq (c_reg (s_1 rfl (s_nil (q_then ?_)))))
 replace H : Hd _ _ _ [] (rsl kPair (.slice A1 xs.length c2) xs :: Ex) := H
 refine c_seq (c_seq (c_reg (s_1 rfl (s_val rfl rfl (r_lenL rfl un35 rfl) (s_1 rfl (s_nil (q_then (c_block (c_loop (σ := Nat) (fun k => [(0, .slice A1 xs.length c2), (1, .func (.func f) #[] (cap).toArray), (7, .int .i64 ((xs.length : Nat) : Int)), (8, .int .i64 ((k : Nat) : Int))]) (fun k w => (Hd w0 F0 w [] (rsl kPair (.slice A1 xs.length c2) xs :: Ex)) ∧ (k ≤ xs.length) ∧ (∀ y ∈ xs.take k, p y = false)) (fun k => xs.length - k) 0 ⟨rfl, rfl, rfl, rfl, trivial⟩ ⟨H, by omega, by simp⟩ ?_)))))))))
 rintro k w ⟨H, hk, hn⟩
 refine c_seq (c_reg (s_val rfl rfl (r_lt rfl rfl rfl) (s_nil (q_then (c_seq ?_)))))
 refine c_dec rfl (fun h6 => ?_) (fun h6 => ?_)
 ·refine c_skip (q_then (c_seq (c_block (c_seq (c_reg (s_k 2 rfl (s_nil (q_then (c_seq (c_reg (s_k 3 rfl ?_)))))))))))
  obtain ⟨x7, hx8⟩ : ∃ z9, xs[k]? = some z9 := ⟨_, List.getElem?_eq_getElem (show k < xs.length by omega)⟩
  have th9 := H.thR 0 rfl hx8
  refine s_val rfl rfl (r_iaE (p := oOf A1 + k * 2) rfl sl35 rfl rfl (by omega) (by omega) th9 rfl) (s_val rfl rfl (r_ldA (cs := [.string x7.key, .string x7.val]) rfl ty106 rfl rfl (H.elsR 0 rfl hx8 rfl)) (sc (hp x7) H (fun S hS F hA hR => hR S (List.mem_cons_of_mem _ hS)) rfl rfl (e_val (vs := [.agg #[.string x7.key, .string x7.val]]) (fs := #[]) (cs := cap.toArray) hkf rfl rfl rfl) ?_))
  rintro _ _ w ⟨rfl, rfl⟩ H
  refine s_nil (q_then ?_)
  refine c_cond (b := p x7) rfl (fun h10 => ?_) (fun h10 => ?_)
  ·exact c_seq (c_reg (s_k 2 rfl (s_nil (q_then (c_ret (q_blockR (q_thenR (q_thenR (q_blockR (q_thenR (q_ret1 rfl rfl (fin ⟨by rw [fidx_hit hn hx8 h10] <;> rfl, rfl⟩ H))))))))))))
  exact c_skip (q_blockN (q_then (c_reg (s_val rfl rfl (r_add (z := ((k + 1 : Nat) : Int)) rfl rfl rfl (by rw [w64 (by omega) (by omega)]; omega)) (s_1 rfl (s_nil (q_round (s := k) (k + 1) ⟨rfl, rfl, rfl, rfl, trivial⟩ ⟨H, by omega, take_false hn hx8 h10⟩ (by (try dsimp only); omega))))))))
 refine c_exit (q_thenE (q_thenE (q_blockE (q_then (c_seq (c_reg (s_1 rfl (s_nil (q_then (c_ret (q_ret1 rfl rfl ?_)))))))))))
 have hn2 : ∀ y ∈ xs, p y = false := by rw [← take_all (xs := xs) (k := k) (by omega)]; exact hn
 exact fin ⟨by rw [fidx_miss hn2] <;> rfl, rfl⟩ H
theorem containsFP_ok (f : FuncId) (cap : List Value) (Ex : List SP) (p : Pair → Bool) (hkf : Known Tryz.prog f) (hp : ∀ x, Cn Tryz.prog f ([.agg #[.string x.key, .string x.val]] ++ cap) [] Ex (fun v Bs => v = .bool (p x) ∧ Bs = [])) (v : Value) (xs : List Pair) :
    Cn Tryz.prog 173 [v, .func (.func f) #[] (cap).toArray] [] (rsl kPair v xs :: Ex) (fun v Bs => v = .bool (xs.any p) ∧ Bs = []) := by
 intro w0 F0 H
 refine enter Tryz.func173 rfl rfl (Nat.le_of_ble_eq_true rfl) (c_seq (c_reg (s_1 rfl (s_nil (q_then (c_seq (c_reg (s_k 2 rfl (sc (indexFP_ok f cap Ex p hkf hp v xs) H lAll rfl rfl (e_fn kn206 rfl rfl) ?_)))))))))
 rintro _ _ w ⟨rfl, rfl⟩ H
 exact s_val rfl rfl (r_ge rfl rfl rfl) (s_1 rfl (s_nil (q_then (c_ret (q_ret1 rfl rfl (fin ⟨congrArg Value.bool (fidx_nonneg p xs), rfl⟩ H))))))
theorem mayF_ok (x : Pair) :
    Cn Tryz.prog 174 [.agg #[.string x.key, .string x.val]] [] [] (fun v Bs => v = .bool (!decide (mayP x)) ∧ Bs = []) := by
 intro w0 F0 H
 refine enter Tryz.func174 rfl rfl (Nat.le_of_ble_eq_true rfl) (c_seq (c_reg (s_box rfl rfl rfl rfl H (fun b1 w H => (s_1 rfl (s_nil (q_then ?_)))))))
 replace H : Hd _ _ _ [blk b1 [.string x.key, .string x.val] 106] [] := H
 refine c_seq (c_reg (s_val rfl rfl (r_fa rfl fo106_0 rfl) (s_val rfl rfl (r_ld rfl ty9 rfl (H.cellI 0 rfl rfl)) (s_val rfl rfl (r_lenS rfl un9 rfl) (s_val rfl rfl (r_gt rfl rfl rfl) (s_1 rfl ?_))))))
 refine s_dec (d := 7) rfl (fun h2 => ?_) (fun h2 => ?_)
 ·refine s_k 6 rfl (s_nil (q_then (c_ret (q_ret1 rfl rfl ?_))))
  replace H := H.nil
  exact fin ⟨by rw [decide_eq_false (by unfold mayP; omega)]; rfl, rfl⟩ H
 refine s_val rfl rfl (r_fa rfl fo106_1 rfl) (s_val rfl rfl (r_ld rfl ty9 rfl (H.cellI 0 rfl rfl)) (s_val rfl rfl (r_lenS rfl un9 rfl) (s_val rfl rfl (r_gt rfl rfl rfl) (s_k 2 rfl (s_nil (q_then (c_ret (q_ret1 rfl rfl ?_))))))))
 replace H := H.nil
 exact fin ⟨congrArg Value.bool (by rw [← decide_not]; exact decide_eq_decide.2 (by unfold mayP; omega)), rfl⟩ H
theorem pMayL_ok (vxs : Value) (xs : List Pair) :
    Cn Tryz.prog 120 [vxs] [] [rsl kPair vxs xs] (fun v Bs => v = .bool (decide (mayL xs)) ∧ Bs = []) := by
 intro w0 F0 H
 obtain ⟨A1, c2, rfl, hc3, hm4, hp5⟩ := H.fR 0 rfl
 refine enter Tryz.func120 rfl rfl (Nat.le_of_ble_eq_true rfl) (c_seq (c_reg (s_1 rfl (s_nil (q_then ?_)))))
 replace H : Hd _ _ _ [] [rsl kPair (.slice A1 xs.length c2) xs] := H
 refine c_seq (c_reg (s_1 rfl (sc (containsFP_ok 174 [] [] (fun p => !decide (mayP p)) kn174 (fun x => mayF_ok x) (.slice A1 xs.length c2) xs) H (lR 0 rfl l0) rfl rfl (e_fn kn173 rfl rfl) ?_)))
 rintro _ _ w ⟨rfl, rfl⟩ H
 exact s_val rfl rfl (r_not rfl rfl rfl) (s_1 rfl (s_nil (q_then (c_ret (q_ret1 rfl rfl (fin ⟨congrArg Value.bool (may_any xs), rfl⟩ H))))))
theorem equalP_ok (vxs : Value) (xs : List Pair) (vys : Value) (ys : List Pair) :
    Cn Tryz.prog 181 [vxs, vys] [] [rsl kPair vxs xs, rsl kPair vys ys] (fun v Bs => v = .bool (decide (xs = ys)) ∧ Bs = []) := by
 intro w0 F0 H
 obtain ⟨A1, c2, rfl, hc3, hm4, hp5⟩ := H.fR 0 rfl
 obtain ⟨A6, c7, rfl, hc8, hm9, hp10⟩ := H.fR 1 rfl
 refine enter Tryz.func181 rfl rfl (Nat.le_of_ble_eq_true rfl) (c_seq (c_reg (s_1 rfl (s_nil (q_then ?_)))))
 replace H : Hd _ _ _ [] [rsl kPair (.slice A1 xs.length c2) xs, rsl kPair (.slice A6 ys.length c7) ys] := H
 refine c_seq (c_seq (c_reg (s_1 rfl (s_val rfl rfl (r_lenL rfl un35 rfl) (s_1 rfl (s_val rfl rfl (r_lenL rfl un35 rfl) (s_val rfl rfl (r_ne rfl rfl rfl) (s_nil (q_then ?_)))))))))
 refine c_dec rfl (fun h11 => ?_) (fun h11 => ?_)
 ·refine c_seq (c_reg (s_1 rfl (s_nil (q_then (c_ret (q_thenR (q_ret1 rfl rfl ?_)))))))
  have e : ¬ xs = ys := fun e => h11 (by rw [e])
  exact fin ⟨by rw [decide_eq_false e] <;> rfl, rfl⟩ H
 refine c_skip (q_then (c_seq (c_seq (c_reg (s_1 rfl (s_val rfl rfl (r_lenL rfl un35 rfl) (s_1 rfl (s_nil (q_then (c_block ?_))))))))))
 have hle : xs.length = ys.length := by omega
 refine c_loop (σ := Nat) (fun k => [(0, .slice A1 xs.length c2), (1, .slice A6 ys.length c7), (12, .int .i64 ((xs.length : Nat) : Int)), (13, .int .i64 ((k : Nat) : Int))]) (fun k w => (Hd w0 F0 w [] [rsl kPair (.slice A1 xs.length c2) xs, rsl kPair (.slice A6 ys.length c7) ys]) ∧ (k ≤ xs.length) ∧ (xs.length = ys.length) ∧ (xs.take k = ys.take k)) (fun k => xs.length - k) 0 ⟨rfl, rfl, rfl, rfl, trivial⟩ ⟨H, by omega, hle, rfl⟩ ?_
 rintro k w ⟨H, hk, hle, ht⟩
 refine c_seq (c_reg (s_val rfl rfl (r_lt rfl rfl rfl) (s_nil (q_then (c_seq ?_)))))
 refine c_dec rfl (fun h12 => ?_) (fun h12 => ?_)
 ·refine c_skip (q_then (c_seq (c_block (c_seq (c_reg (s_k 2 rfl (s_nil (q_then (c_seq (c_draw mo (by kernel_rfl) H (u_k 2 rfl ?_)))))))))))
  obtain ⟨x13, hx14⟩ : ∃ z9, xs[k]? = some z9 := ⟨_, List.getElem?_eq_getElem (show k < xs.length by omega)⟩
  have th15 := H.thR 0 rfl hx14
  refine u_val rfl rfl (fun w H => r_iaE (p := oOf A1 + k * 2) rfl sl35 rfl rfl (by omega) (by omega) th15 rfl) (u_val rfl rfl (fun w H => r_ldA (cs := [.string x13.key, .string x13.val]) rfl ty106 rfl rfl (H.elsR 0 rfl hx14 rfl)) (u_k 2 rfl ?_))
  obtain ⟨x16, hx17⟩ : ∃ z9, ys[k]? = some z9 := ⟨_, List.getElem?_eq_getElem (show k < ys.length by omega)⟩
  have th18 := H.thR 1 rfl hx17
  refine u_val rfl rfl (fun w H => r_iaE (p := oOf A6 + k * 2) rfl sl35 rfl rfl (by omega) (by omega) th18 rfl) (u_val rfl rfl (fun w H => r_ldA (cs := [.string x16.key, .string x16.val]) rfl ty106 rfl rfl (H.elsR 1 rfl hx17 rfl)) (u_val rfl rfl (fun w H => r_nePair (p := x13) (q := x16) rfl eqz106 rfl rfl) (u_end (fun w H => (q_then ?_)))))
  refine c_dec rfl (fun h19 => ?_) (fun h19 => ?_)
  ·refine c_seq (c_reg (s_1 rfl (s_nil (q_then (c_ret (q_blockR (q_thenR (q_thenR (q_blockR (q_thenR (q_ret1 rfl rfl ?_)))))))))))
   have e : ¬ xs = ys := fun e => h19 (by rw [e, hx17] at hx14; exact (Option.some.inj hx14).symm)
   exact fin ⟨by rw [decide_eq_false e] <;> rfl, rfl⟩ H
  refine c_skip (q_blockN (q_then (c_reg (s_val rfl rfl (r_add (z := ((k + 1 : Nat) : Int)) rfl rfl rfl (by rw [w64 (by omega) (by omega)]; omega)) (s_1 rfl (s_nil ?_))))))
  have e : x13 = x16 := Classical.not_not.1 h19
  subst e
  exact q_round (s := k) (k + 1) ⟨rfl, rfl, rfl, rfl, trivial⟩ ⟨H, by omega, hle, take_more hx14 hx17 ht⟩ (by (try dsimp only); omega)
 refine c_exit (q_thenE (q_thenE (q_blockE (q_then (c_seq (c_reg (s_1 rfl (s_nil (q_then (c_ret (q_ret1 rfl rfl ?_)))))))))))
 have e : xs = ys := by rw [← take_all (xs := xs) (k := k) (by omega), ← take_all (xs := ys) (k := k) (by omega)]; exact ht
 exact fin ⟨by rw [decide_eq_true e] <;> rfl, rfl⟩ H
theorem pSame_ok (vxs : Value) (xs : List Pair) (vys : Value) (ys : List Pair) :
    Cn Tryz.prog 133 [vxs, vys] [] [rsl kPair vxs xs, rsl kPair vys ys] (fun v Bs => v = .bool (decide (xs = ys)) ∧ Bs = []) := by
 intro w0 F0 H
 obtain ⟨A1, c2, rfl, hc3, hm4, hp5⟩ := H.fR 0 rfl
 obtain ⟨A6, c7, rfl, hc8, hm9, hp10⟩ := H.fR 1 rfl
 refine enter Tryz.func133 rfl rfl (Nat.le_of_ble_eq_true rfl) (c_seq (c_reg (s_1 rfl (s_nil (q_then ?_)))))
 replace H : Hd _ _ _ [] [rsl kPair (.slice A1 xs.length c2) xs, rsl kPair (.slice A6 ys.length c7) ys] := H
 refine c_seq (c_reg (s_k 2 rfl (sc (equalP_ok (.slice A1 xs.length c2) xs (.slice A6 ys.length c7) ys) H (lR 0 rfl (lR 1 rfl l0)) rfl rfl (e_fn kn181 rfl rfl) ?_)))
 rintro _ _ w ⟨rfl, rfl⟩ H
 exact s_1 rfl (s_nil (q_then (c_ret (q_ret1 rfl rfl (fin ⟨rfl, rfl⟩ H)))))
theorem emit_len {told : List Pair} {k v : ByteArray} (h : told.length ≤ 40) : (emitM told k v).2.length ≤ 40 := by
 unfold emitM
 split
 ·exact h
 ·split
  ·exact h
  ·simp only [List.length_append, List.length_cons, List.length_nil]; omega
theorem nextM_told (m : VM) : (nextM m).1.told = m.told := by
 rw [next_S]
def TL (r : VM × Int) : Prop := r.1.told.length ≤ 40
theorem ite_p {c : Prop} [Decidable c] {x y : VM × Int} (hx : TL x) (hy : TL y) : TL (if c then x else y) := by
 split
 ·exact hx
 ·exact hy
theorem act_told {D : Dig} {key : ByteArray} {m : VM} {i : Ins} {v : List Val} (h : m.told.length ≤ 40) : (actM D key m i v).1.told.length ≤ 40 := by
 have hn : TL (nextM m) := by unfold TL; rw [nextM_told]; exact h
 have h20 : TL (if (v.getD 0 val0).n ≠ 0 then {m with pos := i.a} else m, 0) := by
  unfold TL
  dsimp only
  split <;> exact h
 exact ite_p h (ite_p h (ite_p h (ite_p h (ite_p h (ite_p h (ite_p hn (ite_p h (ite_p h (ite_p h (ite_p h (ite_p h (ite_p h (ite_p h (ite_p h (ite_p h (ite_p h20 (ite_p h (ite_p h (ite_p (emit_len h) h)))))))))))))))))))
theorem does_told {D : Dig} {key : ByteArray} {m : VM} {i : Ins} (h : m.told.length ≤ 40) : (doesM D key m i).1.told.length ≤ 40 := by
 unfold doesM
 split
 ·exact h
 ·exact act_told h
theorem play_told {D : Dig} {p : List Ins} {key : ByteArray} : ∀ (k : Nat) {m : VM}, m.told.length ≤ 40 → (playM D p key k m).1.told.length ≤ 40
 | 0, m, h => by
  unfold playM
  split <;> exact h
 | k + 1, m, h => by
  unfold playM
  split
  ·split
   ·split
    ·exact does_told h
    ·exact play_told k (does_told h)
   ·exact h
  ·exact h
theorem run_told (D : Dig) (p : List Ins) (key : ByteArray) (vals : List ByteArray) (fuel : Int) : (runM D p key vals fuel).1.length ≤ 40 := by
 unfold runM
 split
 ·exact Nat.zero_le _
 ·split
  ·exact Nat.zero_le _
  ·exact play_told _ (Nat.zero_le _)
def otherKey (k : ByteArray) (l : List Pair) : Bool := l.any fun x => decide (x.key ≠ k)
def eachGo (D : Dig) (p : List Ins) (ps : List Pair) (fuel : Int) (own : Bool) : List ByteArray → List Pair → List Pair × Int
 | [], out => (out, 0)
 | k :: ks, out =>
  if (runM D p k (ofL ps k) fuel).2 ≠ 0 then ([], (runM D p k (ofL ps k) fuel).2)
  else if own = true ∧ otherKey k (runM D p k (ofL ps k) fuel).1 = true then ([], 6)
  else if 40 < out.length + (runM D p k (ofL ps k) fuel).1.length then ([], 5)
  else eachGo D p ps fuel own ks (out ++ (runM D p k (ofL ps k) fuel).1)
def eachM (D : Dig) (p : List Ins) (ps : List Pair) (fuel : Int) (own : Bool) : List Pair × Int := eachGo D p ps fuel own (keysL ps) []
def combM (D : Dig) (p : List Ins) (ps : List Pair) (fuel : Int) : List Pair × Int := if p.length = 0 then (srt ps, 0) else eachM D p ps fuel true
section
variable {D : Dig} {p : List Ins} {ps : List Pair} {fuel : Int} {own : Bool} {ks : List ByteArray} {k : ByteArray} {out : List Pair} {i : Nat}
theorem go_end (h : ks.length ≤ i) : eachGo D p ps fuel own (ks.drop i) out = (out, 0) := by
 rw [List.drop_eq_nil_of_le h]; rfl
theorem go_why (hk : ks[i]? = some k) (h : (runM D p k (ofL ps k) fuel).2 ≠ 0) : eachGo D p ps fuel own (ks.drop i) out = ([], (runM D p k (ofL ps k) fuel).2) := by
 rw [drop_at hk]; exact if_pos h
theorem go_key (hk : ks[i]? = some k) (h : ¬ (runM D p k (ofL ps k) fuel).2 ≠ 0) (h2 : own = true) (h3 : otherKey k (runM D p k (ofL ps k) fuel).1 = true) : eachGo D p ps fuel own (ks.drop i) out = ([], 6) := by
 rw [drop_at hk]; unfold eachGo; rw [if_neg h, if_pos ⟨h2, h3⟩]
theorem go_many (hk : ks[i]? = some k) (h : ¬ (runM D p k (ofL ps k) fuel).2 ≠ 0) (h2 : ¬ (own = true ∧ otherKey k (runM D p k (ofL ps k) fuel).1 = true)) (h3 : 40 < out.length + (runM D p k (ofL ps k) fuel).1.length) : eachGo D p ps fuel own (ks.drop i) out = ([], 5) := by
 rw [drop_at hk]; unfold eachGo; rw [if_neg h, if_neg h2, if_pos h3]
theorem go_on (hk : ks[i]? = some k) (h : ¬ (runM D p k (ofL ps k) fuel).2 ≠ 0) (h2 : ¬ (own = true ∧ otherKey k (runM D p k (ofL ps k) fuel).1 = true)) (h3 : ¬ 40 < out.length + (runM D p k (ofL ps k) fuel).1.length) :
  eachGo D p ps fuel own (ks.drop (i + 1)) (out ++ (runM D p k (ofL ps k) fuel).1) = eachGo D p ps fuel own (ks.drop i) out := by
 rw [drop_at hk]; conv => rhs; unfold eachGo
 rw [if_neg h, if_neg h2, if_neg h3]
end
theorem each_len (D : Dig) (p : List Ins) (ps : List Pair) (fuel : Int) (own : Bool) : ∀ (ks : List ByteArray) (out : List Pair), out.length ≤ 40 → (eachGo D p ps fuel own ks out).1.length ≤ 40
 | [], out, h => h
 | k :: ks, out, h => by
  unfold eachGo
  split
  ·exact Nat.zero_le _
  ·split
   ·exact Nat.zero_le _
   ·split
    ·exact Nat.zero_le _
    ·exact each_len D p ps fuel own ks _ (by simp only [List.length_append]; omega)
def firstP : List Ins := [⟨6, 0, ⟨#[]⟩⟩, ⟨7, 0, ⟨#[]⟩⟩, ⟨4, 0, ⟨#[]⟩⟩, ⟨23, 0, ⟨#[]⟩⟩]
theorem in64_first : ∀ i ∈ firstP, In64 i.a := by
 intro i hi
 simp only [firstP, List.mem_cons, List.not_mem_nil, or_false] at hi
 rcases hi with rfl | rfl | rfl | rfl <;> exact in0
theorem eachF_ok (x : Pair) (kb : Nat) (key : ByteArray) :
    Cn Tryz.prog 213 [.agg #[.string x.key, .string x.val], .pointer (some ⟨kb, 0, none⟩)] [] [blk kb [.string key] 9] (fun v Bs => v = .bool (decide (x.key ≠ key)) ∧ Bs = []) := by
 intro w0 F0 H
 refine enter Tryz.func213 rfl rfl (Nat.le_of_ble_eq_true rfl) (c_seq (c_reg (s_box rfl rfl rfl rfl H (fun b1 w H => (s_1 rfl (s_nil (q_then ?_)))))))
 replace H : Hd _ _ _ [blk b1 [.string x.key, .string x.val] 106] [blk kb [.string key] 9] := H
 refine c_seq (c_reg (s_val rfl rfl (r_fa rfl fo106_0 rfl) (s_val rfl rfl (r_ld rfl ty9 rfl (H.cellI 0 rfl rfl)) (s_val rfl rfl (r_ld rfl ty9 rfl (H.cellRI 0 rfl rfl)) (s_val rfl rfl (r_neS rfl rfl rfl) (s_1 rfl (s_nil (q_then (c_ret (q_ret1 rfl rfl ?_))))))))))
 replace H := H.nil
 exact fin ⟨rfl, rfl⟩ H
theorem each_ok (vp : Value) (p : List Ins) (vps : Value) (ps : List Pair) (fuel : Int) (own : Bool) (hpa : ∀ i ∈ p, In64 i.a) (hfu : In64 fuel) (hb : ps.length ≤ 1000000) :
    Cn Tryz.prog 177 [vp, vps, .int .i64 fuel, .bool own] [] [rsl kIns vp p, rsl kPair vps ps, gl] (fun v Bs => ∃ u, v = .tuple #[u, .int .i64 (eachM dg p ps fuel own).2] ∧ Bs = [osl kPair u (eachM dg p ps fuel own).1]) := by
 intro w0 F0 H
 obtain ⟨A1, c2, rfl, hc3, hm4, hp5⟩ := H.fR 0 rfl
 obtain ⟨A6, c7, rfl, hc8, hm9, hp10⟩ := H.fR 1 rfl
 refine enter Tryz.func177 rfl rfl (Nat.le_of_ble_eq_true rfl) (c_seq (c_reg (s_k 2 rfl (s_nil (q_then ?_)))))
 replace H : Hd _ _ _ [] [rsl kIns (.slice A1 p.length c2) p, rsl kPair (.slice A6 ps.length c7) ps, gl] := H
 refine c_seq (c_reg (s_1 rfl (s_nil (q_then (c_seq (c_reg (sc tallyNew_ok H l0 rfl rfl (e_fn kn210 rfl rfl) ?_)))))))
 rintro _ _ w ⟨b11, rfl, rfl⟩ H
 replace H := H.h1 (A := blk b11 [.int .i64 0, .int .i64 0, .int .i64 0, .int .i64 0, .int .i64 0, .int .i64 0, .int .i64 0, .int .i64 0] 322)
 refine s_1 rfl (s_nil (q_then (c_seq (c_seq (c_reg (s_1 rfl (sc (pKeys_ok (.slice A6 ps.length c7) ps (by first | omega | decide)) H (lR 1 rfl l0) rfl rfl (e_fn kn211 rfl rfl) ?_)))))))
 rintro v12 _ w rfl H
 obtain ⟨A13, c14, rfl, hc15, hm16, hp17⟩ := H.fA 0 rfl
 refine s_val rfl rfl (r_lenL rfl un241 rfl) (s_1 rfl (s_nil (q_then ?_)))
 replace H : Hd _ _ _ [osl kStr (.slice A13 ((keysL ps).length) c14) (keysL ps), blk b11 [.int .i64 0, .int .i64 0, .int .i64 0, .int .i64 0, .int .i64 0, .int .i64 0, .int .i64 0, .int .i64 0] 322] [rsl kIns (.slice A1 p.length c2) p, rsl kPair (.slice A6 ps.length c7) ps, gl] := H
 refine c_block ?_
 replace H := H.newnil kPair
 refine c_loop (σ := Nat × Value × List Pair) (fun (i, q, out) => [(0, .slice A1 p.length c2), (1, .slice A6 ps.length c7), (2, .int .i64 fuel), (3, .bool own), (10, q), (11, .pointer (some ⟨b11, 0, none⟩)), (18, .slice A13 ((keysL ps).length) c14), (19, .int .i64 (((keysL ps).length : Nat) : Int)), (20, .int .i64 ((i : Nat) : Int))]) (fun (i, q, out) w => (Hd w0 F0 w [osl kPair q out, osl kStr (.slice A13 ((keysL ps).length) c14) (keysL ps), blk b11 [.int .i64 (out.length : Int), .int .i64 0, .int .i64 0, .int .i64 0, .int .i64 0, .int .i64 0, .int .i64 0, .int .i64 0] 322] [rsl kIns (.slice A1 p.length c2) p, rsl kPair (.slice A6 ps.length c7) ps, gl]) ∧ (i ≤ (keysL ps).length) ∧ (eachGo dg p ps fuel own ((keysL ps).drop i) out = eachM dg p ps fuel own) ∧ (out.length ≤ 40)) (fun (i, q, out) => (keysL ps).length - i) (0, .slice none 0 0, []) ⟨rfl, rfl, rfl, rfl, rfl, rfl, rfl, rfl, rfl, trivial⟩ ⟨H, Nat.zero_le _, rfl, Nat.zero_le _⟩ ?_
 rintro ⟨i, q, out⟩ w ⟨H, hi, hgo, ho⟩
 have hkl := keysL_len ps
 refine c_seq (c_reg (s_val rfl rfl (r_lt rfl rfl rfl) (s_nil (q_then (c_seq ?_)))))
 refine c_dec rfl (fun h18 => ?_) (fun h18 => ?_)
 ·refine c_skip (q_then (c_seq (c_block (c_seq (c_reg ?_)))))
  obtain ⟨x19, hx20⟩ : ∃ z9, (keysL ps)[i]? = some z9 := ⟨_, List.getElem?_eq_getElem (show i < (keysL ps).length by omega)⟩
  have th21 := H.thA 1 rfl hx20
  refine s_val rfl rfl (r_iaE (p := oOf A13 + i * 1) rfl sl241 rfl rfl (by omega) (by omega) th21 rfl) (s_val rfl rfl (r_ld rfl ty9 rfl (H.elA 1 rfl hx20 (q := 0) rfl rfl)) (s_alloc rfl rfl rfl zr9 H (fun b22 w H => (s_st rfl rfl rfl ty9 rfl rfl H rfl (Nat.le_of_ble_eq_true rfl) (fun u hu => by simp [Value.cells] at hu; subst hu; rfl) (fun w H => ?_)))))
  replace H := H.h4 (A := blk b22 [.string x19] 9) (B := osl kPair q out) (D := blk b11 [.int .i64 (out.length : Int), .int .i64 0, .int .i64 0, .int .i64 0, .int .i64 0, .int .i64 0, .int .i64 0, .int .i64 0] 322)
  refine s_nil (q_then (c_seq (c_ord (.e 0 (.e 1 (.e 2 (.e 3 (.e 5 (.m 4 (.m 6 (.e 7 (.e 8 (.e 9 (.e 10 (.e 11 .z)))))))))))) (fun w => ∃ Ar, Hd w0 F0 w (blk b22 [.string x19] 9 :: osl kPair q out :: osl kStr (.slice A13 ((keysL ps).length) c14) (keysL ps) :: blk b11 [.int .i64 (out.length : Int), .int .i64 0, .int .i64 0, .int .i64 0, .int .i64 0, .int .i64 0, .int .i64 0, .int .i64 0] 322 :: Ar) [rsl kIns (.slice A1 p.length c2) p, rsl kPair (.slice A6 ps.length c7) ps, gl]) mo (by kernel_rfl) (fun w H => ⟨_, H⟩) H (fun w H => (d_1 rfl (d_val rfl rfl rfl (fun w ⟨Ar, H⟩ => r_ld rfl ty9 rfl (H.cellI 0 rfl rfl)) (d_1 rfl (d_val rfl rfl rfl (fun w ⟨Ar, H⟩ => r_ld rfl ty9 rfl (H.cellI 0 rfl rfl)) (d_1 rfl (d_main rfl (sc (pOf_ok (.slice A6 ps.length c7) ps x19 (by first | omega | decide)) H (lR 1 rfl l0) rfl rfl (e_fn kn212 rfl rfl) ?_)))))))))))
  rintro v23 _ w rfl H
  replace H := H.h1 (A := osl kStr v23 (ofL ps x19)) |>.p4 |>.p4 |>.p4 |>.p4
  refine d_back ⟨_, H⟩ (d_main rfl (sc (vmRun_ok (.slice A1 p.length c2) p x19 v23 (ofL ps x19) fuel hpa hfu) H (lR 0 rfl (lA 4 rfl own_rd (lR 2 rfl l0))) rfl rfl (e_fn kn175 rfl rfl) ?_))
  rintro _ _ w ⟨u24, rfl, rfl⟩ H
  replace H := H.h1 (A := osl kPair u24 ((runM dg p x19 (ofL ps x19) fuel).1))
  have hrt := run_told dg p x19 (ofL ps x19) fuel
  replace H := H.p4.p4.p4.p4
  refine d_back ⟨_, H⟩ (d_1 rfl (d_1 rfl (d_1 rfl (d_1 rfl (d_1 rfl (d_nil (q_then (c_seq (c_block (c_seq (c_reg (s_1 rfl (s_val rfl rfl (r_ne rfl rfl rfl) (s_1 rfl (s_nil (q_then ?_))))))))))))))))
  refine c_dec rfl (fun h25 => ?_) (fun h25 => ?_)
  ·refine c_seq (c_reg (s_k 3 rfl (s_nil (q_then (c_ret (q_blockR (q_thenR (q_blockR (q_thenR (q_thenR (q_blockR (q_thenR (q_ret2 rfl rfl rfl ?_)))))))))))))
   have e : eachM dg p ps fuel own = ([], (runM dg p x19 (ofL ps x19) fuel).2) := hgo.symm.trans (go_why hx20 h25)
   replace H := H.nil |>.newnil kPair
   exact fin ⟨_, by rw [e] <;> rfl, by rw [e] <;> rfl⟩ H
  refine c_seq (c_reg (s_k 2 rfl ?_))
  refine s_boo (d := 40) (b := own) rfl (fun h26 => ?_) (fun h26 => ?_)
  ·refine s_1 rfl (s_val rfl rfl (r_fn (fs := #[]) (cs := #[.pointer (some ⟨b22, 0, none⟩)]) rfl rfl rfl) (sc (containsFP_ok 213 [.pointer (some ⟨b22, 0, none⟩)] [blk b22 [.string x19] 9] (fun y => decide (y.key ≠ x19)) kn213 (fun y => eachF_ok y b22 x19) u24 (runM dg p x19 (ofL ps x19) fuel).1) H (lA 4 rfl own_rd (lA 0 rfl (fun _ h => h) l0)) rfl rfl (e_fn kn173 rfl rfl) ?_))
   rintro _ _ w ⟨rfl, rfl⟩ H
   refine s_k 2 rfl (s_nil (q_then ?_))
   refine c_cond (b := otherKey x19 (runM dg p x19 (ofL ps x19) fuel).1) rfl (fun h27 => ?_) (fun h27 => ?_)
   ·refine c_seq (c_reg (s_k 2 rfl (s_nil (q_then (c_ret (q_blockR (q_thenR (q_blockR (q_thenR (q_thenR (q_blockR (q_thenR (q_ret2 rfl rfl rfl ?_)))))))))))))
    have e : eachM dg p ps fuel own = ([], 6) := hgo.symm.trans (go_key hx20 h25 h26 h27)
    replace H := H.nil |>.newnil kPair
    replace H : Hd _ _ _ [osl kPair (.slice none 0 0) []] [rsl kIns (.slice A1 p.length c2) p, rsl kPair (.slice A6 ps.length c7) ps, gl] := H
    exact fin ⟨_, by rw [e] <;> rfl, by rw [e] <;> rfl⟩ H
   refine c_seq (c_reg (s_k 2 rfl ?_))
   obtain ⟨A28, c29, rfl, hc30, hm31, hp32⟩ := H.fA 4 rfl
   refine s_val rfl rfl (r_lenL rfl un35 rfl) ?_
   replace H := H.p3
   replace H : Hd _ _ _ [blk b11 [.int .i64 (out.length : Int), .int .i64 0, .int .i64 0, .int .i64 0, .int .i64 0, .int .i64 0, .int .i64 0, .int .i64 0] 322, blk b22 [.string x19] 9, osl kPair q out, osl kStr (.slice A13 ((keysL ps).length) c14) (keysL ps), osl kPair (.slice A28 (((runM dg p x19 (ofL ps x19) fuel).1).length) c29) ((runM dg p x19 (ofL ps x19) fuel).1), osl kStr v23 (ofL ps x19)] [rsl kIns (.slice A1 p.length c2) p, rsl kPair (.slice A6 ps.length c7) ps, gl] := H
   refine sc (tallyAdd_ok b11 (out.length : Int) 0 0 0 0 0 0 0 ((((runM dg p x19 (ofL ps x19) fuel).1).length : Nat) : Int) (by omega) (by omega)) H l0 rfl rfl (e_fn kn214 rfl rfl) ?_
   rintro _ _ w ⟨rfl, rfl⟩ H
   replace H := H.h1 (A := blk b11 [.int .i64 (min ((out.length : Int) + ((((runM dg p x19 (ofL ps x19) fuel).1).length : Nat) : Int)) 1099511627776), .int .i64 0, .int .i64 0, .int .i64 0, .int .i64 0, .int .i64 0, .int .i64 0, .int .i64 0] 322)
   refine s_val rfl rfl (r_gt rfl rfl rfl) (s_1 rfl (s_nil (q_then ?_)))
   refine c_dec rfl (fun h33 => ?_) (fun h33 => ?_)
   ·refine c_seq (c_reg (s_k 2 rfl (s_nil (q_then (c_ret (q_blockR (q_thenR (q_blockR (q_thenR (q_thenR (q_blockR (q_thenR (q_ret2 rfl rfl rfl ?_)))))))))))))
    have e : eachM dg p ps fuel own = ([], 5) := hgo.symm.trans (go_many hx20 h25 (fun h => by rw [h.2] at h27; cases h27) (by omega))
    replace H := H.nil |>.newnil kPair
    exact fin ⟨_, by rw [e] <;> rfl, by rw [e] <;> rfl⟩ H
   refine c_skip (q_blockN (q_then (c_reg (s_k 2 rfl ?_))))
   replace H := H.p2
   refine s_appF (xs := out) (ys := (runM dg p x19 (ofL ps x19) fuel).1) rfl rfl rfl sl35 zr106 rfl (by decide) rfl rfl H (by omega) (fun F hA hR => own_rd F (hA _ (List.mem_of_getElem? (i := 3) rfl))) (fun v34 w H => ?_)
   replace H := H.h1 (A := osl kPair v34 (out ++ ((runM dg p x19 (ofL ps x19) fuel).1)))
   refine s_1 rfl (s_nil (q_blockN (q_then (c_reg (s_val rfl rfl (r_add (z := ((i + 1 : Nat) : Int)) rfl rfl rfl (by rw [w64 (by omega) (by omega)]; omega)) (s_1 rfl (s_nil ?_)))))))
   replace H := H.p3.p1.k3
   have hl2 : ((out ++ (runM dg p x19 (ofL ps x19) fuel).1).length : Int) = min ((out.length : Int) + ((((runM dg p x19 (ofL ps x19) fuel).1).length : Nat) : Int)) 1099511627776 := by rw [List.length_append]; omega
   replace H : Hd w0 F0 w [osl kPair v34 (out ++ ((runM dg p x19 (ofL ps x19) fuel).1)), osl kStr (.slice A13 ((keysL ps).length) c14) (keysL ps), blk b11 [.int .i64 ((out ++ (runM dg p x19 (ofL ps x19) fuel).1).length : Int), .int .i64 0, .int .i64 0, .int .i64 0, .int .i64 0, .int .i64 0, .int .i64 0, .int .i64 0] 322] [rsl kIns (.slice A1 p.length c2) p, rsl kPair (.slice A6 ps.length c7) ps, gl] := by rw [hl2]; exact H
   have hg2 := (go_on (out := out) hx20 h25 (fun h => by rw [h.2] at h27; cases h27) (by omega)).trans hgo
   have ho2 : (out ++ (runM dg p x19 (ofL ps x19) fuel).1).length ≤ 40 := by rw [List.length_append]; omega
   exact q_round (s := (i, undef, out)) (i + 1, v34, out ++ (runM dg p x19 (ofL ps x19) fuel).1) ⟨rfl, rfl, rfl, rfl, rfl, rfl, rfl, rfl, rfl, trivial⟩ ⟨H, by (try dsimp only); omega, hg2, ho2⟩ (by (try dsimp only); omega)
  refine s_k 5 rfl (s_nil (q_then (c_no rfl (c_seq (c_reg (s_k 2 rfl ?_))))))
  obtain ⟨A35, c36, rfl, hc37, hm38, hp39⟩ := H.fA 4 rfl
  refine s_val rfl rfl (r_lenL rfl un35 rfl) ?_
  replace H := H.p3
  refine sc (tallyAdd_ok b11 (out.length : Int) 0 0 0 0 0 0 0 ((((runM dg p x19 (ofL ps x19) fuel).1).length : Nat) : Int) (by omega) (by omega)) H l0 rfl rfl (e_fn kn214 rfl rfl) ?_
  rintro _ _ w ⟨rfl, rfl⟩ H
  replace H := H.h1 (A := blk b11 [.int .i64 (min ((out.length : Int) + ((((runM dg p x19 (ofL ps x19) fuel).1).length : Nat) : Int)) 1099511627776), .int .i64 0, .int .i64 0, .int .i64 0, .int .i64 0, .int .i64 0, .int .i64 0, .int .i64 0] 322)
  refine s_val rfl rfl (r_gt rfl rfl rfl) (s_1 rfl (s_nil (q_then ?_)))
  refine c_dec rfl (fun h40 => ?_) (fun h40 => ?_)
  ·refine c_seq (c_reg (s_k 2 rfl (s_nil (q_then (c_ret (q_blockR (q_thenR (q_blockR (q_thenR (q_thenR (q_blockR (q_thenR (q_ret2 rfl rfl rfl ?_)))))))))))))
   have e : eachM dg p ps fuel own = ([], 5) := hgo.symm.trans (go_many hx20 h25 (fun h => by rw [h.1] at h26; cases h26) (by omega))
   replace H := H.nil |>.newnil kPair
   exact fin ⟨_, by rw [e] <;> rfl, by rw [e] <;> rfl⟩ H
  refine c_skip (q_blockN (q_then (c_reg (s_k 2 rfl ?_))))
  replace H := H.p2
  refine s_appF (xs := out) (ys := (runM dg p x19 (ofL ps x19) fuel).1) rfl rfl rfl sl35 zr106 rfl (by decide) rfl rfl H (by omega) (fun F hA hR => own_rd F (hA _ (List.mem_of_getElem? (i := 3) rfl))) (fun v41 w H => ?_)
  replace H := H.h1 (A := osl kPair v41 (out ++ ((runM dg p x19 (ofL ps x19) fuel).1)))
  refine s_1 rfl (s_nil (q_blockN (q_then (c_reg (s_val rfl rfl (r_add (z := ((i + 1 : Nat) : Int)) rfl rfl rfl (by rw [w64 (by omega) (by omega)]; omega)) (s_1 rfl (s_nil ?_)))))))
  replace H := H.p3.p1.k3
  have hl2 : ((out ++ (runM dg p x19 (ofL ps x19) fuel).1).length : Int) = min ((out.length : Int) + ((((runM dg p x19 (ofL ps x19) fuel).1).length : Nat) : Int)) 1099511627776 := by rw [List.length_append]; omega
  replace H : Hd w0 F0 w [osl kPair v41 (out ++ ((runM dg p x19 (ofL ps x19) fuel).1)), osl kStr (.slice A13 ((keysL ps).length) c14) (keysL ps), blk b11 [.int .i64 ((out ++ (runM dg p x19 (ofL ps x19) fuel).1).length : Int), .int .i64 0, .int .i64 0, .int .i64 0, .int .i64 0, .int .i64 0, .int .i64 0, .int .i64 0] 322] [rsl kIns (.slice A1 p.length c2) p, rsl kPair (.slice A6 ps.length c7) ps, gl] := by rw [hl2]; exact H
  have hg2 := (go_on (out := out) hx20 h25 (fun h => by rw [h.1] at h26; cases h26) (by omega)).trans hgo
  have ho2 : (out ++ (runM dg p x19 (ofL ps x19) fuel).1).length ≤ 40 := by rw [List.length_append]; omega
  exact q_round (s := (i, undef, out)) (i + 1, v41, out ++ (runM dg p x19 (ofL ps x19) fuel).1) ⟨rfl, rfl, rfl, rfl, rfl, rfl, rfl, rfl, rfl, trivial⟩ ⟨H, by (try dsimp only); omega, hg2, ho2⟩ (by (try dsimp only); omega)
 refine c_exit (q_thenE (q_thenE (q_blockE (q_then (c_seq (c_reg (s_k 3 rfl (s_nil (q_then (c_ret (q_ret2 rfl rfl rfl ?_)))))))))))
 replace H := H.k1
 have e : eachM dg p ps fuel own = (out, 0) := hgo.symm.trans (go_end (by omega))
 replace H := H.h1 (A := osl kPair q out)
 exact fin ⟨_, by rw [e] <;> rfl, by rw [e] <;> rfl⟩ H
theorem foldEach_ok (vp : Value) (p : List Ins) (vps : Value) (ps : List Pair) (fuel : Int) (hpa : ∀ i ∈ p, In64 i.a) (hfu : In64 fuel) (hb : ps.length ≤ 1000000) :
    Cn Tryz.prog 137 [vp, vps, .int .i64 fuel] [] [rsl kIns vp p, rsl kPair vps ps, gl] (fun v Bs => ∃ u, v = .tuple #[u, .int .i64 (eachM dg p ps fuel false).2] ∧ Bs = [osl kPair u (eachM dg p ps fuel false).1]) := by
 intro w0 F0 H
 refine enter Tryz.func137 rfl rfl (Nat.le_of_ble_eq_true rfl) (c_seq (c_reg (s_k 2 rfl (s_nil (q_then (c_seq (c_reg (s_k 3 rfl (sc (each_ok vp p vps ps fuel false hpa hfu hb) H (lR 0 rfl (lR 1 rfl (lR 2 rfl l0))) rfl rfl (e_fn kn177 rfl rfl) ?_)))))))))
 rintro _ _ w ⟨u1, rfl, rfl⟩ H
 refine s_k 4 rfl (s_nil (q_then ?_))
 replace H : Hd _ _ _ [osl kPair u1 ((eachM dg p ps fuel false).1)] [rsl kIns vp p, rsl kPair vps ps, gl] := H
 exact c_ret (q_ret2 rfl rfl rfl (fin ⟨_, rfl, rfl⟩ H))
theorem foldCombine_ok (vp : Value) (p : List Ins) (vps : Value) (ps : List Pair) (fuel : Int) (hpa : ∀ i ∈ p, In64 i.a) (hfu : In64 fuel) (hb : ps.length ≤ 1000000) :
    Cn Tryz.prog 125 [vp, vps, .int .i64 fuel] [] [rsl kIns vp p, rsl kPair vps ps, gl] (fun v Bs => ∃ u, v = .tuple #[u, .int .i64 (combM dg p ps fuel).2] ∧ Bs = [osl kPair u (combM dg p ps fuel).1]) := by
 intro w0 F0 H
 obtain ⟨A1, c2, rfl, hc3, hm4, hp5⟩ := H.fR 0 rfl
 obtain ⟨A6, c7, rfl, hc8, hm9, hp10⟩ := H.fR 1 rfl
 refine enter Tryz.func125 rfl rfl (Nat.le_of_ble_eq_true rfl) (c_seq (c_reg (s_k 2 rfl (s_nil (q_then ?_)))))
 replace H : Hd _ _ _ [] [rsl kIns (.slice A1 p.length c2) p, rsl kPair (.slice A6 ps.length c7) ps, gl] := H
 refine c_seq (c_seq (c_reg (s_1 rfl (s_val rfl rfl (r_lenL rfl un23 rfl) (s_val rfl rfl (r_eq rfl rfl rfl) (s_nil (q_then ?_)))))))
 refine c_dec rfl (fun h11 => ?_) (fun h11 => ?_)
 ·refine c_seq (c_reg (s_1 rfl (sc (pairSort_ok (.slice A6 ps.length c7) ps (by first | omega | decide)) H (lR 1 rfl l0) rfl rfl (e_fn kn176 rfl rfl) ?_)))
  rintro v12 _ w rfl H
  replace H := H.h1 (A := osl kPair v12 (srt ps))
  refine s_k 2 rfl (s_nil (q_then (c_ret (q_thenR (q_ret2 rfl rfl rfl ?_)))))
  have e : combM dg p ps fuel = (srt ps, 0) := if_pos (by omega)
  exact fin ⟨_, by rw [e] <;> rfl, by rw [e] <;> rfl⟩ H
 refine c_skip (q_then (c_seq (c_reg (s_k 3 rfl (sc (each_ok (.slice A1 p.length c2) p (.slice A6 ps.length c7) ps fuel true hpa hfu hb) H (lR 0 rfl (lR 1 rfl (lR 2 rfl l0))) rfl rfl (e_fn kn177 rfl rfl) ?_)))))
 rintro _ _ w ⟨u13, rfl, rfl⟩ H
 replace H := H.h1 (A := osl kPair u13 ((eachM dg p ps fuel true).1))
 refine s_k 4 rfl (s_nil (q_then (c_ret (q_ret2 rfl rfl rfl ?_))))
 have e : combM dg p ps fuel = eachM dg p ps fuel true := if_neg (by omega)
 exact fin ⟨_, by rw [e] <;> rfl, by rw [e] <;> rfl⟩ H
theorem greatCode_ok (vxs : Value) (xs : List Ins) :
    Cn Tryz.prog 87 [vxs] [] [rsl kIns vxs xs] (fun v Bs => v = .bool (greatC xs) ∧ Bs = []) := by
 intro w0 F0 H
 obtain ⟨A1, c2, rfl, hc3, hm4, hp5⟩ := H.fR 0 rfl
 refine enter Tryz.func87 rfl rfl (Nat.le_of_ble_eq_true rfl) (c_seq (c_reg (s_1 rfl (s_nil (q_then ?_)))))
 replace H : Hd _ _ _ [] [rsl kIns (.slice A1 xs.length c2) xs] := H
 refine c_seq (c_seq (c_reg (s_1 rfl (s_nil (q_then (c_block (c_loop (σ := Nat) (fun k => [(0, .slice A1 xs.length c2), (3, .int .i64 ((k : Nat) : Int))]) (fun k w => (Hd w0 F0 w [] [rsl kIns (.slice A1 xs.length c2) xs]) ∧ (k ≤ xs.length) ∧ (∀ y ∈ xs.take k, y.s.size ≤ 100)) (fun k => xs.length - k) 0 ⟨rfl, rfl, trivial⟩ ⟨H, by omega, by simp⟩ ?_)))))))
 rintro k w ⟨H, hk, hn⟩
 refine c_seq (c_seq (c_reg (s_k 2 rfl (s_val rfl rfl (r_lenL rfl un23 rfl) (s_val rfl rfl (r_lt rfl rfl rfl) (s_1 rfl ?_))))))
 refine s_dec (d := 8) rfl (fun h6 => ?_) (fun h6 => ?_)
 ·refine s_1 rfl (s_val rfl rfl (r_lenL rfl un23 rfl) (s_val rfl rfl (r_le rfl rfl rfl) (s_1 rfl (s_nil (q_then ?_)))))
  refine c_dec rfl (fun h7 => ?_) (fun h7 => ?_)
  ·refine c_skip (q_then (c_seq (c_block (c_seq (c_reg (s_k 2 rfl ?_))))))
   obtain ⟨x8, hx9⟩ : ∃ z9, xs[k]? = some z9 := ⟨_, List.getElem?_eq_getElem (show k < xs.length by omega)⟩
   have th10 := H.thR 0 rfl hx9
   refine s_val rfl rfl (r_iaE (p := oOf A1 + k * 3) rfl sl23 rfl rfl (by omega) (by omega) th10 rfl) (s_val rfl rfl (r_fa rfl fo223_2 rfl) (s_val rfl rfl (r_ld rfl ty9 rfl (H.elR 0 rfl hx9 (q := 2) rfl rfl)) (s_val rfl rfl (r_lenS rfl un9 rfl) (s_val rfl rfl (r_gt rfl rfl rfl) (s_nil (q_then ?_))))))
   refine c_dec rfl (fun h11 => ?_) (fun h11 => ?_)
   ·exact c_seq (c_reg (s_1 rfl (s_nil (q_then (c_ret (q_blockR (q_thenR (q_thenR (q_blockR (q_thenR (q_ret1 rfl rfl (fin ⟨congrArg Value.bool (great_hit hx9 (by omega)), rfl⟩ H))))))))))))
   exact c_skip (q_blockN (q_then (c_reg (s_1 rfl (s_val rfl rfl (r_add (z := ((k + 1 : Nat) : Int)) rfl rfl rfl (by rw [w64 (by omega) (by omega)]; omega)) (s_1 rfl (s_nil (q_round (s := k) (k + 1) ⟨rfl, rfl, trivial⟩ ⟨H, by (try dsimp only); omega, take_small hn hx9 (by omega)⟩ (by (try dsimp only); omega)))))))))
  exact c_exit (q_thenE (q_thenE (q_blockE (q_then (c_seq (c_reg (s_1 rfl (s_val rfl rfl (r_lenL rfl un23 rfl) (s_val rfl rfl (r_gt rfl rfl rfl) (s_1 rfl (s_nil (q_then (c_ret (q_ret1 rfl rfl (fin ⟨congrArg Value.bool (great_end hn (by omega)), rfl⟩ H)))))))))))))))
 exact s_k 4 rfl (s_nil (q_then (c_no rfl (c_exit (q_thenE (q_thenE (q_blockE (q_then (c_seq (c_reg (s_1 rfl (s_val rfl rfl (r_lenL rfl un23 rfl) (s_val rfl rfl (r_gt rfl rfl rfl) (s_1 rfl (s_nil (q_then (c_ret (q_ret1 rfl rfl (fin ⟨congrArg Value.bool (great_end hn (by omega)), rfl⟩ H)))))))))))))))))))
/-! ### What is told is small -/
def TS (r : VM × Int) : Prop := ∀ q ∈ r.1.told, mayP q
theorem ite_s {c : Prop} [Decidable c] {x y : VM × Int} (hx : TS x) (hy : TS y) : TS (if c then x else y) := by
 split
 ·exact hx
 ·exact hy
theorem emit_small {told : List Pair} {k v : ByteArray} (h : ∀ q ∈ told, mayP q) (hv : v.size ≤ 64) : ∀ q ∈ (emitM told k v).2, mayP q := by
 unfold emitM
 split
 ·exact h
 ·split
  ·exact h
  ·intro q hq
   rcases List.mem_append.1 hq with h1 | h1
   ·exact h q h1
   ·rw [List.mem_singleton.1 h1]
    exact ⟨by (try dsimp only); omega, hv⟩
theorem act_small {D : Dig} {key : ByteArray} {m : VM} {i : Ins} {v : List Val} (h : ∀ q ∈ m.told, mayP q) (hv : (v.getD 1 val0).b.size ≤ 64) : TS (actM D key m i v) := by
 have hn : TS (nextM m) := by unfold TS; rw [nextM_told]; exact h
 have h20 : TS (if (v.getD 0 val0).n ≠ 0 then {m with pos := i.a} else m, 0) := by
  unfold TS
  dsimp only
  split <;> exact h
 exact ite_s h (ite_s h (ite_s h (ite_s h (ite_s h (ite_s h (ite_s hn (ite_s h (ite_s h (ite_s h (ite_s h (ite_s h (ite_s h (ite_s h (ite_s h (ite_s h (ite_s h20 (ite_s h (ite_s h (ite_s (emit_small h hv) h)))))))))))))))))))
theorem does_small {D : Dig} {key : ByteArray} {n : Int} {m : VM} {i : Ins} (hm : Inv n m) (h : ∀ q ∈ m.told, mayP q) : TS (doesM D key m i) := by
 by_cases hN : (needsM i.op m.stk).1 ≠ 0
 ·rw [does_fail hN]; exact h
 ·rw [does_act hN]
  obtain ⟨l1, l2, l3, l4⟩ := needs_len (Classical.not_not.1 hN)
  exact act_small h (ok_getD (fun x hx => hm.ok.1 x (l3 x hx)) 1).2
theorem badI_good {p : List Ins} (h : badI p < 0) : p.length ≤ 40 ∧ ∀ i ∈ p, goodI i p.length := by
 have hl : p.length ≤ 40 := by
  apply Classical.byContradiction
  intro hn
  unfold badI at h
  split at h
  ·omega
  ·rw [if_pos (by omega)] at h; omega
 exact ⟨hl, (badI_neg hl).1 h⟩
theorem play_small {D : Dig} (hD : ∀ s : ByteArray, In64 (D.num s)) {p : List Ins} {key : ByteArray} (hp : badI p < 0) (ha : ∀ i ∈ p, In64 i.a) : ∀ (k : Nat) {m : VM}, Inv p.length m → (∀ q ∈ m.told, mayP q) → TS (playM D p key k m)
 | 0, m, hm, h => by
  unfold playM
  split <;> exact h
 | k + 1, m, hm, h => by
  by_cases hc : m.pos < p.length ∧ m.halted = false
  ·obtain ⟨i, hi⟩ : ∃ i, p[m.pos.toNat]? = some i := ⟨_, List.getElem?_eq_getElem (by have := hm.pos; omega)⟩
   have him := at_mem hi
   have hm1 : Inv p.length {m with pos := m.pos + 1} := ⟨hm.ok, hm.len, hm.told, (by have h9 := hm.pos; constructor <;> (try dsimp only) <;> omega)⟩
   by_cases hw : (doesM D key {m with pos := m.pos + 1} i).2 ≠ 0
   ·rw [play_fail hc hi hw]
    exact does_small hm1 h
   ·rw [play_go hc hi hw]
    exact play_small hD hp ha k (inv_does hD hm1 ((badI_good hp).2 i him) (ha i him) (Classical.not_not.1 hw)) (does_small hm1 h)
  ·rw [play_stop _ hc]; exact h
theorem inv_start (n : Int) (hn : 0 ≤ n) (vals : List ByteArray) : Inv n (vm0 vals) := ⟨⟨(fun v hv => by cases hv), fun _ => okv0⟩, Nat.zero_le _, Nat.zero_le _, ⟨Int.le_refl 0, hn⟩⟩
theorem run_small {D : Dig} (hD : ∀ s : ByteArray, In64 (D.num s)) {p : List Ins} (ha : ∀ i ∈ p, In64 i.a) (key : ByteArray) (vals : List ByteArray) (fuel : Int) : ∀ q ∈ (runM D p key vals fuel).1, mayP q := by
 unfold runM
 split
 ·intro q hq; cases hq
 ·rename_i hn
  split
  ·intro q hq; cases hq
  ·exact play_small hD (by omega) ha _ (inv_start _ (by omega) _) (fun q hq => by cases hq)
theorem srt_small {xs : List Pair} (h : ∀ q ∈ xs, mayP q) : ∀ q ∈ srt xs, mayP q := fun q hq => h q ((srt_stab xs).symm.mem hq)
theorem eachGo_small {D : Dig} (hD : ∀ s : ByteArray, In64 (D.num s)) {p : List Ins} (ha : ∀ i ∈ p, In64 i.a) {ps : List Pair} {fuel : Int} {own : Bool} : ∀ (ks : List ByteArray) (out : List Pair), (∀ q ∈ out, mayP q) → ∀ q ∈ (eachGo D p ps fuel own ks out).1, mayP q
 | [], out, h => h
 | k :: ks, out, h => by
  unfold eachGo
  split
  ·intro q hq; cases hq
  ·split
   ·intro q hq; cases hq
   ·split
    ·intro q hq; cases hq
    ·refine eachGo_small hD ha ks _ fun q hq => ?_
     rcases List.mem_append.1 hq with h1 | h1
     ·exact h q h1
     ·exact run_small hD ha _ _ _ q h1
/-! ### In order -/
theorem comb_small {D : Dig} (hD : ∀ s : ByteArray, In64 (D.num s)) {p : List Ins} (ha : ∀ i ∈ p, In64 i.a) {ps : List Pair} {fuel : Int} (h : ∀ q ∈ ps, mayP q) : ∀ q ∈ (combM D p ps fuel).1, mayP q := by
 unfold combM
 split
 ·exact srt_small h
 ·exact eachGo_small hD ha _ _ fun q hq => by cases hq
theorem comb_len (D : Dig) (p : List Ins) (ps : List Pair) (fuel : Int) (h : ps.length ≤ 40) : (combM D p ps fuel).1.length ≤ 40 := by
 unfold combM
 split
 ·show (srt ps).length ≤ 40
  rw [srt_len]; exact h
 ·exact each_len D p ps fuel true _ _ (Nat.zero_le _)
/-! ### Jobs -/
structure Job where
 us : List (Value × List Pair)
 parts : Int
 map : List Ins
 comb : List Ins
 red : List Ins
 chunk : Int
 window : Int
 fuel : Int
 marks : List Int
def okSplit (x : List Pair) : Prop := x.length ≤ 8 ∧ mayL x
instance (x : List Pair) : Decidable (okSplit x) := inferInstanceAs (Decidable (_ ∧ _))
def marksUp (n : Int) : Int → List Int → Prop
 | _, [] => True
 | l, m :: ms => (l + 1 ≤ m ∧ m ≤ n) ∧ marksUp n m ms
instance marksUpD (n : Int) : ∀ (l : Int) (ms : List Int), Decidable (marksUp n l ms)
 | _, [] => isTrue trivial
 | _, m :: ms => haveI := marksUpD n m ms; inferInstanceAs (Decidable (_ ∧ _))
def mayJ (J : Job) : Prop :=
 (1 ≤ (J.us.length : Int) ∧ (J.us.length : Int) ≤ 6) ∧ (1 ≤ J.parts ∧ J.parts ≤ 4) ∧ J.marks.length ≤ 4 ∧ (∀ u ∈ J.us, okSplit u.2) ∧ marksUp J.us.length 0 J.marks ∧
 (0 < J.map.length ∧ badI J.map < 0) ∧ (0 < J.red.length ∧ badI J.red < 0) ∧ badI J.comb < 0 ∧ (1 ≤ J.chunk ∧ J.chunk ≤ 7) ∧ (1 ≤ J.window ∧ J.window ≤ 4) ∧ 1 ≤ J.fuel ∧ J.fuel ≤ 2000
instance mayJD (J : Job) : Decidable (mayJ J) := by unfold mayJ; infer_instance
structure OkJ (J : Job) : Prop where
 may : mayJ J
 map : ∀ i ∈ J.map, In64 i.a
 comb : ∀ i ∈ J.comb, In64 i.a
 red : ∀ i ∈ J.red, In64 i.a
theorem OkJ.us {J : Job} (h : OkJ J) : 1 ≤ J.us.length ∧ J.us.length ≤ 6 := by have := h.may.1; omega
theorem OkJ.parts {J : Job} (h : OkJ J) : 1 ≤ J.parts ∧ J.parts ≤ 4 := h.may.2.1
theorem OkJ.fuel {J : Job} (h : OkJ J) : 1 ≤ J.fuel ∧ J.fuel ≤ 2000 := h.may.2.2.2.2.2.2.2.2.2.2
theorem OkJ.split {J : Job} (h : OkJ J) : ∀ u ∈ J.us, okSplit u.2 := h.may.2.2.2.1
theorem OkJ.f64 {J : Job} (h : OkJ J) : In64 J.fuel := by have := h.fuel; unfold In64; omega
def mapGo (D : Dig) (p : List Ins) (fuel : Int) : List Pair → List Pair → List Pair × Int
 | [], out => (out, 0)
 | r :: rs, out =>
  if (runM D p r.key [r.val] fuel).2 ≠ 0 then ([], (runM D p r.key [r.val] fuel).2)
  else if 40 < out.length + (runM D p r.key [r.val] fuel).1.length then ([], 5)
  else mapGo D p fuel rs (out ++ (runM D p r.key [r.val] fuel).1)
section
variable {D : Dig} {p : List Ins} {fuel : Int} {rs : List Pair} {r : Pair} {out : List Pair} {i : Nat}
theorem map_end (h : rs.length ≤ i) : mapGo D p fuel (rs.drop i) out = (out, 0) := by
 rw [List.drop_eq_nil_of_le h]; rfl
theorem map_why (hr : rs[i]? = some r) (h : (runM D p r.key [r.val] fuel).2 ≠ 0) : mapGo D p fuel (rs.drop i) out = ([], (runM D p r.key [r.val] fuel).2) := by
 rw [drop_at hr]; exact if_pos h
theorem map_many (hr : rs[i]? = some r) (h : ¬ (runM D p r.key [r.val] fuel).2 ≠ 0) (h3 : 40 < out.length + (runM D p r.key [r.val] fuel).1.length) : mapGo D p fuel (rs.drop i) out = ([], 5) := by
 rw [drop_at hr]; unfold mapGo; rw [if_neg h, if_pos h3]
theorem map_on (hr : rs[i]? = some r) (h : ¬ (runM D p r.key [r.val] fuel).2 ≠ 0) (h3 : ¬ 40 < out.length + (runM D p r.key [r.val] fuel).1.length) :
  mapGo D p fuel (rs.drop (i + 1)) (out ++ (runM D p r.key [r.val] fuel).1) = mapGo D p fuel (rs.drop i) out := by
 rw [drop_at hr]; conv => rhs; unfold mapGo
 rw [if_neg h, if_neg h3]
theorem map_small (hD : ∀ s : ByteArray, In64 (D.num s)) (ha : ∀ i ∈ p, In64 i.a) : ∀ (rs out : List Pair), (∀ q ∈ out, mayP q) → ∀ q ∈ (mapGo D p fuel rs out).1, mayP q
 | [], out, h => h
 | r :: rs, out, h => by
  unfold mapGo
  split
  ·intro q hq; cases hq
  ·split
   ·intro q hq; cases hq
   ·refine map_small hD ha rs _ fun q hq => ?_
    rcases List.mem_append.1 hq with h1 | h1
    ·exact h q h1
    ·exact run_small hD ha _ _ _ q h1
theorem map_len : ∀ (rs out : List Pair), out.length ≤ 40 → (mapGo D p fuel rs out).1.length ≤ 40
 | [], out, h => h
 | r :: rs, out, h => by
  unfold mapGo
  split
  ·exact Nat.zero_le _
  ·split
   ·exact Nat.zero_le _
   ·exact map_len rs _ (by simp only [List.length_append]; omega)
end
def recs (J : Job) (s : Nat) : List Pair := match J.us[s]? with
 | some u => u.2
 | none => []
theorem recs_at {J : Job} {s : Nat} {u : Value × List Pair} (h : J.us[s]? = some u) : recs J s = u.2 := by unfold recs; rw [h]
def mapM (D : Dig) (J : Job) (s : Nat) : List Pair × Int := mapGo D J.map J.fuel (recs J s) []
def splitM (D : Dig) (J : Job) (s : Nat) : List Pair × Int := if (mapM D J s).2 ≠ 0 then ([], (mapM D J s).2) else combM D J.comb (mapM D J s).1 J.fuel
theorem mapM_len (D : Dig) (J : Job) (s : Nat) : (mapM D J s).1.length ≤ 40 := map_len _ _ (Nat.zero_le _)
theorem split_len (D : Dig) (J : Job) (s : Nat) : (splitM D J s).1.length ≤ 40 := by
 unfold splitM
 split
 ·exact Nat.zero_le _
 ·exact comb_len _ _ _ _ (mapM_len _ _ _)
theorem split_small {D : Dig} (hD : ∀ s : ByteArray, In64 (D.num s)) {J : Job} (h : OkJ J) (s : Nat) : ∀ q ∈ (splitM D J s).1, mayP q := by
 unfold splitM
 split
 ·intro q hq; cases hq
 ·exact comb_small hD h.comb (map_small hD h.map _ _ fun q hq => by cases hq)
def onlyM (D : Dig) (J : Job) (s : Nat) (p : Int) : List Pair := onlyP (splitM D J s).1 J.parts p
def allOf (D : Dig) (J : Job) (p : Int) : Nat → List Pair
 | 0 => []
 | k + 1 => allOf D J p k ++ onlyM D J k p
theorem onlyM_len (D : Dig) (J : Job) (s : Nat) (p : Int) : (onlyM D J s p).length ≤ 40 := Nat.le_trans (only_len _ _ _) (split_len _ _ _)
theorem allOf_len (D : Dig) (J : Job) (p : Int) : ∀ k, (allOf D J p k).length ≤ 40 * k
 | 0 => Nat.zero_le _
 | k + 1 => by
  have := allOf_len D J p k
  have := onlyM_len D J k p
  unfold allOf
  rw [List.length_append]
  omega
def partM (D : Dig) (J : Job) (p : Int) : List Pair × Int := eachM D J.red (srt (allOf D J p J.us.length)) J.fuel false
def partsGo (D : Dig) (J : Job) : Nat → Nat → List (List Pair) → List (List Pair) × Int × Int
 | 0, _, out => (out, 0, 0)
 | k + 1, p, out => if (partM D J p).2 ≠ 0 then ([], (partM D J p).2, p) else partsGo D J k (p + 1) (out ++ [(partM D J p).1])
def wholeGo (D : Dig) (J : Job) : Nat → Nat → List (List Pair) × Int × Int
 | 0, _ => partsGo D J J.parts.toNat 0 []
 | k + 1, s => if (splitM D J s).2 ≠ 0 then ([], (splitM D J s).2, s) else wholeGo D J k (s + 1)
def wholeM (D : Dig) (J : Job) : List (List Pair) × Int × Int := wholeGo D J J.us.length 0
section
variable {D : Dig} {J : Job} {s p : Nat} {out : List (List Pair)}
theorem whole_bad (hs : s < J.us.length) (h : (splitM D J s).2 ≠ 0) : wholeGo D J (J.us.length - s) s = ([], (splitM D J s).2, (s : Int)) := by
 rw [show J.us.length - s = (J.us.length - (s + 1)) + 1 by omega]; exact if_pos h
theorem whole_on (hs : s < J.us.length) (h : ¬ (splitM D J s).2 ≠ 0) : wholeGo D J (J.us.length - (s + 1)) (s + 1) = wholeGo D J (J.us.length - s) s := by
 conv => rhs; rw [show J.us.length - s = (J.us.length - (s + 1)) + 1 by omega]; unfold wholeGo; rw [if_neg h]
theorem whole_end (hs : J.us.length ≤ s) : wholeGo D J (J.us.length - s) s = partsGo D J J.parts.toNat 0 [] := by
 rw [show J.us.length - s = 0 by omega]; rfl
theorem parts_bad2 (hp : p < J.parts.toNat) (h : (partM D J p).2 ≠ 0) : partsGo D J (J.parts.toNat - p) p out = ([], (partM D J p).2, (p : Int)) := by
 rw [show J.parts.toNat - p = (J.parts.toNat - (p + 1)) + 1 by omega]; exact if_pos h
theorem parts_on (hp : p < J.parts.toNat) (h : ¬ (partM D J p).2 ≠ 0) : partsGo D J (J.parts.toNat - (p + 1)) (p + 1) (out ++ [(partM D J p).1]) = partsGo D J (J.parts.toNat - p) p out := by
 conv => rhs; rw [show J.parts.toNat - p = (J.parts.toNat - (p + 1)) + 1 by omega]; unfold partsGo; rw [if_neg h]
theorem parts_end (hp : J.parts.toNat ≤ p) : partsGo D J (J.parts.toNat - p) p out = (out, 0, 0) := by
 rw [show J.parts.toNat - p = 0 by omega]; rfl
end
theorem partsGo_spec (D : Dig) (J : Job) : ∀ (k p : Nat) (out : List (List Pair)), ((partsGo D J k p out).2.1 ≠ 0 ∧ (partsGo D J k p out).1 = []) ∨
  ((partsGo D J k p out).2 = (0, 0) ∧ (partsGo D J k p out).1 = out ++ (List.range' p k).map (fun q : Nat => (partM D J q).1) ∧ ∀ q, p ≤ q → q < p + k → (partM D J q).2 = 0)
 | 0, p, out => .inr ⟨rfl, (List.append_nil _).symm, fun q h1 h2 => by omega⟩
 | k + 1, p, out => by
  unfold partsGo
  by_cases h : (partM D J p).2 ≠ 0
  ·rw [if_pos h]; exact .inl ⟨h, rfl⟩
  ·rw [if_neg h]
   rcases partsGo_spec D J k (p + 1) (out ++ [(partM D J p).1]) with h1 | ⟨h1, h2, h3⟩
   ·exact .inl h1
   ·refine .inr ⟨h1, ?_, fun q hq1 hq2 => ?_⟩
    ·rw [h2, List.range'_succ, List.map_cons, List.append_assoc]; rfl
    ·rcases Nat.lt_or_ge p q with hlt | hge
     ·exact h3 q hlt (by omega)
     ·have : q = p := by omega
      subst this; exact Classical.not_not.1 h
theorem wholeGo_spec (D : Dig) (J : Job) : ∀ (k s : Nat), ((wholeGo D J k s).2.1 ≠ 0 ∧ (wholeGo D J k s).1 = []) ∨
  ((wholeGo D J k s).2 = (0, 0) ∧ (wholeGo D J k s).1 = (List.range J.parts.toNat).map (fun q : Nat => (partM D J q).1) ∧ (∀ q, s ≤ q → q < s + k → (splitM D J q).2 = 0) ∧ ∀ q, q < J.parts.toNat → (partM D J (q : Nat)).2 = 0)
 | 0, s => by
  show (((partsGo D J J.parts.toNat 0 []).2.1 ≠ 0 ∧ _) ∨ _)
  rcases partsGo_spec D J J.parts.toNat 0 [] with h1 | ⟨h1, h2, h3⟩
  ·exact .inl h1
  ·exact .inr ⟨h1, by rw [List.range_eq_range']; exact h2, fun q h1 h2 => by omega, fun q hq => h3 q (Nat.zero_le _) (by omega)⟩
 | k + 1, s => by
  unfold wholeGo
  by_cases h : (splitM D J s).2 ≠ 0
  ·rw [if_pos h]; exact .inl ⟨h, rfl⟩
  ·rw [if_neg h]
   rcases wholeGo_spec D J k (s + 1) with h1 | ⟨h1, h2, h3, h4⟩
   ·exact .inl h1
   ·refine .inr ⟨h1, h2, fun q hq1 hq2 => ?_, h4⟩
    rcases Nat.lt_or_ge s q with hlt | hge
    ·exact h3 q hlt (by omega)
    ·have : q = s := by omega
     subst this; exact Classical.not_not.1 h
theorem whole_spec (D : Dig) (J : Job) : ((wholeM D J).2.1 ≠ 0 ∧ (wholeM D J).1 = []) ∨
  ((wholeM D J).2 = (0, 0) ∧ (wholeM D J).1 = (List.range J.parts.toNat).map (fun q : Nat => (partM D J q).1) ∧ (∀ q, q < J.us.length → (splitM D J q).2 = 0) ∧ ∀ q, q < J.parts.toNat → (partM D J (q : Nat)).2 = 0) := by
 rcases wholeGo_spec D J J.us.length 0 with h | ⟨h1, h2, h3, h4⟩
 ·exact .inl h
 ·exact .inr ⟨h1, h2, fun q hq => h3 q (Nat.zero_le _) (by omega), h4⟩
def runJ (D : Dig) (J : Job) (s : Nat) (p : Int) : List Pair × Int := if (splitM D J s).2 ≠ 0 then ([], (splitM D J s).2) else (onlyM D J s p, 0)
def upto (n : Nat) : List Int := (List.range n).map fun (i : Nat) => (i : Int)
theorem upto_succ (n : Nat) : upto (n + 1) = upto n ++ [(n : Int)] := by
 unfold upto; rw [List.range_succ, List.map_append]; rfl
theorem upto_len (n : Nat) : (upto n).length = n := by simp [upto]
theorem upto_mem {n k : Nat} (h : k < n) : (k : Int) ∈ upto n := List.mem_map.2 ⟨k, List.mem_range.2 h, rfl⟩
theorem flat2_snoc (zs : List (Value × List Pair)) (v : Value) (x : List Pair) : flat2 (zs ++ [(v, x)]) = flat2 zs ++ x := by
 unfold flat2; rw [List.flatMap_append]; simp
theorem whole_none {D : Dig} {J : Job} {zs : List (Value × List Pair)} (hz : zs.map (·.2) = (wholeM D J).1) (h : (wholeM D J).2.1 ≠ 0) : zs.length = 0 := by
 rcases whole_spec D J with ⟨_, h2⟩ | ⟨h1, _⟩
 ·rw [h2] at hz; have := congrArg List.length hz; simpa using this
 ·rw [h1] at h; exact absurd rfl h
def greatJ (J : Job) : Bool := decide (¬ (J.us.length ≤ 8 ∧ ∀ u ∈ J.us, greatP u.2 10 = false)) || decide (10 < (J.marks.length : Int)) || greatC J.map || greatC J.comb || greatC J.red
theorem greatJ_hit {J : Job} {k : Nat} {A : Value} {x : List Pair} (hx : J.us[k]? = some (A, x)) (h : greatP x 10 = true) : true = greatJ J := by
 unfold greatJ
 rw [decide_eq_true (show ¬ (J.us.length ≤ 8 ∧ ∀ u ∈ J.us, greatP u.2 10 = false) from fun g => by have := g.2 _ (at_mem hx); rw [h] at this; cases this)]
 simp
theorem greatJ_of {J : Job} (h : 8 < J.us.length ∨ 10 < J.marks.length ∨ greatC J.map = true ∨ greatC J.comb = true) : true = greatJ J := by
 unfold greatJ
 rcases h with h | h | h | h
 ·rw [decide_eq_true (show ¬ (J.us.length ≤ 8 ∧ ∀ u ∈ J.us, greatP u.2 10 = false) from fun g => by omega)]; simp
 ·rw [decide_eq_true (show 10 < (J.marks.length : Int) by omega)]; simp
 ·rw [h]; simp
 ·rw [h]; simp
theorem greatJ_fin {J : Job} {k : Nat} (hn : ∀ u ∈ J.us.take k, greatP u.2 10 = false) (h1 : J.us.length ≤ k) (h2 : J.us.length ≤ 8) (h3 : J.marks.length ≤ 10) (h4 : greatC J.map = false) (h5 : greatC J.comb = false) : greatC J.red = greatJ J := by
 unfold greatJ
 rw [List.take_of_length_le h1] at hn
 rw [decide_eq_false (show ¬ ¬ (J.us.length ≤ 8 ∧ ∀ u ∈ J.us, greatP u.2 10 = false) from fun g => g ⟨h2, hn⟩), decide_eq_false (show ¬ 10 < (J.marks.length : Int) by omega), h4, h5]
 simp
theorem within_ok (n : Int) (l : Int) (m : Int) :
    Cn Tryz.prog 89 [.int .i64 n, .int .i64 l, .int .i64 m] [] [] (fun v Bs => v = .bool (decide (l ≤ n ∧ n ≤ m)) ∧ Bs = []) := by
 intro w0 F0 H
 refine enter Tryz.func89 rfl rfl (Nat.le_of_ble_eq_true rfl) (c_seq (c_reg (s_1 rfl (s_nil (q_then (c_seq (c_reg (s_k 2 rfl (s_val rfl rfl (r_ge rfl rfl rfl) (s_1 rfl ?_))))))))))
 refine s_dec (d := 10) rfl (fun h1 => ?_) (fun h1 => ?_)
 ·exact s_k 2 rfl (s_val rfl rfl (r_le rfl rfl rfl) (s_k 2 rfl (s_nil (q_then (c_ret (q_ret1 rfl rfl (fin ⟨congrArg Value.bool (decide_eq_decide.2 (by omega)), rfl⟩ H)))))))
 exact s_k 5 rfl (s_nil (q_then (c_ret (q_ret1 rfl rfl (fin ⟨congrArg Value.bool ((decide_eq_false (by omega)).symm), rfl⟩ H)))))
theorem jruns_ok (vxs : Value) (xs : List Ins) :
    Cn Tryz.prog 153 [vxs] [] [rsl kIns vxs xs] (fun v Bs => v = .bool (decide (0 < (xs).length ∧ badI xs < 0)) ∧ Bs = []) := by
 intro w0 F0 H
 obtain ⟨A1, c2, rfl, hc3, hm4, hp5⟩ := H.fR 0 rfl
 refine enter Tryz.func153 rfl rfl (Nat.le_of_ble_eq_true rfl) (c_seq (c_reg (s_1 rfl (s_nil (q_then ?_)))))
 replace H : Hd _ _ _ [] [rsl kIns (.slice A1 xs.length c2) xs] := H
 refine c_seq (c_reg (s_1 rfl (s_val rfl rfl (r_lenL rfl un23 rfl) (s_val rfl rfl (r_gt rfl rfl rfl) (s_1 rfl ?_)))))
 refine s_dec (d := 6) rfl (fun h6 => ?_) (fun h6 => ?_)
 ·refine s_1 rfl (sc (pMay_ok (.slice A1 xs.length c2) xs) H (lR 0 rfl l0) rfl rfl (e_fn kn154 rfl rfl) ?_)
  rintro _ _ w ⟨rfl, rfl⟩ H
  exact s_k 2 rfl (s_nil (q_then (c_ret (q_ret1 rfl rfl (fin ⟨congrArg Value.bool (decide_eq_decide.2 (by omega)), rfl⟩ H)))))
 exact s_k 4 rfl (s_nil (q_then (c_ret (q_ret1 rfl rfl (fin ⟨congrArg Value.bool ((decide_eq_false (by omega)).symm), rfl⟩ H)))))
theorem jmay_ok (vS vM vC vR vK : Value) (J : Job) :
    Cn Tryz.prog 88 [.agg #[vS, .int .i64 J.parts, vM, vC, vR, .int .i64 J.chunk, .int .i64 J.window, .int .i64 J.fuel, vK]] [] [rsl (kHd kPair) vS J.us, rsl kIns vM J.map, rsl kIns vC J.comb, rsl kIns vR J.red, rsl (kInt .i64) vK J.marks] (fun v Bs => v = .bool (decide (mayJ J)) ∧ Bs = []) := by
 intro w0 F0 H
 obtain ⟨A1, c2, rfl, hc3, hm4, hp5⟩ := H.fR 0 rfl
 obtain ⟨A6, c7, rfl, hc8, hm9, hp10⟩ := H.fR 1 rfl
 obtain ⟨A11, c12, rfl, hc13, hm14, hp15⟩ := H.fR 2 rfl
 obtain ⟨A16, c17, rfl, hc18, hm19, hp20⟩ := H.fR 3 rfl
 obtain ⟨A21, c22, rfl, hc23, hm24, hp25⟩ := H.fR 4 rfl
 refine enter Tryz.func88 rfl rfl (Nat.le_of_ble_eq_true rfl) (c_seq (c_reg (s_box rfl rfl rfl rfl H (fun b26 w H => (s_1 rfl (s_nil (q_then ?_)))))))
 replace H : Hd _ _ _ [blk b26 [.slice A1 J.us.length c2, .int .i64 J.parts, .slice A6 J.map.length c7, .slice A11 J.comb.length c12, .slice A16 J.red.length c17, .int .i64 J.chunk, .int .i64 J.window, .int .i64 J.fuel, .slice A21 J.marks.length c22] 26] [rsl (kHd kPair) (.slice A1 J.us.length c2) J.us, rsl kIns (.slice A6 J.map.length c7) J.map, rsl kIns (.slice A11 J.comb.length c12) J.comb, rsl kIns (.slice A16 J.red.length c17) J.red, rsl (kInt .i64) (.slice A21 J.marks.length c22) J.marks] := H
 refine c_seq (c_seq (c_reg (s_val rfl rfl (r_fa rfl fo26_0 rfl) (s_val rfl rfl (r_ld rfl ty22 rfl (H.cellI 0 rfl rfl)) (s_val rfl rfl (r_lenL rfl un22 rfl) (sc (within_ok ((J.us.length : Nat) : Int) 1 6) H l0 rfl rfl (e_fn kn89 rfl rfl) ?_))))))
 rintro _ _ w ⟨rfl, rfl⟩ H
 refine s_val rfl rfl (r_notP rfl rfl) (s_1 rfl ?_)
 refine s_dec (d := 13) rfl (fun h27 => ?_) (fun h27 => ?_)
 ·refine s_k 11 rfl (s_nil (q_then (c_yes rfl (c_seq (c_reg (s_1 rfl (s_nil (q_then (c_ret (q_thenR (q_ret1 rfl rfl ?_)))))))))))
  replace H := H.nil
  have e : ¬ mayJ J := by
    rintro ⟨g1, g2, g3, g4, g5, g6, g7, g8, g9, g10, g11⟩
    omega
  exact fin ⟨congrArg Value.bool (decide_eq_false e).symm, rfl⟩ H
 refine s_val rfl rfl (r_fa rfl fo26_1 rfl) (s_val rfl rfl (r_ld rfl ty3 rfl (H.cellI 0 rfl rfl)) (sc (within_ok J.parts 1 4) H l0 rfl rfl (e_fn kn89 rfl rfl) ?_))
 rintro _ _ w ⟨rfl, rfl⟩ H
 refine s_val rfl rfl (r_notP rfl rfl) (s_k 2 rfl ?_)
 refine s_dec (d := 19) rfl (fun h28 => ?_) (fun h28 => ?_)
 ·refine s_k 5 rfl (s_nil (q_then (c_yes rfl (c_seq (c_reg (s_1 rfl (s_nil (q_then (c_ret (q_thenR (q_ret1 rfl rfl ?_)))))))))))
  replace H := H.nil
  have e : ¬ mayJ J := by
    rintro ⟨g1, g2, g3, g4, g5, g6, g7, g8, g9, g10, g11⟩
    omega
  exact fin ⟨congrArg Value.bool (decide_eq_false e).symm, rfl⟩ H
 refine s_val rfl rfl (r_fa rfl fo26_8 rfl) (s_val rfl rfl (r_ld rfl ty24 rfl (H.cellI 0 rfl rfl)) (s_val rfl rfl (r_lenL rfl un24 rfl) (s_val rfl rfl (r_gt rfl rfl rfl) (s_1 rfl (s_nil (q_then ?_))))))
 refine c_dec rfl (fun h29 => ?_) (fun h29 => ?_)
 ·refine c_seq (c_reg (s_1 rfl (s_nil (q_then (c_ret (q_thenR (q_ret1 rfl rfl ?_)))))))
  replace H := H.nil
  have e : ¬ mayJ J := by
    rintro ⟨g1, g2, g3, g4, g5, g6, g7, g8, g9, g10, g11⟩
    omega
  exact fin ⟨congrArg Value.bool (decide_eq_false e).symm, rfl⟩ H
 refine c_skip (q_then (c_seq (c_seq (c_reg (s_val rfl rfl (r_fa rfl fo26_0 rfl) (s_val rfl rfl (r_ld rfl ty22 rfl (H.cellI 0 rfl rfl)) (s_val rfl rfl (r_lenL rfl un22 rfl) (s_1 rfl (s_nil (q_then (c_block (c_loop (σ := Nat) (fun k => [(1, .pointer (some ⟨b26, 0, none⟩)), (26, .slice A1 J.us.length c2), (27, .int .i64 ((J.us.length : Nat) : Int)), (28, .int .i64 ((k : Nat) : Int))]) (fun k w => (Hd w0 F0 w [blk b26 [.slice A1 J.us.length c2, .int .i64 J.parts, .slice A6 J.map.length c7, .slice A11 J.comb.length c12, .slice A16 J.red.length c17, .int .i64 J.chunk, .int .i64 J.window, .int .i64 J.fuel, .slice A21 J.marks.length c22] 26] [rsl (kHd kPair) (.slice A1 J.us.length c2) J.us, rsl kIns (.slice A6 J.map.length c7) J.map, rsl kIns (.slice A11 J.comb.length c12) J.comb, rsl kIns (.slice A16 J.red.length c17) J.red, rsl (kInt .i64) (.slice A21 J.marks.length c22) J.marks]) ∧ (k ≤ J.us.length) ∧ (∀ u ∈ J.us.take k, okSplit u.2)) (fun k => J.us.length - k) 0 ⟨rfl, rfl, rfl, rfl, trivial⟩ ⟨H, by omega, by simp⟩ ?_))))))))))))
 rintro k w ⟨H, hk, hn⟩
 refine c_seq (c_reg (s_val rfl rfl (r_lt rfl rfl rfl) (s_nil (q_then (c_seq ?_)))))
 refine c_dec rfl (fun h30 => ?_) (fun h30 => ?_)
 ·refine c_skip (q_then (c_seq (c_block (c_seq (c_reg ?_)))))
  obtain ⟨⟨u33, x31⟩, hx32⟩ : ∃ z9, J.us[k]? = some z9 := ⟨_, List.getElem?_eq_getElem (show k < J.us.length by omega)⟩
  obtain ⟨A34, c35, rfl, hc36, hm37⟩ := H.nestR 0 rfl hx32
  have th38 := H.thRd 0 rfl hx32
  refine s_val rfl rfl (r_iaE (p := oOf A1 + k * 1) rfl sl22 rfl rfl (by omega) (by omega) th38 rfl) (s_val rfl rfl (r_ld rfl ty35 rfl (H.elRd 0 rfl hx32 rfl)) (s_1 rfl (s_nil (q_then (c_seq (c_reg (s_1 rfl (s_val rfl rfl (r_lenL rfl un35 rfl) (s_val rfl rfl (r_gt rfl rfl rfl) (s_1 rfl ?_))))))))))
  refine s_dec (d := 35) rfl (fun h39 => ?_) (fun h39 => ?_)
  ·refine s_k 4 rfl (s_nil (q_then (c_yes rfl (c_seq (c_reg (s_1 rfl (s_nil (q_then (c_ret (q_blockR (q_thenR (q_thenR (q_blockR (q_thenR (q_ret1 rfl rfl ?_)))))))))))))))
   replace H := H.nil
   have e : ¬ mayJ J := by
     rintro ⟨g1, g2, g3, g4, g5, g6, g7, g8, g9, g10, g11⟩
     have g := g4 _ (at_mem hx32); have ga : x31.length ≤ 8 := g.1; first | exact (h39 g.2).elim | omega
   exact fin ⟨congrArg Value.bool (decide_eq_false e).symm, rfl⟩ H
  refine s_1 rfl (sc (pMayL_ok (.slice A34 x31.length c35) x31) H (lX (fun F hA hR => nest_rsl (hR _ (List.mem_of_getElem? (i := 0) rfl)) hx32) l0) rfl rfl (e_fn kn120 rfl rfl) ?_)
  rintro _ _ w ⟨rfl, rfl⟩ H
  refine s_val rfl rfl (r_notP rfl rfl) (s_1 rfl (s_nil (q_then ?_)))
  refine c_dec rfl (fun h40 => ?_) (fun h40 => ?_)
  ·refine c_seq (c_reg (s_1 rfl (s_nil (q_then (c_ret (q_blockR (q_thenR (q_thenR (q_blockR (q_thenR (q_ret1 rfl rfl ?_)))))))))))
   replace H := H.nil
   have e : ¬ mayJ J := by
     rintro ⟨g1, g2, g3, g4, g5, g6, g7, g8, g9, g10, g11⟩
     have g := g4 _ (at_mem hx32); have ga : x31.length ≤ 8 := g.1; first | exact (h40 g.2).elim | omega
   exact fin ⟨congrArg Value.bool (decide_eq_false e).symm, rfl⟩ H
  refine c_skip (q_blockN (q_then (c_reg (s_val rfl rfl (r_add (z := ((k + 1 : Nat) : Int)) rfl rfl rfl (by rw [w64 (by omega) (by omega)]; omega)) (s_1 rfl (s_nil ?_))))))
  have hn2 := take_prop (Q := fun u : Value × List Pair => okSplit u.2) hn hx32 ⟨(show x31.length ≤ 8 by omega), Classical.not_not.1 h40⟩
  exact q_round (s := k) (k + 1) ⟨rfl, rfl, rfl, rfl, trivial⟩ ⟨H, by (try dsimp only); omega, hn2⟩ (by (try dsimp only); omega)
 refine c_exit (q_thenE (q_thenE (q_blockE (q_then (c_seq (c_reg (s_1 rfl (s_nil (q_then (c_seq (c_seq (c_reg (s_val rfl rfl (r_fa rfl fo26_8 rfl) (s_val rfl rfl (r_ld rfl ty24 rfl (H.cellI 0 rfl rfl)) (s_val rfl rfl (r_lenL rfl un24 rfl) (s_1 rfl (s_nil (q_then (c_block ?_)))))))))))))))))))
 have hal : ∀ u ∈ J.us, okSplit u.2 := by rw [← take_all (xs := J.us) (k := k) (by omega)]; exact hn
 refine c_loop (σ := Nat × Int) (fun (j, last) => [(1, .pointer (some ⟨b26, 0, none⟩)), (5, .int .i64 last), (42, .slice A21 J.marks.length c22), (43, .int .i64 ((J.marks.length : Nat) : Int)), (44, .int .i64 ((j : Nat) : Int))]) (fun (j, last) w => (Hd w0 F0 w [blk b26 [.slice A1 J.us.length c2, .int .i64 J.parts, .slice A6 J.map.length c7, .slice A11 J.comb.length c12, .slice A16 J.red.length c17, .int .i64 J.chunk, .int .i64 J.window, .int .i64 J.fuel, .slice A21 J.marks.length c22] 26] [rsl (kHd kPair) (.slice A1 J.us.length c2) J.us, rsl kIns (.slice A6 J.map.length c7) J.map, rsl kIns (.slice A11 J.comb.length c12) J.comb, rsl kIns (.slice A16 J.red.length c17) J.red, rsl (kInt .i64) (.slice A21 J.marks.length c22) J.marks]) ∧ (j ≤ J.marks.length ∧ 0 ≤ last ∧ last ≤ 6) ∧ (marksUp J.us.length last (J.marks.drop j) ↔ marksUp J.us.length 0 J.marks)) (fun (j, last) => J.marks.length - j) (0, 0) ⟨rfl, rfl, rfl, rfl, rfl, trivial⟩ ⟨H, by (try dsimp only); omega, Iff.rfl⟩ ?_
 rintro ⟨j, last⟩ w ⟨H, hj, hm⟩
 refine c_seq (c_reg (s_val rfl rfl (r_lt rfl rfl rfl) (s_nil (q_then (c_seq ?_)))))
 refine c_dec rfl (fun h41 => ?_) (fun h41 => ?_)
 ·refine c_skip (q_then (c_seq (c_block (c_seq (c_reg ?_)))))
  obtain ⟨x42, hx43⟩ : ∃ z9, J.marks[j]? = some z9 := ⟨_, List.getElem?_eq_getElem (show j < J.marks.length by omega)⟩
  have th44 := H.thR 4 rfl hx43
  refine s_val rfl rfl (r_iaE (p := oOf A21 + j * 1) rfl sl24 rfl rfl (by omega) (by omega) th44 rfl) (s_val rfl rfl (r_ld rfl ty3 rfl (H.elR 4 rfl hx43 (q := 0) rfl rfl)) (s_1 rfl (s_nil (q_then (c_seq (c_seq (c_reg (s_k 2 rfl (s_val rfl rfl (r_add (z := last + 1) rfl rfl rfl (w64 (by omega) (by omega))) (s_val rfl rfl (r_fa rfl fo26_0 rfl) (s_val rfl rfl (r_ld rfl ty22 rfl (H.cellI 0 rfl rfl)) (s_val rfl rfl (r_lenL rfl un22 rfl) (sc (within_ok x42 (last + 1) ((J.us.length : Nat) : Int)) H l0 rfl rfl (e_fn kn89 rfl rfl) ?_)))))))))))))
  rintro _ _ w ⟨rfl, rfl⟩ H
  refine s_val rfl rfl (r_notP rfl rfl) (s_nil (q_then ?_))
  refine c_dec rfl (fun h45 => ?_) (fun h45 => ?_)
  ·refine c_seq (c_reg (s_1 rfl (s_nil (q_then (c_ret (q_thenR (q_blockR (q_thenR (q_thenR (q_blockR (q_thenR (q_ret1 rfl rfl ?_))))))))))))
   replace H := H.nil
   have e : ¬ mayJ J := by
     rintro ⟨g1, g2, g3, g4, g5, g6, g7, g8, g9, g10, g11⟩
     have g := hm.2 g5; rw [drop_at hx43] at g; have g0 := g.1; omega
   exact fin ⟨congrArg Value.bool (decide_eq_false e).symm, rfl⟩ H
  refine c_skip (q_then (c_reg (s_k 2 rfl (s_nil (q_blockN (q_then (c_reg (s_val rfl rfl (r_add (z := ((j + 1 : Nat) : Int)) rfl rfl rfl (by rw [w64 (by omega) (by omega)]; omega)) (s_1 rfl (s_nil ?_))))))))))
  have hm2 : marksUp J.us.length x42 (J.marks.drop (j + 1)) ↔ marksUp J.us.length 0 J.marks := by rw [← hm, drop_at hx43]; exact ⟨fun g => ⟨by omega, g⟩, fun g => g.2⟩
  exact q_round (s := (j, last)) (j + 1, x42) ⟨rfl, rfl, rfl, rfl, rfl, trivial⟩ ⟨H, by (try dsimp only); omega, hm2⟩ (by (try dsimp only); omega)
 refine c_exit (q_thenE (q_thenE (q_blockE (q_then (c_seq (c_reg (s_val rfl rfl (r_fa rfl fo26_2 rfl) (s_val rfl rfl (r_ld rfl ty23 rfl (H.cellI 0 rfl rfl)) (sc (jruns_ok (.slice A6 J.map.length c7) J.map) H (lR 1 rfl l0) rfl rfl (e_fn kn153 rfl rfl) ?_)))))))))
 rintro _ _ w ⟨rfl, rfl⟩ H
 refine s_1 rfl ?_
 refine s_dec (d := 61) rfl (fun h46 => ?_) (fun h46 => ?_)
 ·refine s_val rfl rfl (r_fa rfl fo26_4 rfl) (s_val rfl rfl (r_ld rfl ty23 rfl (H.cellI 0 rfl rfl)) (sc (jruns_ok (.slice A16 J.red.length c17) J.red) H (lR 3 rfl l0) rfl rfl (e_fn kn153 rfl rfl) ?_))
  rintro _ _ w ⟨rfl, rfl⟩ H
  refine s_k 2 rfl ?_
  refine s_dec (d := 66) rfl (fun h47 => ?_) (fun h47 => ?_)
  ·refine s_val rfl rfl (r_fa rfl fo26_3 rfl) (s_val rfl rfl (r_ld rfl ty23 rfl (H.cellI 0 rfl rfl)) (sc (pMay_ok (.slice A11 J.comb.length c12) J.comb) H (lR 2 rfl l0) rfl rfl (e_fn kn154 rfl rfl) ?_))
   rintro _ _ w ⟨rfl, rfl⟩ H
   refine s_k 2 rfl ?_
   refine s_dec (d := 71) rfl (fun h48 => ?_) (fun h48 => ?_)
   ·refine s_val rfl rfl (r_fa rfl fo26_5 rfl) (s_val rfl rfl (r_ld rfl ty3 rfl (H.cellI 0 rfl rfl)) (sc (within_ok J.chunk 1 7) H l0 rfl rfl (e_fn kn89 rfl rfl) ?_))
    rintro _ _ w ⟨rfl, rfl⟩ H
    refine s_k 2 rfl ?_
    refine s_dec (d := 76) rfl (fun h49 => ?_) (fun h49 => ?_)
    ·refine s_val rfl rfl (r_fa rfl fo26_6 rfl) (s_val rfl rfl (r_ld rfl ty3 rfl (H.cellI 0 rfl rfl)) (sc (within_ok J.window 1 4) H l0 rfl rfl (e_fn kn89 rfl rfl) ?_))
     rintro _ _ w ⟨rfl, rfl⟩ H
     refine s_k 2 rfl ?_
     refine s_dec (d := 81) rfl (fun h50 => ?_) (fun h50 => ?_)
     ·refine s_val rfl rfl (r_fa rfl fo26_7 rfl) (s_val rfl rfl (r_ld rfl ty3 rfl (H.cellI 0 rfl rfl)) (sc (within_ok J.fuel 1 2000) H l0 rfl rfl (e_fn kn89 rfl rfl) ?_))
      rintro _ _ w ⟨rfl, rfl⟩ H
      refine s_k 2 rfl (s_nil (q_then (c_ret (q_ret1 rfl rfl ?_))))
      replace H := H.nil
      have hmk : marksUp J.us.length 0 J.marks := hm.1 (by rw [List.drop_eq_nil_of_le (by omega)]; trivial)
      have e : (1 ≤ J.fuel ∧ J.fuel ≤ 2000) ↔ mayJ J := ⟨fun g => ⟨by omega, by omega, by omega, hal, hmk, by omega, by omega, by omega, by omega, by omega, by omega⟩, fun g => by have g6 := g.2.2.2.2.2; omega⟩
      exact fin ⟨congrArg Value.bool (decide_eq_decide.2 e), rfl⟩ H
     refine s_k 5 rfl (s_nil (q_then (c_ret (q_ret1 rfl rfl ?_))))
     replace H := H.nil
     have e : ¬ mayJ J := by
       rintro ⟨g1, g2, g3, g4, g5, g6, g7, g8, g9, g10, g11⟩
       omega
     exact fin ⟨congrArg Value.bool (decide_eq_false e).symm, rfl⟩ H
    refine s_k 10 rfl (s_nil (q_then (c_ret (q_ret1 rfl rfl ?_))))
    replace H := H.nil
    have e : ¬ mayJ J := by
      rintro ⟨g1, g2, g3, g4, g5, g6, g7, g8, g9, g10, g11⟩
      omega
    exact fin ⟨congrArg Value.bool (decide_eq_false e).symm, rfl⟩ H
   refine s_k 12 rfl (s_k 3 rfl (s_nil (q_then (c_ret (q_ret1 rfl rfl ?_)))))
   replace H := H.nil
   have e : ¬ mayJ J := by
     rintro ⟨g1, g2, g3, g4, g5, g6, g7, g8, g9, g10, g11⟩
     omega
   exact fin ⟨congrArg Value.bool (decide_eq_false e).symm, rfl⟩ H
  refine s_k 12 rfl (s_k 8 rfl (s_nil (q_then (c_ret (q_ret1 rfl rfl ?_)))))
  replace H := H.nil
  have e : ¬ mayJ J := by
    rintro ⟨g1, g2, g3, g4, g5, g6, g7, g8, g9, g10, g11⟩
    omega
  exact fin ⟨congrArg Value.bool (decide_eq_false e).symm, rfl⟩ H
 refine s_k 12 rfl (s_k 12 rfl (s_1 rfl (s_nil (q_then (c_ret (q_ret1 rfl rfl ?_))))))
 replace H := H.nil
 have e : ¬ mayJ J := by
   rintro ⟨g1, g2, g3, g4, g5, g6, g7, g8, g9, g10, g11⟩
   omega
 exact fin ⟨congrArg Value.bool (decide_eq_false e).symm, rfl⟩ H
theorem greatJob_ok (vS vM vC vR vK : Value) (J : Job) :
    Cn Tryz.prog 18 [.agg #[vS, .int .i64 J.parts, vM, vC, vR, .int .i64 J.chunk, .int .i64 J.window, .int .i64 J.fuel, vK]] [] [rsl (kHd kPair) vS J.us, rsl kIns vM J.map, rsl kIns vC J.comb, rsl kIns vR J.red, rsl (kInt .i64) vK J.marks] (fun v Bs => v = .bool (greatJ J) ∧ Bs = []) := by
 intro w0 F0 H
 obtain ⟨A1, c2, rfl, hc3, hm4, hp5⟩ := H.fR 0 rfl
 obtain ⟨A6, c7, rfl, hc8, hm9, hp10⟩ := H.fR 1 rfl
 obtain ⟨A11, c12, rfl, hc13, hm14, hp15⟩ := H.fR 2 rfl
 obtain ⟨A16, c17, rfl, hc18, hm19, hp20⟩ := H.fR 3 rfl
 obtain ⟨A21, c22, rfl, hc23, hm24, hp25⟩ := H.fR 4 rfl
 refine enter Tryz.func18 rfl rfl (Nat.le_of_ble_eq_true rfl) (c_seq (c_reg (s_box rfl rfl rfl rfl H (fun b26 w H => (s_1 rfl (s_nil (q_then ?_)))))))
 replace H : Hd _ _ _ [blk b26 [.slice A1 J.us.length c2, .int .i64 J.parts, .slice A6 J.map.length c7, .slice A11 J.comb.length c12, .slice A16 J.red.length c17, .int .i64 J.chunk, .int .i64 J.window, .int .i64 J.fuel, .slice A21 J.marks.length c22] 26] [rsl (kHd kPair) (.slice A1 J.us.length c2) J.us, rsl kIns (.slice A6 J.map.length c7) J.map, rsl kIns (.slice A11 J.comb.length c12) J.comb, rsl kIns (.slice A16 J.red.length c17) J.red, rsl (kInt .i64) (.slice A21 J.marks.length c22) J.marks] := H
 refine c_seq (c_seq (c_reg (s_1 rfl (s_nil (q_then (c_block (c_loop (σ := Nat) (fun k => [(1, .pointer (some ⟨b26, 0, none⟩)), (3, .int .i64 ((k : Nat) : Int))]) (fun k w => (Hd w0 F0 w [blk b26 [.slice A1 J.us.length c2, .int .i64 J.parts, .slice A6 J.map.length c7, .slice A11 J.comb.length c12, .slice A16 J.red.length c17, .int .i64 J.chunk, .int .i64 J.window, .int .i64 J.fuel, .slice A21 J.marks.length c22] 26] [rsl (kHd kPair) (.slice A1 J.us.length c2) J.us, rsl kIns (.slice A6 J.map.length c7) J.map, rsl kIns (.slice A11 J.comb.length c12) J.comb, rsl kIns (.slice A16 J.red.length c17) J.red, rsl (kInt .i64) (.slice A21 J.marks.length c22) J.marks]) ∧ (k ≤ J.us.length) ∧ (∀ u ∈ J.us.take k, greatP u.2 10 = false)) (fun k => J.us.length - k) 0 ⟨rfl, rfl, trivial⟩ ⟨H, by omega, by simp⟩ ?_)))))))
 rintro k w ⟨H, hk, hn⟩
 refine c_seq (c_seq (c_reg (s_1 rfl (s_val rfl rfl (r_fa rfl fo26_0 rfl) (s_val rfl rfl (r_ld rfl ty22 rfl (H.cellI 0 rfl rfl)) (s_val rfl rfl (r_lenL rfl un22 rfl) (s_val rfl rfl (r_lt rfl rfl rfl) (s_1 rfl ?_))))))))
 refine s_dec (d := 9) rfl (fun h27 => ?_) (fun h27 => ?_)
 ·refine s_val rfl rfl (r_fa rfl fo26_0 rfl) (s_val rfl rfl (r_ld rfl ty22 rfl (H.cellI 0 rfl rfl)) (s_val rfl rfl (r_lenL rfl un22 rfl) (s_val rfl rfl (r_le rfl rfl rfl) (s_1 rfl (s_nil (q_then ?_))))))
  refine c_dec rfl (fun h28 => ?_) (fun h28 => ?_)
  ·refine c_skip (q_then (c_seq (c_block (c_seq (c_reg (s_val rfl rfl (r_fa rfl fo26_0 rfl) (s_val rfl rfl (r_ld rfl ty22 rfl (H.cellI 0 rfl rfl)) (s_1 rfl ?_))))))))
   obtain ⟨⟨u31, x29⟩, hx30⟩ : ∃ z9, J.us[k]? = some z9 := ⟨_, List.getElem?_eq_getElem (show k < J.us.length by omega)⟩
   obtain ⟨A32, c33, rfl, hc34, hm35⟩ := H.nestR 0 rfl hx30
   have th36 := H.thRd 0 rfl hx30
   refine s_val rfl rfl (r_iaE (p := oOf A1 + k * 1) rfl sl22 rfl rfl (by omega) (by omega) th36 rfl) (s_val rfl rfl (r_ld rfl ty35 rfl (H.elRd 0 rfl hx30 rfl)) (sc (greatPairs_ok (.slice A32 x29.length c33) x29 10) H (lX (fun F hA hR => nest_rsl (hR _ (List.mem_of_getElem? (i := 0) rfl)) hx30) l0) rfl rfl (e_fn kn23 rfl rfl) ?_))
   rintro _ _ w ⟨rfl, rfl⟩ H
   refine s_nil (q_then ?_)
   refine c_cond (b := greatP x29 10) rfl (fun h37 => ?_) (fun h37 => ?_)
   ·refine c_seq (c_reg (s_1 rfl (s_nil (q_then (c_ret (q_blockR (q_thenR (q_thenR (q_blockR (q_thenR (q_ret1 rfl rfl ?_)))))))))))
    replace H := H.nil
    exact fin ⟨congrArg Value.bool (greatJ_hit hx30 h37), rfl⟩ H
   refine c_skip (q_blockN (q_then (c_reg (s_1 rfl (s_val rfl rfl (r_add (z := ((k + 1 : Nat) : Int)) rfl rfl rfl (by rw [w64 (by omega) (by omega)]; omega)) (s_1 rfl (s_nil ?_)))))))
   have hn2 := take_prop (Q := fun u : Value × List Pair => greatP u.2 10 = false) hn hx30 (show greatP x29 10 = false by simpa using h37)
   exact q_round (s := k) (k + 1) ⟨rfl, rfl, trivial⟩ ⟨H, by (try dsimp only); omega, hn2⟩ (by (try dsimp only); omega)
  refine c_exit (q_thenE (q_thenE (q_blockE (q_then (c_seq (c_reg (s_val rfl rfl (r_fa rfl fo26_0 rfl) (s_val rfl rfl (r_ld rfl ty22 rfl (H.cellI 0 rfl rfl)) (s_val rfl rfl (r_lenL rfl un22 rfl) (s_val rfl rfl (r_gt rfl rfl rfl) (s_1 rfl ?_)))))))))))
  refine s_dec (d := 27) rfl (fun h38 => ?_) (fun h38 => ?_)
  ·refine s_k 12 rfl (s_k 9 rfl (s_nil (q_then (c_ret (q_ret1 rfl rfl ?_)))))
   replace H := H.nil
   exact fin ⟨congrArg Value.bool (greatJ_of (by first | exact .inl (by omega) | exact .inr (.inl (by omega)) | exact .inr (.inr (.inl h38)) | exact .inr (.inr (.inr h38)))), rfl⟩ H
  refine s_val rfl rfl (r_fa rfl fo26_8 rfl) (s_val rfl rfl (r_ld rfl ty24 rfl (H.cellI 0 rfl rfl)) (s_val rfl rfl (r_lenL rfl un24 rfl) (s_val rfl rfl (r_gt rfl rfl rfl) (s_k 2 rfl ?_))))
  refine s_dec (d := 33) rfl (fun h39 => ?_) (fun h39 => ?_)
  ·refine s_k 12 rfl (s_k 3 rfl (s_nil (q_then (c_ret (q_ret1 rfl rfl ?_)))))
   replace H := H.nil
   exact fin ⟨congrArg Value.bool (greatJ_of (by first | exact .inl (by omega) | exact .inr (.inl (by omega)) | exact .inr (.inr (.inl h39)) | exact .inr (.inr (.inr h39)))), rfl⟩ H
  refine s_val rfl rfl (r_fa rfl fo26_2 rfl) (s_val rfl rfl (r_ld rfl ty23 rfl (H.cellI 0 rfl rfl)) (sc (greatCode_ok (.slice A6 J.map.length c7) J.map) H (lR 1 rfl l0) rfl rfl (e_fn kn87 rfl rfl) ?_))
  rintro _ _ w ⟨rfl, rfl⟩ H
  refine s_k 2 rfl ?_
  refine s_boo (d := 38) (b := greatC J.map) rfl (fun h40 => ?_) (fun h40 => ?_)
  ·refine s_k 10 rfl (s_nil (q_then (c_ret (q_ret1 rfl rfl ?_))))
   replace H := H.nil
   exact fin ⟨congrArg Value.bool (greatJ_of (by first | exact .inl (by omega) | exact .inr (.inl (by omega)) | exact .inr (.inr (.inl h40)) | exact .inr (.inr (.inr h40)))), rfl⟩ H
  refine s_val rfl rfl (r_fa rfl fo26_3 rfl) (s_val rfl rfl (r_ld rfl ty23 rfl (H.cellI 0 rfl rfl)) (sc (greatCode_ok (.slice A11 J.comb.length c12) J.comb) H (lR 2 rfl l0) rfl rfl (e_fn kn87 rfl rfl) ?_))
  rintro _ _ w ⟨rfl, rfl⟩ H
  refine s_k 2 rfl ?_
  refine s_boo (d := 43) (b := greatC J.comb) rfl (fun h41 => ?_) (fun h41 => ?_)
  ·refine s_k 5 rfl (s_nil (q_then (c_ret (q_ret1 rfl rfl ?_))))
   replace H := H.nil
   exact fin ⟨congrArg Value.bool (greatJ_of (by first | exact .inl (by omega) | exact .inr (.inl (by omega)) | exact .inr (.inr (.inl h41)) | exact .inr (.inr (.inr h41)))), rfl⟩ H
  refine s_val rfl rfl (r_fa rfl fo26_4 rfl) (s_val rfl rfl (r_ld rfl ty23 rfl (H.cellI 0 rfl rfl)) (sc (greatCode_ok (.slice A16 J.red.length c17) J.red) H (lR 3 rfl l0) rfl rfl (e_fn kn87 rfl rfl) ?_))
  rintro _ _ w ⟨rfl, rfl⟩ H
  refine s_k 2 rfl (s_nil (q_then (c_ret (q_ret1 rfl rfl ?_))))
  replace H := H.nil
  exact fin ⟨congrArg Value.bool (greatJ_fin hn (by omega) (by omega) (by omega) (by simpa using h40) (by simpa using h41)), rfl⟩ H
 refine s_k 5 rfl (s_nil (q_then (c_no rfl (c_exit (q_thenE (q_thenE (q_blockE (q_then (c_seq (c_reg (s_val rfl rfl (r_fa rfl fo26_0 rfl) (s_val rfl rfl (r_ld rfl ty22 rfl (H.cellI 0 rfl rfl)) (s_val rfl rfl (r_lenL rfl un22 rfl) (s_val rfl rfl (r_gt rfl rfl rfl) (s_1 rfl ?_)))))))))))))))
 refine s_dec (d := 27) rfl (fun h42 => ?_) (fun h42 => ?_)
 ·refine s_k 12 rfl (s_k 9 rfl (s_nil (q_then (c_ret (q_ret1 rfl rfl ?_)))))
  replace H := H.nil
  exact fin ⟨congrArg Value.bool (greatJ_of (by first | exact .inl (by omega) | exact .inr (.inl (by omega)) | exact .inr (.inr (.inl h42)) | exact .inr (.inr (.inr h42)))), rfl⟩ H
 refine s_val rfl rfl (r_fa rfl fo26_8 rfl) (s_val rfl rfl (r_ld rfl ty24 rfl (H.cellI 0 rfl rfl)) (s_val rfl rfl (r_lenL rfl un24 rfl) (s_val rfl rfl (r_gt rfl rfl rfl) (s_k 2 rfl ?_))))
 refine s_dec (d := 33) rfl (fun h43 => ?_) (fun h43 => ?_)
 ·refine s_k 12 rfl (s_k 3 rfl (s_nil (q_then (c_ret (q_ret1 rfl rfl ?_)))))
  replace H := H.nil
  exact fin ⟨congrArg Value.bool (greatJ_of (by first | exact .inl (by omega) | exact .inr (.inl (by omega)) | exact .inr (.inr (.inl h43)) | exact .inr (.inr (.inr h43)))), rfl⟩ H
 refine s_val rfl rfl (r_fa rfl fo26_2 rfl) (s_val rfl rfl (r_ld rfl ty23 rfl (H.cellI 0 rfl rfl)) (sc (greatCode_ok (.slice A6 J.map.length c7) J.map) H (lR 1 rfl l0) rfl rfl (e_fn kn87 rfl rfl) ?_))
 rintro _ _ w ⟨rfl, rfl⟩ H
 refine s_k 2 rfl ?_
 refine s_boo (d := 38) (b := greatC J.map) rfl (fun h44 => ?_) (fun h44 => ?_)
 ·refine s_k 10 rfl (s_nil (q_then (c_ret (q_ret1 rfl rfl ?_))))
  replace H := H.nil
  exact fin ⟨congrArg Value.bool (greatJ_of (by first | exact .inl (by omega) | exact .inr (.inl (by omega)) | exact .inr (.inr (.inl h44)) | exact .inr (.inr (.inr h44)))), rfl⟩ H
 refine s_val rfl rfl (r_fa rfl fo26_3 rfl) (s_val rfl rfl (r_ld rfl ty23 rfl (H.cellI 0 rfl rfl)) (sc (greatCode_ok (.slice A11 J.comb.length c12) J.comb) H (lR 2 rfl l0) rfl rfl (e_fn kn87 rfl rfl) ?_))
 rintro _ _ w ⟨rfl, rfl⟩ H
 refine s_k 2 rfl ?_
 refine s_boo (d := 43) (b := greatC J.comb) rfl (fun h45 => ?_) (fun h45 => ?_)
 ·refine s_k 5 rfl (s_nil (q_then (c_ret (q_ret1 rfl rfl ?_))))
  replace H := H.nil
  exact fin ⟨congrArg Value.bool (greatJ_of (by first | exact .inl (by omega) | exact .inr (.inl (by omega)) | exact .inr (.inr (.inl h45)) | exact .inr (.inr (.inr h45)))), rfl⟩ H
 refine s_val rfl rfl (r_fa rfl fo26_4 rfl) (s_val rfl rfl (r_ld rfl ty23 rfl (H.cellI 0 rfl rfl)) (sc (greatCode_ok (.slice A16 J.red.length c17) J.red) H (lR 3 rfl l0) rfl rfl (e_fn kn87 rfl rfl) ?_))
 rintro _ _ w ⟨rfl, rfl⟩ H
 refine s_k 2 rfl (s_nil (q_then (c_ret (q_ret1 rfl rfl ?_))))
 replace H := H.nil
 exact fin ⟨congrArg Value.bool (greatJ_fin hn (by omega) (by omega) (by omega) (by simpa using h44) (by simpa using h45)), rfl⟩ H
theorem partNum_ok (key : ByteArray) (hb0 : key.size ≤ 9223372036854775807) :
    Cn Tryz.prog 215 [.string key] [] [] (fun v Bs => v = .int .u32 (numK key key.size) ∧ Bs = []) := by
 intro w0 F0 H
 refine enter Tryz.func215 rfl rfl (Nat.le_of_ble_eq_true rfl) (c_seq (c_reg (s_1 rfl (s_nil (q_then (c_seq (c_reg (s_1 rfl (s_nil (q_then (c_seq (c_seq (c_reg (s_1 rfl (s_val rfl rfl (r_lenS rfl un9 rfl) (s_1 rfl (s_nil (q_then (c_block (c_loop (σ := Nat) (fun k => [(0, .string key), (2, .int .u32 0), (3, .int .u32 (numK key k)), (6, .int .i64 ((key.size : Nat) : Int)), (7, .int .i64 ((k : Nat) : Int))]) (fun k w => (Hd w0 F0 w [] []) ∧ (k ≤ key.size)) (fun k => key.size - k) 0 ⟨rfl, rfl, rfl, rfl, rfl, trivial⟩ ⟨H, by (try dsimp only); omega⟩ ?_))))))))))))))))))))
 rintro k w ⟨H, hk⟩
 refine c_seq (c_reg (s_val rfl rfl (r_lt rfl rfl rfl) (s_nil (q_then (c_seq ?_)))))
 refine c_dec rfl (fun h1 => ?_) (fun h1 => ?_)
 ·refine c_skip (q_then (c_seq (c_block (c_seq (c_reg (s_k 2 rfl (s_nil (q_then (c_reg (s_1 rfl (s_val rfl rfl (r_mul (z := IntKind.u32.wrap (31 * numK key k)) rfl rfl rfl rfl) (s_k 2 rfl ?_))))))))))))
  obtain ⟨b, hb⟩ : ∃ b, key[k]? = some b := ⟨_, getElem?_pos key k (by omega)⟩
  exact s_val rfl rfl (r_idxS rfl un9 rfl rfl (by omega) hb) (s_val rfl rfl (r_i2i (z := ((b).toNat : Int)) rfl rfl un5 un206 (wu32b b)) (s_val rfl rfl (r_add (z := IntKind.u32.wrap (IntKind.u32.wrap (31 * numK key k) + (b.toNat : Int))) rfl rfl rfl rfl) (s_1 rfl (s_nil (q_blockN (q_then (c_reg (s_val rfl rfl (r_add (z := ((k + 1 : Nat) : Int)) rfl rfl rfl (by rw [w64 (by omega) (by omega)]; omega)) (s_1 rfl (s_nil (q_round (s := k) (k + 1) ⟨rfl, rfl, congrArg (fun z => some (Value.int .u32 z)) (numK_step hb).symm, rfl, rfl, trivial⟩ ⟨H, by (try dsimp only); omega⟩ (by (try dsimp only); omega))))))))))))
 refine c_exit (q_thenE (q_thenE (q_blockE (q_then (c_seq (c_reg (s_k 2 rfl (s_nil (q_then (c_ret (q_ret1 rfl rfl ?_)))))))))))
 obtain rfl : k = key.size := by omega
 exact fin ⟨rfl, rfl⟩ H
theorem partOf_ok (key : ByteArray) (n : Int) (hb0 : key.size ≤ 9223372036854775807) (hn : n ≤ 9223372036854775807) :
    Cn Tryz.prog 178 [.string key, .int .i64 n] [] [] (fun v Bs => v = .int .i64 (partO key n) ∧ Bs = []) := by
 intro w0 F0 H
 refine enter Tryz.func178 rfl rfl (Nat.le_of_ble_eq_true rfl) (c_seq (c_reg (s_1 rfl (s_nil (q_then (c_seq (c_seq (c_reg (s_1 rfl (s_val rfl rfl (r_lt rfl rfl rfl) (s_nil (q_then ?_))))))))))))
 refine c_dec rfl (fun h1 => ?_) (fun h1 => ?_)
 ·exact c_seq (c_reg (s_1 rfl (s_nil (q_then (c_ret (q_thenR (q_ret1 rfl rfl (fin ⟨congrArg (Value.int .i64) (if_pos h1).symm, rfl⟩ H))))))))
 refine c_skip (q_then (c_seq (c_reg (s_1 rfl (sc (partNum_ok key (by first | omega | decide)) H l0 rfl rfl (e_fn kn215 rfl rfl) ?_)))))
 rintro _ _ w ⟨rfl, rfl⟩ H
 exact s_val rfl rfl (r_i2i (z := numK key key.size) rfl rfl un206 un270 (wu64 (numK_range key key.size).1 (by have := (numK_range key key.size).2; omega))) (s_1 rfl (s_val rfl rfl (r_i2i (z := n) rfl rfl un3 un270 (wu64 (by omega) (by omega))) (s_val rfl rfl (r_rem (z := (numK key key.size) % n) rfl rfl rfl (by omega) (Int.tmod_eq_emod_of_nonneg (numK_range key key.size).1)) (s_val rfl rfl (r_i2i (z := (numK key key.size) % n) rfl rfl un270 un3 (w64 (by have := Int.emod_nonneg (numK key key.size) (show n ≠ 0 by omega); omega) (by have := Int.emod_lt_of_pos (numK key key.size) (show 0 < n by omega); omega))) (s_1 rfl (s_nil (q_then (c_ret (q_ret1 rfl rfl (fin ⟨congrArg (Value.int .i64) (if_neg h1).symm, rfl⟩ H))))))))))
theorem only_ok (vxs : Value) (xs : List Pair) (n : Int) (p : Int) (hb : xs.length ≤ 1000000) (hn : n ≤ 9223372036854775807) (hk : ∀ x ∈ xs, x.key.size ≤ 9223372036854775807) :
    Cn Tryz.prog 126 [vxs, .int .i64 n, .int .i64 p] [] [rsl kPair vxs xs] (fun v Bs => Bs = [osl kPair v (onlyP xs n p)]) := by
 intro w0 F0 H
 obtain ⟨A1, c2, rfl, hc3, hm4, hp5⟩ := H.fR 0 rfl
 refine enter Tryz.func126 rfl rfl (Nat.le_of_ble_eq_true rfl) (c_seq (c_reg (s_1 rfl (s_nil (q_then ?_)))))
 replace H : Hd _ _ _ [] [rsl kPair (.slice A1 xs.length c2) xs] := H
 refine c_seq (c_reg (s_1 rfl (s_nil (q_then (c_seq (c_seq (c_reg (s_1 rfl (s_val rfl rfl (r_lenL rfl un35 rfl) (s_1 rfl (s_nil (q_then (c_block ?_)))))))))))))
 replace H := H.newnil kPair
 refine c_loop (σ := Nat × Value) (fun (k, l) => [(1, .int .i64 n), (2, .int .i64 p), (6, .slice none 0 0), (7, l), (10, .slice A1 xs.length c2), (11, .int .i64 ((xs.length : Nat) : Int)), (12, .int .i64 ((k : Nat) : Int))]) (fun (k, l) w => (Hd w0 F0 w [osl kPair l (onlyP (xs.take k) n p)] [rsl kPair (.slice A1 xs.length c2) xs]) ∧ (k ≤ xs.length)) (fun (k, l) => xs.length - k) (0, .slice none 0 0) ⟨rfl, rfl, rfl, rfl, rfl, rfl, rfl, trivial⟩ ⟨H, by (try dsimp only); omega⟩ ?_
 rintro ⟨k, l⟩ w ⟨H, hk0⟩
 have hjl := only_len (xs.take k) n p
 have hjt : (xs.take k).length ≤ xs.length := by simp; omega
 refine c_seq (c_reg (s_val rfl rfl (r_lt rfl rfl rfl) (s_nil (q_then (c_seq ?_)))))
 refine c_dec rfl (fun h6 => ?_) (fun h6 => ?_)
 ·refine c_skip (q_then (c_seq (c_block (c_seq (c_reg ?_)))))
  obtain ⟨x7, hx8⟩ : ∃ z9, xs[k]? = some z9 := ⟨_, List.getElem?_eq_getElem (show k < xs.length by omega)⟩
  have th9 := H.thR 0 rfl hx8
  refine s_val rfl rfl (r_iaE (p := oOf A1 + k * 2) rfl sl35 rfl rfl (by omega) (by omega) th9 rfl) (s_val rfl rfl (r_ldA (cs := [.string x7.key, .string x7.val]) rfl ty106 rfl rfl (H.elsR 0 rfl hx8 rfl)) (s_alloc rfl rfl rfl zr106 H (fun b10 w H => (s_st rfl rfl rfl ty106 rfl rfl H rfl (Nat.le_of_ble_eq_true rfl) (fun u hu => by simp [Value.cells] at hu; rcases hu with rfl | rfl <;> rfl) (fun w H => ?_)))))
  replace H := H.h2 (A := blk b10 [.string x7.key, .string x7.val] 106) (B := osl kPair l (onlyP (xs.take k) n p))
  refine s_nil (q_then (c_seq ?_))
  have hkx := hk _ (at_mem hx8)
  refine c_reg (s_val rfl rfl (r_fa rfl fo106_0 rfl) (s_val rfl rfl (r_ld rfl ty9 rfl (H.cellI 0 rfl rfl)) (s_1 rfl (sc (partOf_ok x7.key n (by first | omega | decide) (by first | omega | decide)) H l0 rfl rfl (e_fn kn178 rfl rfl) ?_))))
  rintro _ _ w ⟨rfl, rfl⟩ H
  refine s_1 rfl (s_val rfl rfl (r_eq rfl rfl rfl) (s_nil (q_then ?_)))
  refine c_dec rfl (fun h11 => ?_) (fun h11 => ?_)
  ·refine c_reg (s_1 rfl (s_val rfl rfl (r_ldA (cs := [.string x7.key, .string x7.val]) rfl ty106 rfl rfl (H.cellsI 0 rfl rfl)) (s_bsl (parts := [(0, .tmp 23)]) (vs := [.agg #[.string x7.key, .string x7.val]]) (cs := [.string x7.key, .string x7.val]) rfl rfl rfl sl35 zr106 rfl (by decide) (by decide) rfl rfl H (fun b12 w H => ?_))))
   replace H := H.p2
   refine s_appF (xs := onlyP (xs.take k) n p) (ys := [x7]) rfl rfl rfl sl35 zr106 rfl (by decide) rfl rfl H (by omega) (fun F hA hR => blk_rsl (hA _ (List.mem_of_getElem? (i := 0) rfl)) rfl (by decide) (RepsR.flat_eq.2 rfl)) (fun v13 w H => (s_1 rfl (s_nil (q_blockN (q_then ?_)))))
   replace H : Hd _ _ _ [osl kPair v13 ((onlyP (xs.take k) n p) ++ [x7]), blk b12 [.string x7.key, .string x7.val] 106, blk b10 [.string x7.key, .string x7.val] 106] [rsl kPair (.slice A1 xs.length c2) xs] := H
   refine c_reg (s_val rfl rfl (r_add (z := ((k + 1 : Nat) : Int)) rfl rfl rfl (by rw [w64 (by omega) (by omega)]; omega)) (s_1 rfl (s_nil ?_)))
   rw [← only_yes hx8 h11] at H
   replace H := H.k1
   exact q_round (s := (k, undef)) (k + 1, v13) ⟨rfl, rfl, rfl, rfl, rfl, rfl, rfl, trivial⟩ ⟨H, by (try dsimp only); omega⟩ (by (try dsimp only); omega)
  refine c_skip (q_blockN (q_then (c_reg (s_val rfl rfl (r_add (z := ((k + 1 : Nat) : Int)) rfl rfl rfl (by rw [w64 (by omega) (by omega)]; omega)) (s_1 rfl (s_nil ?_))))))
  rw [← only_no hx8 h11] at H
  replace H := H.sel 2 [1] [0] rfl (by kernel_rfl)
  exact q_round (s := (k, undef)) (k + 1, l) ⟨rfl, rfl, rfl, rfl, rfl, rfl, rfl, trivial⟩ ⟨H, by (try dsimp only); omega⟩ (by (try dsimp only); omega)
 refine c_exit (q_thenE (q_thenE (q_blockE (q_then (c_seq (c_reg (s_k 2 rfl (s_nil (q_then (c_ret (q_ret1 rfl rfl ?_)))))))))))
 rw [List.take_of_length_le (show xs.length ≤ k by omega)] at H
 exact fin rfl H
theorem Cn.heads0 {α : Type} {d : Kd α} {P : Program} {f : FuncId} {args : List Value} {v : Value} {ss : List (List α)} {Rs : List SP} {T : Value → List SP → Prop}
  (h : ∀ us : List (Value × List α), us.map (·.2) = ss → Cn P f args [] (rsl (kHd d) v us :: rsl (kSl d) v ss :: Rs) T) : Cn P f args [] (rsl (kSl d) v ss :: Rs) T := by
 intro w F H
 obtain ⟨us, hus, H2⟩ := H.heads 0 rfl
 refine (h us hus w F H2).mono ?_
 rintro e W' ⟨v, rfl, Bs, t, H⟩
 exact ⟨v, rfl, Bs, t, H.dropR⟩
theorem opens_job {P : Program} {t s i c m : TypeId} {W1 : List (List Pair) → Prop} {W2 : List Ins → Prop} {W3 : List Int → Prop}
  (hs : stOf P t = some [(s, 0, 1), (i, 1, 1), (c, 2, 1), (c, 3, 1), (c, 4, 1), (i, 5, 1), (i, 6, 1), (i, 7, 1), (m, 8, 1)]) (hc : P.cellsOf t = 9) (hi : P.underlying i = some (.int .i64))
  (h1 : Opens P s (kSl (kSl kPair)) W1) (h2 : Opens P c (kSl kIns) W2) (h3 : Opens P m (kSl (kInt .i64)) W3)
  {H : Type} (enc : TypeId × Value → H) (w : World) (fuel : Nat) (cs : List Value) (x : DataW H × List MemPlace) (h : DataW.trod enc P w 0 (fun _ => true) true fuel t cs = some x) :
  ∃ (vS : Value) (ss : List (List Pair)) (n1 : Int) (vM : Value) (map : List Ins) (vC : Value) (comb : List Ins) (vR : Value) (red : List Ins) (n5 n6 n7 : Int) (vK : Value) (marks : List Int),
   cs = [vS, .int .i64 n1, vM, vC, vR, .int .i64 n5, .int .i64 n6, .int .i64 n7, vK] ∧ ((rsl (kSl kPair) vS ss).P w (Old w) ∧ (rsl kIns vM map).P w (Old w) ∧ (rsl kIns vC comb).P w (Old w) ∧ (rsl kIns vR red).P w (Old w) ∧ (rsl (kInt .i64) vK marks).P w (Old w)) ∧
   (W1 ss ∧ W2 map ∧ W2 comb ∧ W2 red ∧ W3 marks) ∧ (In64 n1 ∧ In64 n5 ∧ In64 n6 ∧ In64 n7) := by
 obtain ⟨hl, n, hf⟩ := open_st hs h
 rw [hc] at hl
 match cs, hl with
 | [c0, c1, c2, c3, c4, c5, c6, c7, c8], _ =>
  obtain ⟨y0, g0⟩ := hf 0 _ _ _ rfl
  obtain ⟨y1, g1⟩ := hf 1 _ _ _ rfl
  obtain ⟨y2, g2⟩ := hf 2 _ _ _ rfl
  obtain ⟨y3, g3⟩ := hf 3 _ _ _ rfl
  obtain ⟨y4, g4⟩ := hf 4 _ _ _ rfl
  obtain ⟨y5, g5⟩ := hf 5 _ _ _ rfl
  obtain ⟨y6, g6⟩ := hf 6 _ _ _ rfl
  obtain ⟨y7, g7⟩ := hf 7 _ _ _ rfl
  obtain ⟨y8, g8⟩ := hf 8 _ _ _ rfl
  obtain ⟨a0, r0, w0⟩ := h1 enc w n _ _ g0
  obtain ⟨a1, r1, w1⟩ := opens_int hi enc w n _ _ g1
  obtain ⟨a2, r2, w2⟩ := h2 enc w n _ _ g2
  obtain ⟨a3, r3, w3⟩ := h2 enc w n _ _ g3
  obtain ⟨a4, r4, w4⟩ := h2 enc w n _ _ g4
  obtain ⟨a5, r5, w5⟩ := opens_int hi enc w n _ _ g5
  obtain ⟨a6, r6, w6⟩ := opens_int hi enc w n _ _ g6
  obtain ⟨a7, r7, w7⟩ := opens_int hi enc w n _ _ g7
  obtain ⟨a8, r8, w8⟩ := h3 enc w n _ _ g8
  have q1 : [c1] = [Value.int .i64 a1] := r1
  have q5 : [c5] = [Value.int .i64 a5] := r5
  have q6 : [c6] = [Value.int .i64 a6] := r6
  have q7 : [c7] = [Value.int .i64 a7] := r7
  simp only [List.cons.injEq, and_true] at q1 q5 q6 q7
  subst q1 q5 q6 q7
  exact ⟨c0, a0, a1, c2, a2, c3, a3, c4, a4, a5, a6, a7, c8, a8, rfl, ⟨r0, r2, r3, r4, r8⟩, ⟨w0, w2, w3, w4, w8⟩, w1, w5, w6, w7⟩
structure SameJ (A B : Job) : Prop where
 us : A.us.map (·.2) = B.us.map (·.2)
 rest : A = { B with us := A.us }
theorem SameJ.refl (A : Job) : SameJ A A := ⟨rfl, rfl⟩
theorem SameJ.symm {A B : Job} (h : SameJ A B) : SameJ B A := by
 obtain ⟨h1, h2⟩ := h
 refine ⟨h1.symm, ?_⟩
 rw [h2]
theorem SameJ.trans {A B C : Job} (h : SameJ A B) (k : SameJ B C) : SameJ A C := by
 obtain ⟨h1, h2⟩ := h
 obtain ⟨k1, k2⟩ := k
 refine ⟨h1.trans k1, ?_⟩
 rw [h2, k2]
section
variable {A B : Job} (h : SameJ A B)
include h
theorem SameJ.parts : A.parts = B.parts := by rw [h.rest]
theorem SameJ.map : A.map = B.map := by rw [h.rest]
theorem SameJ.comb : A.comb = B.comb := by rw [h.rest]
theorem SameJ.red : A.red = B.red := by rw [h.rest]
theorem SameJ.chunk : A.chunk = B.chunk := by rw [h.rest]
theorem SameJ.window : A.window = B.window := by rw [h.rest]
theorem SameJ.fuel : A.fuel = B.fuel := by rw [h.rest]
theorem SameJ.marks : A.marks = B.marks := by rw [h.rest]
theorem SameJ.len : A.us.length = B.us.length := by have := congrArg List.length h.us; simpa using this
theorem SameJ.recs (s : Nat) : recs A s = recs B s := by
 have e : ∀ J : Job, X.recs J s = ((J.us.map (·.2))[s]?).getD [] := by
  intro J
  unfold X.recs
  rw [List.getElem?_map]
  cases J.us[s]? <;> rfl
 rw [e, e, h.us]
theorem SameJ.split (D : Dig) (s : Nat) : splitM D A s = splitM D B s := by
 unfold splitM mapM
 rw [h.recs, h.map, h.comb, h.fuel]
theorem SameJ.only (D : Dig) (s : Nat) (p : Int) : onlyM D A s p = onlyM D B s p := by
 unfold onlyM
 rw [h.split, h.parts]
theorem SameJ.all (D : Dig) (p : Int) : ∀ k, allOf D A p k = allOf D B p k
 | 0 => rfl
 | k + 1 => by unfold allOf; rw [SameJ.all D p k, h.only]
theorem SameJ.part (D : Dig) (p : Int) : partM D A p = partM D B p := by
 unfold partM
 rw [h.all, h.red, h.fuel, h.len]
theorem SameJ.run (D : Dig) (s : Nat) (p : Int) : runJ D A s p = runJ D B s p := by
 unfold runJ
 rw [h.split, h.only]
theorem SameJ.partsGo (D : Dig) : ∀ k p out, partsGo D A k p out = partsGo D B k p out
 | 0, _, _ => rfl
 | k + 1, p, out => by unfold X.partsGo; rw [h.part, SameJ.partsGo D k]
theorem SameJ.wholeGo (D : Dig) : ∀ k s, wholeGo D A k s = wholeGo D B k s
 | 0, _ => by unfold X.wholeGo; rw [h.partsGo, h.parts]
 | k + 1, s => by unfold X.wholeGo; rw [h.split, SameJ.wholeGo D k]
theorem SameJ.whole (D : Dig) : wholeM D A = wholeM D B := by
 unfold wholeM
 rw [h.wholeGo, h.len]
theorem SameJ.may (m : mayJ A) : mayJ B := by
 obtain ⟨m1, m2, m3, m4, m5, m6, m7, m8, m9, m10, m11⟩ := m
 have hs : ∀ u ∈ B.us, okSplit u.2 := by
  intro u hu
  have : u.2 ∈ B.us.map (·.2) := List.mem_map_of_mem hu
  rw [← h.us] at this
  obtain ⟨v, hv, e⟩ := List.mem_map.1 this
  rw [← e]; exact m4 v hv
 rw [h.len, h.marks] at m5
 rw [h.parts] at m2; rw [h.marks] at m3; rw [h.map] at m6; rw [h.red] at m7; rw [h.comb] at m8; rw [h.chunk] at m9; rw [h.window] at m10; rw [h.fuel] at m11
 exact ⟨by rw [← h.len]; exact m1, m2, m3, hs, m5, m6, m7, m8, m9, m10, m11⟩
theorem SameJ.ok (k : OkJ A) : OkJ B := ⟨h.may k.may, by have := k.map; rwa [h.map] at this, by have := k.comb; rwa [h.comb] at this, by have := k.red; rwa [h.red] at this⟩
end
structure Cf where
 J : Job
 w : Int
 t : Int
 o : Int
def mayC (C : Cf) : Prop := mayJ C.J ∧ (1 ≤ C.w ∧ C.w ≤ 4) ∧ (1 ≤ C.t ∧ C.t ≤ 3) ∧ 1 ≤ C.o ∧ C.o ≤ 50
instance mayCD (C : Cf) : Decidable (mayC C) := by unfold mayC; infer_instance
structure SameC (A B : Cf) : Prop where
 J : SameJ A.J B.J
 w : A.w = B.w
 t : A.t = B.t
 o : A.o = B.o
theorem SameC.refl (A : Cf) : SameC A A := ⟨SameJ.refl _, rfl, rfl, rfl⟩
theorem SameC.symm {A B : Cf} (h : SameC A B) : SameC B A := ⟨h.J.symm, h.w.symm, h.t.symm, h.o.symm⟩
theorem SameC.trans {A B C : Cf} (h : SameC A B) (k : SameC B C) : SameC A C := ⟨h.J.trans k.J, h.w.trans k.w, h.t.trans k.t, h.o.trans k.o⟩
structure OkC (C : Cf) : Prop where
 may : mayC C
 ok : OkJ C.J
theorem SameC.may {A B : Cf} (h : SameC A B) (m : mayC A) : mayC B := ⟨h.J.may m.1, by rw [← h.w]; exact m.2.1, by rw [← h.t]; exact m.2.2.1, by rw [← h.o]; exact m.2.2.2⟩
theorem OkC.w {C : Cf} (h : OkC C) : 1 ≤ C.w ∧ C.w ≤ 4 := h.may.2.1
theorem OkC.t {C : Cf} (h : OkC C) : 1 ≤ C.t ∧ C.t ≤ 3 := h.may.2.2.1
theorem OkC.o {C : Cf} (h : OkC C) : 1 ≤ C.o ∧ C.o ≤ 50 := h.may.2.2.2
def homeC (C : Cf) (p : Int) : Int := if ¬ mayC C ∨ ¬ (0 ≤ p ∧ p ≤ C.J.parts - 1) then 0 else 1 + p.tmod C.w
/-! ### Records and messages in plain words -/
structure RecP where
 kind : Int
 part : Int
 sp : Int
 att : Int
 why : Int
 set : List Int
 pairs : List Pair
def Rec.p (r : Rec) : RecP := ⟨r.kind, r.part, r.sp, r.att, r.why, r.set, r.pairs⟩
structure Msg where
 kind : Int
 sp : Int
 att : Int
 part : Int
 seq : Int
 next : Int
 ep : Int
 why : Int
 set : List Int
 pairs : List Pair
def msg0 : Msg := ⟨0, 0, 0, 0, 0, 0, 0, 0, [], []⟩
/-! ### Chunks that wait -/
abbrev Stg := List ((Int × Int) × List (List Pair))
def sgOf : Stg → Int → Int → List (List Pair)
 | [], _, _ => []
 | e :: s, a, b => if e.1.1 = a ∧ e.1.2 = b then e.2 else sgOf s a b
def sgAdd : Stg → Int → Int → List Pair → Stg
 | [], a, b, x => [((a, b), [x])]
 | e :: s, a, b, x => if e.1.1 = a ∧ e.1.2 = b then (e.1, e.2 ++ [x]) :: s else e :: sgAdd s a b x
def sgNext (s : Stg) (a b : Int) : Int := ((sgOf s a b).length : Int)
def sgMay (s : Stg) (a b q : Int) : Prop := q = sgNext s a b ∧ (0 ≤ a ∧ a < 6) ∧ (1 ≤ b ∧ b ≤ 3) ∧ q < 40
instance (s : Stg) (a b q : Int) : Decidable (sgMay s a b q) := by unfold sgMay; infer_instance
def sgPut (s : Stg) (a b q : Int) (x : List Pair) : Stg := if sgMay s a b q then sgAdd s a b x else s
def sgTake (s : Stg) (a b n : Int) : Option (List Pair) := if n < 0 ∨ sgNext s a b ≠ n then none else some (sgOf s a b).flatten
def sgDrop (s : Stg) (a : Int) : Stg := s.filter fun e => decide (e.1.1 ≠ a)
/-! ### A reducer -/
structure SpD where
 merged : Bool
 pairs : List Pair
 told : Bool
 att : Int
 cnt : Int
def spD0 : SpD := ⟨false, [], false, 0, 0⟩
def setD {α : Type} (g : Nat → α) (k : Nat) (v : α) : Nat → α := fun j => if j = k then v else g j
theorem setD_self {α : Type} (g : Nat → α) (k : Nat) (v : α) : setD g k v k = v := if_pos rfl
theorem setD_ne {α : Type} (g : Nat → α) {k j : Nat} (v : α) (h : j ≠ k) : setD g k v j = g j := if_neg h
structure Red where
 part : Int
 ep : Int
 g : Nat → SpD
 st : Stg
 sets : List (List Int)
def red0 (part ep : Int) : Red := ⟨part, ep, fun _ => spD0, [], []⟩
def recIn (n : Nat) (R : Red) (x : RecP) : Red :=
 if x.part ≠ R.part then R else
 let R1 : Red := if x.kind = 4 ∧ (0 ≤ x.sp ∧ x.sp < n) ∧ (R.g x.sp.toNat).merged = false then { R with g := setD R.g x.sp.toNat { R.g x.sp.toNat with merged := true, pairs := x.pairs } } else R
 if x.kind = 5 then { R1 with sets := R1.sets ++ [x.set] } else R1
def newR (n : Nat) (part ep : Int) (rs : List RecP) : Red := rs.foldl (recIn n) (red0 part ep)
def mergedL (n : Nat) (R : Red) : List Int := ((List.range n).filter fun i => (R.g i).merged).map fun (i : Nat) => (i : Int)
def runsOf (n : Nat) (R : Red) (set : List Int) : List Pair := ((List.range n).filter fun i => (R.g i).merged && decide ((i : Int) ∈ set)).flatMap fun i => (R.g i).pairs
def ofR (D : Dig) (J : Job) (R : Red) (set : List Int) : List Pair × Int := eachM D J.red (srt (runsOf J.us.length R set)) J.fuel false
def outR (D : Dig) (J : Job) (R : Red) : List Pair × Int × Bool :=
 if (mergedL J.us.length R).length < J.us.length then ([], 0, false) else ((ofR D J R (mergedL J.us.length R)).1, (ofR D J R (mergedL J.us.length R)).2, true)
theorem merged_len (n : Nat) (R : Red) : (mergedL n R).length ≤ n := by
 unfold mergedL
 rw [List.length_map]
 exact Nat.le_trans (List.length_filter_le _ _) (by simp)
theorem merged_succ (n : Nat) (R : Red) : mergedL (n + 1) R = mergedL n R ++ (if (R.g n).merged then [(n : Int)] else []) := by
 unfold mergedL
 rw [List.range_succ, List.filter_append, List.map_append]
 cases h : (R.g n).merged <;> simp [h]
theorem runs_succ (n : Nat) (R : Red) (set : List Int) : runsOf (n + 1) R set = runsOf n R set ++ (if (R.g n).merged = true ∧ (n : Int) ∈ set then (R.g n).pairs else []) := by
 unfold runsOf
 rw [List.range_succ, List.filter_append, List.flatMap_append]
 by_cases h : (R.g n).merged = true ∧ (n : Int) ∈ set
 ·rw [if_pos h]; simp [h.1, h.2]
 ·rw [if_neg h]
  have : ((R.g n).merged && decide ((n : Int) ∈ set)) = false := by
   cases h1 : (R.g n).merged
   ·rfl
   ·simpa using fun h2 => h ⟨h1, h2⟩
  simp [this]
theorem newR_snoc (n : Nat) (part ep : Int) (rs : List RecP) (x : RecP) : newR n part ep (rs ++ [x]) = recIn n (newR n part ep rs) x := by
 unfold newR; rw [List.foldl_append]; rfl
theorem recIn_part (n : Nat) (R : Red) (x : RecP) : (recIn n R x).part = R.part ∧ (recIn n R x).ep = R.ep ∧ (recIn n R x).st = R.st := by
 unfold recIn
 dsimp only
 split
 ·exact ⟨rfl, rfl, rfl⟩
 ·split <;> (split <;> exact ⟨rfl, rfl, rfl⟩)
theorem newR_part (n : Nat) (part ep : Int) (rs : List RecP) : (newR n part ep rs).part = part ∧ (newR n part ep rs).ep = ep ∧ (newR n part ep rs).st = [] := by
 have : ∀ (rs : List RecP) (R : Red), (rs.foldl (recIn n) R).part = R.part ∧ (rs.foldl (recIn n) R).ep = R.ep ∧ (rs.foldl (recIn n) R).st = R.st := by
  intro rs
  induction rs with
  | nil => exact fun R => ⟨rfl, rfl, rfl⟩
  | cons x rs ih =>
   intro R
   obtain ⟨h1, h2, h3⟩ := ih (recIn n R x)
   obtain ⟨g1, g2, g3⟩ := recIn_part n R x
   exact ⟨h1.trans g1, h2.trans g2, h3.trans g3⟩
 exact this rs (red0 part ep)
/-! ### What a part knows when it begins -/
def hitR (p : Int) (s : Nat) (x : RecP) : Bool := decide (x.part = p) && decide (x.kind = 4) && decide (x.sp = (s : Int))
theorem hitR_iff {p : Int} {s : Nat} {x : RecP} : hitR p s x = true ↔ x.part = p ∧ x.kind = 4 ∧ x.sp = (s : Int) := by
 unfold hitR
 rw [Bool.and_eq_true, Bool.and_eq_true, decide_eq_true_eq, decide_eq_true_eq, decide_eq_true_eq, and_assoc]
theorem recIn_g (n : Nat) (R : Red) (x : RecP) (s : Nat) (hs : s < n) : (recIn n R x).g s = if hitR R.part s x = true ∧ (R.g s).merged = false then { R.g s with merged := true, pairs := x.pairs } else R.g s := by
 have key : ∀ (R1 : Red) (b : Prop) [Decidable b], (if b then { R1 with sets := R1.sets ++ [x.set] } else R1).g s = R1.g s := by
  intro R1 b _
  split <;> rfl
 unfold recIn
 dsimp only
 by_cases hp : x.part ≠ R.part
 ·rw [if_pos hp, if_neg]
  intro h
  exact hp (hitR_iff.1 h.1).1
 ·rw [if_neg hp, key]
  by_cases hk : x.kind = 4 ∧ (0 ≤ x.sp ∧ x.sp < n) ∧ (R.g x.sp.toNat).merged = false
  ·rw [if_pos hk]
   by_cases hsx : x.sp.toNat = s
   ·subst hsx
    rw [if_pos ⟨hitR_iff.2 ⟨Classical.not_not.1 hp, hk.1, by omega⟩, hk.2.2⟩]
    exact setD_self _ _ _
   ·rw [if_neg]
    ·exact setD_ne _ _ (Ne.symm hsx)
    ·intro h
     have := (hitR_iff.1 h.1).2.2
     omega
  ·rw [if_neg hk, if_neg]
   intro h
   obtain ⟨h1, h2, h3⟩ := hitR_iff.1 h.1
   exact hk ⟨h2, ⟨by omega, by omega⟩, by rw [h3]; exact h.2⟩
theorem newR_find (n : Nat) (p ep : Int) (s : Nat) (hs : s < n) (rs : List RecP) : (newR n p ep rs).g s = match rs.find? (hitR p s) with
  | some x => ⟨true, x.pairs, false, 0, 0⟩
  | none => spD0 := by
 have : ∀ rs : List RecP, (newR n p ep rs.reverse).g s = match rs.reverse.find? (hitR p s) with
   | some x => ⟨true, x.pairs, false, 0, 0⟩
   | none => spD0 := by
  intro rs
  induction rs with
  | nil => rfl
  | cons x rs ih =>
   rw [List.reverse_cons, newR_snoc, recIn_g _ _ _ _ hs, (newR_part n p ep _).1, List.find?_append, ih]
   cases hf : rs.reverse.find? (hitR p s) with
   | some y => simp
   | none =>
    cases hx : hitR p s x with
    | true => simp [hx, spD0]
    | false => simp [hx]
 have h := this rs.reverse
 rwa [List.reverse_reverse] at h
/-! ### Records of all splits, in whatever order -/
/-! ### What it hears, what it tells -/
def looksR (J : Job) (R : Red) (n : Nat) : Red × List RecP :=
 if (R.g n).told = false then (R, []) else
 match sgTake R.st n (R.g n).att (R.g n).cnt with
 | none => (R, [])
 | some ps =>
  if 40 < ps.length then (R, []) else
  let R1 : Red := { R with g := setD R.g n { R.g n with merged := true, pairs := ps }, st := sgDrop R.st n }
  let l := mergedL J.us.length R1
  if (l.length : Int) ∈ J.marks then ({ R1 with sets := R1.sets ++ [l] }, [⟨4, R.part, n, (R.g n).att, 0, [], ps⟩, ⟨5, R.part, 0, 0, 0, l, []⟩])
  else (R1, [⟨4, R.part, n, (R.g n).att, 0, [], ps⟩])
def pushNo (J : Job) (R : Red) (m : Msg) : Prop := ¬ (0 ≤ m.sp ∧ m.sp < J.us.length) ∨ m.kind ≠ 2 ∨ m.part ≠ R.part
instance (J : Job) (R : Red) (m : Msg) : Decidable (pushNo J R m) := by unfold pushNo; infer_instance
def pushTakes (R : Red) (m : Msg) : Prop := (R.g m.sp.toNat).merged = false ∧ m.pairs.length ≤ 8 ∧ mayL m.pairs
instance (R : Red) (m : Msg) : Decidable (pushTakes R m) := by unfold pushTakes; infer_instance
def pushS (J : Job) (R : Red) (m : Msg) : Red × List RecP :=
 if pushTakes R m then looksR J { R with st := sgPut R.st m.sp m.att m.seq m.pairs } m.sp.toNat else (R, [])
def ackR (R : Red) (m : Msg) : Msg :=
 ⟨3, m.sp, m.att, R.part, 0, if (R.g m.sp.toNat).merged = true then 40 else sgNext R.st m.sp m.att, R.ep, 0, [], []⟩
def pushR (J : Job) (R : Red) (m : Msg) : Red × Msg × List RecP :=
 if pushNo J R m then (R, msg0, []) else ((pushS J R m).1, ackR (pushS J R m).1 m, (pushS J R m).2)
def wonNo (J : Job) (t : Int) (R : Red) (sp att : Int) : Prop := ¬ (0 ≤ sp ∧ sp < J.us.length) ∨ (R.g sp.toNat).merged = true ∨ (R.g sp.toNat).told = true ∨ att < 1 ∨ t < att
instance (J : Job) (t : Int) (R : Red) (sp att : Int) : Decidable (wonNo J t R sp att) := by unfold wonNo; infer_instance
structure SnapP where
 set : List Int
 why : Int
 pairs : List Pair
section
variable {w0 w : World} {F0 : Foot} {As Bs Rs : List SP} {A B : SP}
theorem Hd.exI {α : Sort _} {A : α → SP} (a : α) (h : Hd w0 F0 w (A a :: As) Rs) : Hd w0 F0 w (ex A :: As) Rs := h.turn fun _ ha => ⟨a, ha⟩
theorem Hd.stA (h : Hd w0 F0 w (star Bs :: As) Rs) : Hd w0 F0 w (Bs ++ As) Rs := h.open_ fun _ h => h
theorem Hd.stI (h : Hd w0 F0 w (Bs ++ As) Rs) : Hd w0 F0 w (star Bs :: As) Rs := h.shut fun _ h => h
theorem Hd.puI {p : Prop} (hp : p) (h : Hd w0 F0 w As Rs) : Hd w0 F0 w (pure_ p :: As) Rs := h.shut (Bs := []) fun _ _ => hp
def bigS {α : Type} (f : α → SP) (l : List α) : SP := star (l.map f)
theorem Hd.big0 {α : Type} (f : α → SP) (h : Hd w0 F0 w As Rs) : Hd w0 F0 w (bigS f [] :: As) Rs := h.shut (Bs := []) fun _ _ => trivial
theorem erase_perm {α : Type} : ∀ (l : List α) (i : Nat) {x : α}, l[i]? = some x → l.Perm (x :: l.eraseIdx i)
 | [], _, _, h => by simp at h
 | y :: l, 0, x, h => by
  obtain rfl : y = x := by simpa using h
  exact List.Perm.refl _
 | y :: l, i + 1, x, h => ((erase_perm l i (by simpa using h)).cons y).trans (List.Perm.swap _ _ _)
theorem Hd.bigO {α : Type} {f : α → SP} {l : List α} {x : α} (i : Nat) (hx : l[i]? = some x) (h : Hd w0 F0 w (bigS f l :: As) Rs) : Hd w0 F0 w (f x :: bigS f (l.eraseIdx i) :: As) Rs := by
 have h1 := h.stA.perm (((erase_perm l i hx).map f).append_right As)
 have h2 : Hd w0 F0 w (((l.eraseIdx i).map f ++ As) ++ [f x]) Rs := h1.perm (by rw [List.map_cons, List.cons_append]; exact (List.perm_append_comm (l₁ := [f x])))
 have h3 : Hd w0 F0 w ((l.eraseIdx i).map f ++ (As ++ [f x])) Rs := by rw [← List.append_assoc]; exact h2
 exact (show Hd w0 F0 w (bigS f (l.eraseIdx i) :: (As ++ [f x])) Rs from h3.stI).perm (List.perm_append_comm (l₁ := bigS f (l.eraseIdx i) :: As) (l₂ := [f x]))
theorem Hd.bigI {α : Type} {f : α → SP} {l : List α} {x : α} (i : Nat) (hi : i < l.length) (h : Hd w0 F0 w (f x :: bigS f (l.eraseIdx i) :: As) Rs) : Hd w0 F0 w (bigS f (l.set i x) :: As) Rs := by
 have h1 : Hd w0 F0 w (bigS f (l.eraseIdx i) :: (As ++ [f x])) Rs := h.perm (List.perm_append_comm (l₁ := [f x]) (l₂ := bigS f (l.eraseIdx i) :: As))
 have h2 : Hd w0 F0 w ((l.eraseIdx i).map f ++ As ++ [f x]) Rs := by rw [List.append_assoc]; exact h1.stA
 have h3 : Hd w0 F0 w ((x :: l.eraseIdx i).map f ++ As) Rs := h2.perm (List.perm_append_comm (l₁ := (l.eraseIdx i).map f ++ As) (l₂ := [f x]))
 have hp : (l.set i x).Perm (x :: l.eraseIdx i) := by
  have := erase_perm (l.set i x) i (x := x) (by rw [List.getElem?_set_self hi])
  rwa [List.eraseIdx_set_eq] at this
 exact (h3.perm ((hp.symm.map f).append_right As)).stI
theorem Hd.bigN {α : Type} {f : α → SP} {l : List α} {x : α} (h : Hd w0 F0 w (f x :: bigS f l :: As) Rs) : Hd w0 F0 w (bigS f (l ++ [x]) :: As) Rs := by
 have h1 : Hd w0 F0 w (bigS f l :: (As ++ [f x])) Rs := h.perm (List.perm_append_comm (l₁ := [f x]) (l₂ := bigS f l :: As))
 have h2 : Hd w0 F0 w (l.map f ++ As ++ [f x]) Rs := by rw [List.append_assoc]; exact h1.stA
 have h3 : Hd w0 F0 w ((x :: l).map f ++ As) Rs := h2.perm (List.perm_append_comm (l₁ := l.map f ++ As) (l₂ := [f x]))
 exact (h3.perm (((List.perm_append_comm (l₁ := [x]) (l₂ := l)).map f).append_right As)).stI
end
def redC (vS vM vC vR vK : Value) (J : Job) (w t o part ep : Int) (g : Nat → SpD) (hv : Nat → Value) (sb : Nat) (vs : Value) : List Value :=
 [vS, .int .i64 J.parts, vM, vC, vR, .int .i64 J.chunk, .int .i64 J.window, .int .i64 J.fuel, vK, .int .i64 w, .int .i64 t, .int .i64 o, .int .i64 part, .int .i64 ep,
  .bool (g 0).merged, hv 0, .bool (g 0).told, .int .i64 (g 0).att, .int .i64 (g 0).cnt,
  .bool (g 1).merged, hv 1, .bool (g 1).told, .int .i64 (g 1).att, .int .i64 (g 1).cnt,
  .bool (g 2).merged, hv 2, .bool (g 2).told, .int .i64 (g 2).att, .int .i64 (g 2).cnt,
  .bool (g 3).merged, hv 3, .bool (g 3).told, .int .i64 (g 3).att, .int .i64 (g 3).cnt,
  .bool (g 4).merged, hv 4, .bool (g 4).told, .int .i64 (g 4).att, .int .i64 (g 4).cnt,
  .bool (g 5).merged, hv 5, .bool (g 5).told, .int .i64 (g 5).att, .int .i64 (g 5).cnt,
  .pointer (some ⟨sb, 0, none⟩), vs]
section
variable {vS vM vC vR vK vs : Value} {J : Job} {w t o part ep : Int} {g : Nat → SpD} {hv : Nat → Value} {sb j : Nat}
theorem redC_at0 (h : j < 6) : (redC vS vM vC vR vK J w t o part ep g hv sb vs)[14 + j * 5 + 0]? = some (.bool (g j).merged) := by
 match j, h with
 | 0, _ => rfl
 | 1, _ => rfl
 | 2, _ => rfl
 | 3, _ => rfl
 | 4, _ => rfl
 | 5, _ => rfl
theorem redC_at1 (h : j < 6) : (redC vS vM vC vR vK J w t o part ep g hv sb vs)[14 + j * 5 + 1]? = some (hv j) := by
 match j, h with
 | 0, _ => rfl
 | 1, _ => rfl
 | 2, _ => rfl
 | 3, _ => rfl
 | 4, _ => rfl
 | 5, _ => rfl
theorem redC_put0 (h : j < 6) (b : Bool) : puts (redC vS vM vC vR vK J w t o part ep g hv sb vs) (14 + j * 5 + 0) [.bool b] = redC vS vM vC vR vK J w t o part ep (setD g j { g j with merged := b }) (hv) sb vs := by
 match j, h with
 | 0, _ => rfl
 | 1, _ => rfl
 | 2, _ => rfl
 | 3, _ => rfl
 | 4, _ => rfl
 | 5, _ => rfl
theorem redC_put1 (h : j < 6) (v : Value) : puts (redC vS vM vC vR vK J w t o part ep g hv sb vs) (14 + j * 5 + 1) [v] = redC vS vM vC vR vK J w t o part ep (g) (setD hv j v) sb vs := by
 match j, h with
 | 0, _ => rfl
 | 1, _ => rfl
 | 2, _ => rfl
 | 3, _ => rfl
 | 4, _ => rfl
 | 5, _ => rfl
end
def prsF (g : Nat → SpD) (hv : Nat → Value) : Nat → SP := fun i => osl kPair (hv i) (g i).pairs
def prsS (g : Nat → SpD) (hv : Nat → Value) : SP := bigS (prsF g hv) (List.range 6)
def prsX (g : Nat → SpD) (hv : Nat → Value) (i : Nat) : SP := bigS (prsF g hv) ((List.range 6).eraseIdx i)
theorem range_at {n i : Nat} (h : i < n) : (List.range n)[i]? = some i := by simp [h]
theorem big_eq {α : Type} {f f' : α → SP} {l : List α} (h : ∀ x ∈ l, f x = f' x) : bigS f l = bigS f' l := by
 unfold bigS; rw [List.map_congr_left h]
theorem erase_ne {n i j : Nat} (hi : i < n) (h : j ∈ (List.range n).eraseIdx i) : j ≠ i := by
 intro e
 subst e
 have hn : ((List.range n).eraseIdx j).Nodup := (List.nodup_range (n := n)).sublist (List.eraseIdx_sublist _ _)
 have hp := erase_perm (List.range n) j (range_at hi)
 have := hp.nodup_iff.1 List.nodup_range
 exact (List.nodup_cons.1 this).1 h
theorem big_rd {α : Type} {f : α → SP} {l : List α} {w : World} {F : Foot} (h : (bigS f l).P w F) {x : α} (hx : x ∈ l) : (f x).P w F := Star.mem h (List.mem_map_of_mem hx)
section
variable {w0 w : World} {F0 : Foot} {As Rs : List SP} {g : Nat → SpD} {hv : Nat → Value} {i : Nat}
theorem Hd.prsO (hi : i < 6) (H : Hd w0 F0 w (prsS g hv :: As) Rs) : Hd w0 F0 w (osl kPair (hv i) (g i).pairs :: prsX g hv i :: As) Rs := H.bigO (f := prsF g hv) i (range_at hi)
theorem Hd.bigGI {f f' : Nat → SP} {n : Nat} (hi : i < n) (he : ∀ j, j ≠ i → f j = f' j) (H : Hd w0 F0 w (f' i :: bigS f ((List.range n).eraseIdx i) :: As) Rs) : Hd w0 F0 w (bigS f' (List.range n) :: As) Rs := by
 rw [big_eq fun j hj => he j (erase_ne hi hj)] at H
 have := H.bigI (f := f') i (by simpa using hi)
 rwa [show (List.range n).set i i = List.range n from ?_] at this
 apply List.ext_getElem? 
 intro k
 rw [List.getElem?_set]
 split
 ·rename_i e; subst e; simp [hi]
 ·rfl
theorem Hd.prsI (hi : i < 6) {x : SpD} {v : Value} (H : Hd w0 F0 w (osl kPair v x.pairs :: prsX g hv i :: As) Rs) : Hd w0 F0 w (prsS (setD g i x) (setD hv i v) :: As) Rs := by
 refine Hd.bigGI (f := prsF g hv) (f' := prsF (setD g i x) (setD hv i v)) hi (fun j hj => ?_) ?_
 ·unfold prsF; rw [setD_ne g x hj, setD_ne hv v hj]
 ·show Hd w0 F0 w (osl kPair (setD hv i v i) (setD g i x i).pairs :: prsX g hv i :: As) Rs
  rw [setD_self, setD_self]; exact H
theorem prs_rd {F : Foot} (hi : i < 6) (h : (prsS g hv).P w F) : (rsl kPair (hv i) (g i).pairs).P w F := own_rd F (big_rd h (x := i) (List.mem_range.2 hi))
theorem prs_nil : ∀ {w : World} {F : Foot}, (prsS (fun _ => spD0) (fun _ => .slice none 0 0)).P w F := by
 intro w F
 have : ∀ l : List Nat, Star (l.map (prsF (fun _ => spD0) (fun _ => .slice none 0 0))) w F := by
  intro l
  induction l with
  | nil => trivial
  | cons a l ih => exact ⟨none_, F, fun _ h => h.elim, fun _ h => h, fun _ h => h.elim, osl_nil kPair w none_ trivial, ih⟩
 exact this _
theorem Hd.prsN (H : Hd w0 F0 w As Rs) : Hd w0 F0 w (prsS (fun _ => spD0) (fun _ => .slice none 0 0) :: As) Rs := H.shut (Bs := []) fun _ _ => prs_nil
theorem hd_of_hdr {α : Type} {d : Kd α} {F : Foot} {v : Value} {us : List (Value × List α)} (h : (rsl kHdr v (us.map fun u => hdrOf u.1)).P w F) (hu : ∀ p ∈ us, (rsl d p.1 p.2).P w F) : (rsl (kHd d) v us).P w F := by
 obtain ⟨A, m, c, e, h1, h2, h3, cs, h4, h5⟩ := h
 refine ⟨A, m, c, e, by simpa using h1, h2, h3, cs, h4, ?_⟩
 have hcs : cs = (us.map fun u => hdrOf u.1).flatMap encHdr := RepsR.flat_eq.1 h5
 have : (us.map fun u => hdrOf u.1).flatMap encHdr = us.map (·.1) := by
  clear h5 hcs h1
  induction us with
  | nil => rfl
  | cons p us ih =>
   obtain ⟨A, c, e, _⟩ := rsl_form (hu p (List.mem_cons_self ..))
   rw [List.map_cons, List.flatMap_cons, ih fun q hq => hu q (List.mem_cons_of_mem _ hq), List.map_cons, e]
   rfl
 rw [hcs, this]
 exact reps_hd hu
end
/-! ### A row of headers held, and each slice held: a slice of slices held -/
section
variable {α : Type} {d : Kd α} {w0 w : World} {F F0 : Foot} {As Rs : List SP} {v : Value} {us : List (Value × List α)}
def hdr1 (us : List (Value × List α)) : List Hdr := us.map fun u => hdrOf u.1
def inS (d : Kd α) (us : List (Value × List α)) : SP := bigS (fun u : Value × List α => osl d u.1 u.2) us
theorem reps_in : ∀ {us : List (Value × List α)} {F : Foot}, (inS d us).P w F → RepsO (kHd d) w F us (us.map (·.1))
 | [], _, _ => rfl
 | u :: us, F, ⟨F1, F2, h1, h2, h3, a, s⟩ => ⟨F1, F2, [u.1], us.map (·.1), h1, h2, h3, rfl, ⟨rfl, a⟩, reps_in (us := us) s⟩
theorem hdr_cells (h : ∀ u ∈ us, ∃ A n c, u.1 = .slice A n c) : (hdr1 us).flatMap encHdr = us.map (·.1) := by
 unfold hdr1
 induction us with
 | nil => rfl
 | cons p us ih =>
  obtain ⟨A, n, c, e⟩ := h p (List.mem_cons_self ..)
  rw [List.map_cons, List.flatMap_cons, ih fun q hq => h q (List.mem_cons_of_mem _ hq), List.map_cons, e]
  rfl
theorem in_form {w : World} {F : Foot} (h : (inS d us).P w F) : ∀ u ∈ us, ∃ A n c, u.1 = .slice A n c := fun u hu => by
 obtain ⟨A, c, e, _⟩ := rsl_form (own_rd F (big_rd h hu))
 exact ⟨A, _, c, e⟩
theorem Hd.hdI (H : Hd w0 F0 w (osl kHdr v (hdr1 us) :: inS d us :: As) Rs) : Hd w0 F0 w (osl (kHd d) v us :: As) Rs := by
 refine H.turn2 fun F1 F2 hd h1 h2 => ?_
 obtain ⟨A, n, c, e, hl, cs, G1, G2, s1, s2, dj, row, reps⟩ := h1
 have hcs : cs = us.map (·.1) := (RepsR.flat_eq.1 reps.toR).trans (hdr_cells (in_form h2))
 subst hcs
 exact ⟨A, n, c, e, by simpa [hdr1] using hl, _, G1, F2, fun k hk => .inl (s1 k hk), fun k hk => .inr hk, fun k hk hg => hd k (s1 k hk) hg, row, reps_in h2⟩
theorem hdr_rd {F : Foot} (h : (rsl (kHd d) v us).P w F) : (rsl kHdr v (hdr1 us)).P w F := by
 obtain ⟨A, m, c, e, h1, h2, h3, cs, h4, h5⟩ := h
 refine ⟨A, m, c, e, by simpa [hdr1] using h1, h2, h3, cs, h4, RepsR.flat_eq.2 ?_⟩
 have hall := hd_all h5
 have : ∀ {us : List (Value × List α)} {cs : List Value}, RepsR (kHd d) w F us cs → cs = us.map (·.1) := by
  intro us
  induction us with
  | nil => intro cs h; exact h
  | cons u us ih => rintro cs ⟨c, cs', e, h1, h2⟩; rw [e, h1.1, ih h2]; rfl
 rw [this h5]
 exact (hdr_cells fun u hu => by
  obtain ⟨A, c, e, _⟩ := rsl_form (hall u hu)
  exact ⟨A, _, c, e⟩).symm
end
/-! ### Told anew -/
section
variable {w0 w : World} {F0 : Foot} {As Rs : List SP} {g g' : Nat → SpD} {hv : Nat → Value} {i : Nat}
theorem redC_congr {vS vM vC vR vK vs : Value} {J : Job} {w t o part ep : Int} {sb : Nat} (h : ∀ i, (g' i).merged = (g i).merged ∧ (g' i).told = (g i).told ∧ (g' i).att = (g i).att ∧ (g' i).cnt = (g i).cnt) :
  redC vS vM vC vR vK J w t o part ep g hv sb vs = redC vS vM vC vR vK J w t o part ep g' hv sb vs := by
 unfold redC
 rw [(h 0).1, (h 0).2.1, (h 0).2.2.1, (h 0).2.2.2, (h 1).1, (h 1).2.1, (h 1).2.2.1, (h 1).2.2.2, (h 2).1, (h 2).2.1, (h 2).2.2.1, (h 2).2.2.2, (h 3).1, (h 3).2.1, (h 3).2.2.1, (h 3).2.2.2, (h 4).1, (h 4).2.1, (h 4).2.2.1, (h 4).2.2.2, (h 5).1, (h 5).2.1, (h 5).2.2.1, (h 5).2.2.2]
theorem Hd.prsU (hi : i < 6) {x : SpD} {v : Value} (H : Hd w0 F0 w (osl kPair v x.pairs :: prsS g hv :: As) Rs) : Hd w0 F0 w (prsS (setD g i x) (setD hv i v) :: As) Rs := by
 have h1 := (H.perm (List.Perm.swap _ _ _)).prsO hi
 exact Hd.prsI hi ((h1.drop.perm (List.Perm.swap _ _ _)))
def pick (g : Nat → SpD) (set : List Int) (n : Nat) : List Nat := (List.range n).filter fun i => (g i).merged && decide ((i : Int) ∈ set)
def pickU (g : Nat → SpD) (hv : Nat → Value) (set : List Int) (n : Nat) : List (Value × List Pair) := (pick g set n).map fun i => (hv i, (g i).pairs)
theorem pickU_succ (g : Nat → SpD) (hv : Nat → Value) (set : List Int) (n : Nat) : pickU g hv set (n + 1) = pickU g hv set n ++ (if (g n).merged = true ∧ (n : Int) ∈ set then [(hv n, (g n).pairs)] else []) := by
 unfold pickU pick
 rw [List.range_succ, List.filter_append, List.map_append]
 by_cases h : (g n).merged = true ∧ (n : Int) ∈ set
 ·rw [if_pos h]; simp [h.1, h.2]
 ·rw [if_neg h]
  have : ((g n).merged && decide ((n : Int) ∈ set)) = false := by
   cases h1 : (g n).merged
   ·rfl
   ·simpa using fun h2 => h ⟨h1, h2⟩
  simp [this]
theorem pickU_flat (R : Red) (hv : Nat → Value) (set : List Int) (n : Nat) : flat2 (pickU R.g hv set n) = runsOf n R set := by
 unfold flat2 pickU runsOf pick
 rw [List.flatMap_map]
theorem pickU_len (g : Nat → SpD) (hv : Nat → Value) (set : List Int) (n : Nat) : (pickU g hv set n).length ≤ n := by
 unfold pickU pick
 rw [List.length_map]
 exact Nat.le_trans (List.length_filter_le _ _) (by simp)
theorem pickU_rd {F : Foot} {set : List Int} {n : Nat} (hn : n ≤ 6) (h : (prsS g hv).P w F) : ∀ p ∈ pickU g hv set n, (rsl kPair p.1 p.2).P w F := by
 intro p hp
 obtain ⟨j, hj, rfl⟩ := List.mem_map.1 hp
 have := List.mem_range.1 (List.mem_filter.1 hj).1
 exact prs_rd (by omega) h
theorem runs_bound {R : Red} {set : List Int} {b : Nat} (h : ∀ i, (R.g i).pairs.length ≤ b) : ∀ n, (runsOf n R set).length ≤ n * b
 | 0 => Nat.zero_le _
 | n + 1 => by
  have ih := runs_bound (set := set) h n
  have := h n
  rw [runs_succ, List.length_append, Nat.succ_mul]
  split
  ·omega
  ·simp only [List.length_nil]; omega
end
theorem Hd.prsFormR {w0 w : World} {F0 : Foot} {As Rs : List SP} {g : Nat → SpD} {hv : Nat → Value} {i : Nat} (j : Nat) (hj : Rs[j]? = some (prsS g hv)) (hi : i < 6) (H : Hd w0 F0 w As Rs) : ∃ A c, hv i = .slice A (g i).pairs.length c ∧ (g i).pairs.length ≤ c ∧ c ≤ 9223372036854775807 ∧ Plain A :=
 H.factR (List.mem_of_getElem? hj) fun F h => rsl_form (prs_rd hi h)
theorem recIn_skip {n : Nat} {N : Red} {x : RecP} (h1 : x.part ≠ N.part) : recIn n N x = N := if_pos h1
theorem recIn_no {n : Nat} {N : Red} {x : RecP} (h1 : x.part = N.part) (h4 : ¬ (x.kind = 4 ∧ (0 ≤ x.sp ∧ x.sp < n) ∧ (N.g x.sp.toNat).merged = false)) (h5 : x.kind ≠ 5) : recIn n N x = N := by
 unfold recIn
 dsimp only
 rw [if_neg (fun h => h h1), if_neg h5, if_neg h4]
theorem recIn_m {n : Nat} {N : Red} {x : RecP} (h1 : x.part = N.part) (h4 : x.kind = 4) (hr : 0 ≤ x.sp ∧ x.sp < n) (hm : (N.g x.sp.toNat).merged = false) : recIn n N x = { N with g := setD N.g x.sp.toNat { N.g x.sp.toNat with merged := true, pairs := x.pairs } } := by
 unfold recIn
 dsimp only
 rw [if_neg (fun h => h h1), if_neg (show ¬ x.kind = 5 by omega), if_pos ⟨h4, hr, hm⟩]
theorem recIn_s {n : Nat} {N : Red} {x : RecP} (h1 : x.part = N.part) (h5 : x.kind = 5) : recIn n N x = { N with sets := N.sets ++ [x.set] } := by
 unfold recIn
 dsimp only
 rw [if_neg (fun h => h h1), if_pos h5, if_neg (fun h => by have := h.1; omega)]
theorem newR_take {n : Nat} {p ep : Int} {recs : List Rec} {k : Nat} {x : Rec} {R R2 : Red} (hR : R = newR n p ep ((recs.take k).map Rec.p)) (hx : recs[k]? = some x) (e : recIn n R x.p = R2) : R2 = newR n p ep ((recs.take (k + 1)).map Rec.p) := by
 rw [take_snoc hx, List.map_append]
 show R2 = newR n p ep (_ ++ [x.p])
 rw [newR_snoc, ← hR, e]
theorem newR_pairs {n : Nat} {p ep : Int} {b : Nat} : ∀ {rs : List RecP}, (∀ r ∈ rs, r.pairs.length ≤ b) → ∀ i, ((newR n p ep rs).g i).pairs.length ≤ b := by
 have : ∀ (rs : List RecP) (R : Red), (∀ r ∈ rs, r.pairs.length ≤ b) → (∀ i, (R.g i).pairs.length ≤ b) → ∀ i, ((rs.foldl (recIn n) R).g i).pairs.length ≤ b := by
  intro rs
  induction rs with
  | nil => intro R _ h; exact h
  | cons x rs ih =>
   intro R hr h
   refine ih (recIn n R x) (fun r hr2 => hr r (List.mem_cons_of_mem _ hr2)) fun i => ?_
   have hx := hr x (List.mem_cons_self ..)
   have key : ∀ (R1 : Red) (c : Prop) [Decidable c], (if c then { R1 with sets := R1.sets ++ [x.set] } else R1).g = R1.g := by
    intro R1 c _
    split <;> rfl
   unfold recIn
   dsimp only
   split
   ·exact h i
   ·rw [key]
    split
    ·dsimp only
     by_cases e : i = x.sp.toNat
     ·subst e; rw [setD_self]; exact hx
     ·rw [setD_ne _ _ e]; exact h i
    ·exact h i
 intro rs hr
 exact this rs (red0 p ep) hr fun i => Nat.zero_le _
theorem tmod_small (p : Int) {w : Int} (hw : 1 ≤ w) : -w < p.tmod w ∧ p.tmod w < w := by
 have h1 := Int.lt_tmod_of_pos p (show (0 : Int) < w by omega)
 have h2 := Int.tmod_lt_of_pos p (show (0 : Int) < w by omega)
 omega
theorem mayC_ok (vS : Value) (vM : Value) (vC : Value) (vR : Value) (vK : Value) (C : Cf) :
    Cn Tryz.prog 19 [.agg #[vS, .int .i64 C.J.parts, vM, vC, vR, .int .i64 C.J.chunk, .int .i64 C.J.window, .int .i64 C.J.fuel, vK, .int .i64 C.w, .int .i64 C.t, .int .i64 C.o]] [] [rsl (kHd kPair) vS C.J.us, rsl kIns vM C.J.map, rsl kIns vC C.J.comb, rsl kIns vR C.J.red, rsl (kInt .i64) vK C.J.marks] (fun v Bs => v = .bool (decide (mayC C)) ∧ Bs = []) := by
 intro w0 F0 H
 obtain ⟨A1, c2, rfl, hc3, hm4, hp5⟩ := H.fR 0 rfl
 obtain ⟨A6, c7, rfl, hc8, hm9, hp10⟩ := H.fR 1 rfl
 obtain ⟨A11, c12, rfl, hc13, hm14, hp15⟩ := H.fR 2 rfl
 obtain ⟨A16, c17, rfl, hc18, hm19, hp20⟩ := H.fR 3 rfl
 obtain ⟨A21, c22, rfl, hc23, hm24, hp25⟩ := H.fR 4 rfl
 refine enter Tryz.func19 rfl rfl (Nat.le_of_ble_eq_true rfl) (c_seq (c_reg (s_box rfl rfl rfl rfl H (fun b26 w H => (s_1 rfl (s_nil (q_then ?_)))))))
 replace H : Hd _ _ _ [blk b26 [.slice A1 C.J.us.length c2, .int .i64 C.J.parts, .slice A6 C.J.map.length c7, .slice A11 C.J.comb.length c12, .slice A16 C.J.red.length c17, .int .i64 C.J.chunk, .int .i64 C.J.window, .int .i64 C.J.fuel, .slice A21 C.J.marks.length c22, .int .i64 C.w, .int .i64 C.t, .int .i64 C.o] 28] [rsl (kHd kPair) (.slice A1 C.J.us.length c2) C.J.us, rsl kIns (.slice A6 C.J.map.length c7) C.J.map, rsl kIns (.slice A11 C.J.comb.length c12) C.J.comb, rsl kIns (.slice A16 C.J.red.length c17) C.J.red, rsl (kInt .i64) (.slice A21 C.J.marks.length c22) C.J.marks] := H
 refine c_seq (c_reg (s_val rfl rfl (r_fa rfl fo28_0 rfl) (s_val rfl rfl (r_ldA (cs := [.slice A1 C.J.us.length c2, .int .i64 C.J.parts, .slice A6 C.J.map.length c7, .slice A11 C.J.comb.length c12, .slice A16 C.J.red.length c17, .int .i64 C.J.chunk, .int .i64 C.J.window, .int .i64 C.J.fuel, .slice A21 C.J.marks.length c22]) rfl ty26 rfl rfl (H.cellsI 0 rfl rfl)) (sc (jmay_ok (.slice A1 C.J.us.length c2) (.slice A6 C.J.map.length c7) (.slice A11 C.J.comb.length c12) (.slice A16 C.J.red.length c17) (.slice A21 C.J.marks.length c22) C.J) H (lR 0 rfl (lR 1 rfl (lR 2 rfl (lR 3 rfl (lR 4 rfl l0))))) rfl rfl (e_fn kn88 rfl rfl) ?_))))
 rintro _ _ w ⟨rfl, rfl⟩ H
 refine s_1 rfl ?_
 refine s_dec (d := 6) rfl (fun h27 => ?_) (fun h27 => ?_)
 ·refine s_val rfl rfl (r_fa rfl fo28_1 rfl) (s_val rfl rfl (r_ld rfl ty3 rfl (H.cellI 0 rfl rfl)) (sc (within_ok C.w 1 4) H l0 rfl rfl (e_fn kn89 rfl rfl) ?_))
  rintro _ _ w ⟨rfl, rfl⟩ H
  refine s_k 2 rfl ?_
  refine s_dec (d := 11) rfl (fun h28 => ?_) (fun h28 => ?_)
  ·refine s_val rfl rfl (r_fa rfl fo28_2 rfl) (s_val rfl rfl (r_ld rfl ty3 rfl (H.cellI 0 rfl rfl)) (sc (within_ok C.t 1 3) H l0 rfl rfl (e_fn kn89 rfl rfl) ?_))
   rintro _ _ w ⟨rfl, rfl⟩ H
   refine s_k 2 rfl ?_
   refine s_dec (d := 16) rfl (fun h29 => ?_) (fun h29 => ?_)
   ·refine s_val rfl rfl (r_fa rfl fo28_3 rfl) (s_val rfl rfl (r_ld rfl ty3 rfl (H.cellI 0 rfl rfl)) (sc (within_ok C.o 1 50) H l0 rfl rfl (e_fn kn89 rfl rfl) ?_))
    rintro _ _ w ⟨rfl, rfl⟩ H
    refine s_k 2 rfl (s_nil (q_then ?_))
    replace H : Hd _ _ _ [blk b26 [.slice A1 C.J.us.length c2, .int .i64 C.J.parts, .slice A6 C.J.map.length c7, .slice A11 C.J.comb.length c12, .slice A16 C.J.red.length c17, .int .i64 C.J.chunk, .int .i64 C.J.window, .int .i64 C.J.fuel, .slice A21 C.J.marks.length c22, .int .i64 C.w, .int .i64 C.t, .int .i64 C.o] 28] [rsl (kHd kPair) (.slice A1 C.J.us.length c2) C.J.us, rsl kIns (.slice A6 C.J.map.length c7) C.J.map, rsl kIns (.slice A11 C.J.comb.length c12) C.J.comb, rsl kIns (.slice A16 C.J.red.length c17) C.J.red, rsl (kInt .i64) (.slice A21 C.J.marks.length c22) C.J.marks] := H
    refine c_ret (q_ret1 rfl rfl ?_)
    replace H := H.nil
    have e : (1 ≤ C.o ∧ C.o ≤ 50) ↔ mayC C := ⟨fun g => ⟨h27, by omega, by omega, by omega⟩, fun g => by have g2 := g.2; omega⟩
    exact fin ⟨congrArg Value.bool (decide_eq_decide.2 e), rfl⟩ H
   refine s_k 5 rfl (s_nil (q_then ?_))
   replace H : Hd _ _ _ [blk b26 [.slice A1 C.J.us.length c2, .int .i64 C.J.parts, .slice A6 C.J.map.length c7, .slice A11 C.J.comb.length c12, .slice A16 C.J.red.length c17, .int .i64 C.J.chunk, .int .i64 C.J.window, .int .i64 C.J.fuel, .slice A21 C.J.marks.length c22, .int .i64 C.w, .int .i64 C.t, .int .i64 C.o] 28] [rsl (kHd kPair) (.slice A1 C.J.us.length c2) C.J.us, rsl kIns (.slice A6 C.J.map.length c7) C.J.map, rsl kIns (.slice A11 C.J.comb.length c12) C.J.comb, rsl kIns (.slice A16 C.J.red.length c17) C.J.red, rsl (kInt .i64) (.slice A21 C.J.marks.length c22) C.J.marks] := H
   refine c_ret (q_ret1 rfl rfl ?_)
   replace H := H.nil
   have e : ¬ mayC C := fun h => by have h1 := h.1; have h2 := h.2; first | exact absurd h1 h27 | omega
   exact fin ⟨congrArg Value.bool (decide_eq_false e).symm, rfl⟩ H
  refine s_k 10 rfl (s_nil (q_then ?_))
  replace H : Hd _ _ _ [blk b26 [.slice A1 C.J.us.length c2, .int .i64 C.J.parts, .slice A6 C.J.map.length c7, .slice A11 C.J.comb.length c12, .slice A16 C.J.red.length c17, .int .i64 C.J.chunk, .int .i64 C.J.window, .int .i64 C.J.fuel, .slice A21 C.J.marks.length c22, .int .i64 C.w, .int .i64 C.t, .int .i64 C.o] 28] [rsl (kHd kPair) (.slice A1 C.J.us.length c2) C.J.us, rsl kIns (.slice A6 C.J.map.length c7) C.J.map, rsl kIns (.slice A11 C.J.comb.length c12) C.J.comb, rsl kIns (.slice A16 C.J.red.length c17) C.J.red, rsl (kInt .i64) (.slice A21 C.J.marks.length c22) C.J.marks] := H
  refine c_ret (q_ret1 rfl rfl ?_)
  replace H := H.nil
  have e : ¬ mayC C := fun h => by have h1 := h.1; have h2 := h.2; first | exact absurd h1 h27 | omega
  exact fin ⟨congrArg Value.bool (decide_eq_false e).symm, rfl⟩ H
 refine s_k 12 rfl (s_k 3 rfl (s_nil (q_then ?_)))
 replace H : Hd _ _ _ [blk b26 [.slice A1 C.J.us.length c2, .int .i64 C.J.parts, .slice A6 C.J.map.length c7, .slice A11 C.J.comb.length c12, .slice A16 C.J.red.length c17, .int .i64 C.J.chunk, .int .i64 C.J.window, .int .i64 C.J.fuel, .slice A21 C.J.marks.length c22, .int .i64 C.w, .int .i64 C.t, .int .i64 C.o] 28] [rsl (kHd kPair) (.slice A1 C.J.us.length c2) C.J.us, rsl kIns (.slice A6 C.J.map.length c7) C.J.map, rsl kIns (.slice A11 C.J.comb.length c12) C.J.comb, rsl kIns (.slice A16 C.J.red.length c17) C.J.red, rsl (kInt .i64) (.slice A21 C.J.marks.length c22) C.J.marks] := H
 refine c_ret (q_ret1 rfl rfl ?_)
 replace H := H.nil
 have e : ¬ mayC C := fun h => by have h1 := h.1; have h2 := h.2; first | exact absurd h1 h27 | omega
 exact fin ⟨congrArg Value.bool (decide_eq_false e).symm, rfl⟩ H
theorem home_ok (vS : Value) (vM : Value) (vC : Value) (vR : Value) (vK : Value) (C : Cf) (p : Int) (hp : In64 p) :
    Cn Tryz.prog 71 [.agg #[vS, .int .i64 C.J.parts, vM, vC, vR, .int .i64 C.J.chunk, .int .i64 C.J.window, .int .i64 C.J.fuel, vK, .int .i64 C.w, .int .i64 C.t, .int .i64 C.o], .int .i64 p] [] [rsl (kHd kPair) vS C.J.us, rsl kIns vM C.J.map, rsl kIns vC C.J.comb, rsl kIns vR C.J.red, rsl (kInt .i64) vK C.J.marks] (fun v Bs => v = .int .i64 (homeC C p) ∧ Bs = []) := by
 intro w0 F0 H
 unfold In64 at hp
 refine enter Tryz.func71 rfl rfl (Nat.le_of_ble_eq_true rfl) (c_seq (c_reg (s_box rfl rfl rfl rfl H (fun b1 w H => (s_1 rfl (s_nil (q_then ?_)))))))
 replace H : Hd _ _ _ [blk b1 [vS, .int .i64 C.J.parts, vM, vC, vR, .int .i64 C.J.chunk, .int .i64 C.J.window, .int .i64 C.J.fuel, vK, .int .i64 C.w, .int .i64 C.t, .int .i64 C.o] 28] [rsl (kHd kPair) vS C.J.us, rsl kIns vM C.J.map, rsl kIns vC C.J.comb, rsl kIns vR C.J.red, rsl (kInt .i64) vK C.J.marks] := H
 refine c_seq (c_seq (c_reg (s_val rfl rfl (r_ldA (cs := [vS, .int .i64 C.J.parts, vM, vC, vR, .int .i64 C.J.chunk, .int .i64 C.J.window, .int .i64 C.J.fuel, vK, .int .i64 C.w, .int .i64 C.t, .int .i64 C.o]) rfl ty28 rfl rfl (H.cellsI 0 rfl rfl)) (sc (mayC_ok vS vM vC vR vK C) H (lR 0 rfl (lR 1 rfl (lR 2 rfl (lR 3 rfl (lR 4 rfl l0))))) rfl rfl (e_fn kn19 rfl rfl) ?_))))
 rintro _ _ w ⟨rfl, rfl⟩ H
 refine s_val rfl rfl (r_notP rfl rfl) (s_1 rfl ?_)
 refine s_dec (d := 8) rfl (fun h2 => ?_) (fun h2 => ?_)
 ·refine s_k 8 rfl (s_nil (q_then ?_))
  replace H : Hd _ _ _ [blk b1 [vS, .int .i64 C.J.parts, vM, vC, vR, .int .i64 C.J.chunk, .int .i64 C.J.window, .int .i64 C.J.fuel, vK, .int .i64 C.w, .int .i64 C.t, .int .i64 C.o] 28] [rsl (kHd kPair) vS C.J.us, rsl kIns vM C.J.map, rsl kIns vC C.J.comb, rsl kIns vR C.J.red, rsl (kInt .i64) vK C.J.marks] := H
  refine c_yes rfl (c_seq (c_reg (s_1 rfl (s_nil (q_then (c_ret (q_thenR (q_ret1 rfl rfl ?_))))))))
  replace H := H.nil
  exact fin ⟨congrArg (Value.int .i64) (if_pos (by first | exact .inl h2 | exact .inr h2)).symm, rfl⟩ H
 have hmc : mayC C := Classical.not_not.1 h2
 have hm1 := hmc.2
 have hmp := hmc.1.2.1
 refine s_1 rfl (s_val rfl rfl (r_fa rfl fo28_0 rfl) (s_val rfl rfl (r_fa rfl fo26_1 rfl) (s_val rfl rfl (r_ld rfl ty3 rfl (H.cellI 0 rfl rfl)) (s_val rfl rfl (r_sub (z := C.J.parts - 1) rfl rfl rfl (w64 (by omega) (by omega))) (sc (within_ok p 0 (C.J.parts - 1)) H l0 rfl rfl (e_fn kn89 rfl rfl) ?_)))))
 rintro _ _ w ⟨rfl, rfl⟩ H
 refine s_val rfl rfl (r_notP rfl rfl) (s_1 rfl (s_nil (q_then ?_)))
 replace H : Hd _ _ _ [blk b1 [vS, .int .i64 C.J.parts, vM, vC, vR, .int .i64 C.J.chunk, .int .i64 C.J.window, .int .i64 C.J.fuel, vK, .int .i64 C.w, .int .i64 C.t, .int .i64 C.o] 28] [rsl (kHd kPair) vS C.J.us, rsl kIns vM C.J.map, rsl kIns vC C.J.comb, rsl kIns vR C.J.red, rsl (kInt .i64) vK C.J.marks] := H
 refine c_dec rfl (fun h3 => ?_) (fun h3 => ?_)
 ·refine c_seq (c_reg (s_1 rfl (s_nil (q_then (c_ret (q_thenR (q_ret1 rfl rfl ?_)))))))
  replace H := H.nil
  exact fin ⟨congrArg (Value.int .i64) (if_pos (by first | exact .inl h3 | exact .inr h3)).symm, rfl⟩ H
 refine c_skip (q_then (c_seq (c_reg (s_1 rfl (s_val rfl rfl (r_fa rfl fo28_1 rfl) (s_val rfl rfl (r_ld rfl ty3 rfl (H.cellI 0 rfl rfl)) (s_val rfl rfl (r_rem (z := p.tmod C.w) rfl rfl rfl (by omega) rfl) (s_val rfl rfl (r_add (z := 1 + p.tmod C.w) rfl rfl rfl (by have h1 := tmod_small p (show 1 ≤ C.w by omega); exact w64 (by omega) (by omega))) (s_1 rfl (s_nil (q_then (c_ret (q_ret1 rfl rfl ?_)))))))))))))
 replace H := H.nil
 have e : homeC C p = 1 + p.tmod C.w := if_neg (fun h => h.elim (fun h => h hmc) (fun h => by omega))
 exact fin ⟨by rw [e] <;> rfl, rfl⟩ H
theorem cloneIns_ok (vxs : Value) (xs : List Ins) (hb : xs.length ≤ 1000000) :
    Cn Tryz.prog 158 [vxs] [] [rsl kIns vxs xs] (fun v Bs => Bs = [osl kIns v xs]) := by
 intro w0 F0 H
 obtain ⟨A1, c2, rfl, hc3, hm4, hp5⟩ := H.fR 0 rfl
 refine enter Tryz.func158 rfl rfl (Nat.le_of_ble_eq_true rfl) (c_seq (c_reg (s_1 rfl (s_nil (q_then ?_)))))
 replace H : Hd _ _ _ [] [rsl kIns (.slice A1 xs.length c2) xs] := H
 refine c_seq (c_seq (c_reg (s_1 rfl (s_val rfl rfl (r_seq0 rfl un23 rfl rfl) (s_nil (q_then ?_))))))
 refine c_cond (b := (A1 : Option Addr).isNone) rfl (fun h6 => ?_) (fun h6 => ?_)
 ·refine c_seq (c_reg (s_1 rfl (s_nil (q_then (c_ret (q_thenR (q_ret1 rfl rfl ?_)))))))
  obtain rfl := H.nilR 0 rfl h6
  replace H := H.newnil kIns
  exact fin rfl H
 refine c_skip (q_then (c_seq (c_reg (s_bsl0 rfl rfl rfl sl23 H (fun b7 w H => (s_1 rfl ?_))))))
 replace H := H.newnilA kIns (some ⟨b7, 0, none⟩)
 refine s_appF (xs := []) (ys := xs) rfl rfl rfl sl23 zr223 rfl (by decide) rfl rfl H (by simp only [List.length_nil]; omega) (fun F hA hR => hR _ (List.mem_of_getElem? (i := 0) rfl)) (fun v8 w H => ?_)
 replace H := H.h2 (A := osl kIns v8 ([] ++ xs)) (B := blk b7 [] 223)
 refine s_1 rfl (s_nil (q_then (c_ret (q_ret1 rfl rfl ?_))))
 rw [List.nil_append] at H
 replace H := H.k1
 exact fin rfl H
theorem cloneInt_ok (vxs : Value) (xs : List Int) (hb : xs.length ≤ 1000000) :
    Cn Tryz.prog 129 [vxs] [] [rsl (kInt .i64) vxs xs] (fun v Bs => Bs = [osl (kInt .i64) v xs]) := by
 intro w0 F0 H
 obtain ⟨A1, c2, rfl, hc3, hm4, hp5⟩ := H.fR 0 rfl
 refine enter Tryz.func129 rfl rfl (Nat.le_of_ble_eq_true rfl) (c_seq (c_reg (s_1 rfl (s_nil (q_then ?_)))))
 replace H : Hd _ _ _ [] [rsl (kInt .i64) (.slice A1 xs.length c2) xs] := H
 refine c_seq (c_seq (c_reg (s_1 rfl (s_val rfl rfl (r_seq0 rfl un24 rfl rfl) (s_nil (q_then ?_))))))
 refine c_cond (b := (A1 : Option Addr).isNone) rfl (fun h6 => ?_) (fun h6 => ?_)
 ·refine c_seq (c_reg (s_1 rfl (s_nil (q_then (c_ret (q_thenR (q_ret1 rfl rfl ?_)))))))
  obtain rfl := H.nilR 0 rfl h6
  replace H := H.newnil (kInt .i64)
  exact fin rfl H
 refine c_skip (q_then (c_seq (c_reg (s_bsl0 rfl rfl rfl sl24 H (fun b7 w H => (s_1 rfl ?_))))))
 replace H := H.newnilA (kInt .i64) (some ⟨b7, 0, none⟩)
 refine s_appF (xs := []) (ys := xs) rfl rfl rfl sl24 zr3 rfl (by decide) rfl rfl H (by simp only [List.length_nil]; omega) (fun F hA hR => hR _ (List.mem_of_getElem? (i := 0) rfl)) (fun v8 w H => ?_)
 replace H := H.h2 (A := osl (kInt .i64) v8 ([] ++ xs)) (B := blk b7 [] 3)
 refine s_1 rfl (s_nil (q_then (c_ret (q_ret1 rfl rfl ?_))))
 rw [List.nil_append] at H
 replace H := H.k1
 exact fin rfl H
theorem cloneHdr_ok (vxs : Value) (xs : List Hdr) (hb : xs.length ≤ 1000000) :
    Cn Tryz.prog 157 [vxs] [] [rsl kHdr vxs xs] (fun v Bs => Bs = [osl kHdr v xs]) := by
 intro w0 F0 H
 obtain ⟨A1, c2, rfl, hc3, hm4, hp5⟩ := H.fR 0 rfl
 refine enter Tryz.func157 rfl rfl (Nat.le_of_ble_eq_true rfl) (c_seq (c_reg (s_1 rfl (s_nil (q_then ?_)))))
 replace H : Hd _ _ _ [] [rsl kHdr (.slice A1 xs.length c2) xs] := H
 refine c_seq (c_seq (c_reg (s_1 rfl (s_val rfl rfl (r_seq0 rfl un22 rfl rfl) (s_nil (q_then ?_))))))
 refine c_cond (b := (A1 : Option Addr).isNone) rfl (fun h6 => ?_) (fun h6 => ?_)
 ·refine c_seq (c_reg (s_1 rfl (s_nil (q_then (c_ret (q_thenR (q_ret1 rfl rfl ?_)))))))
  obtain rfl := H.nilR 0 rfl h6
  replace H := H.newnil kHdr
  exact fin rfl H
 refine c_skip (q_then (c_seq (c_reg (s_bsl0 rfl rfl rfl sl22 H (fun b7 w H => (s_1 rfl ?_))))))
 replace H := H.newnilA kHdr (some ⟨b7, 0, none⟩)
 refine s_appF (xs := []) (ys := xs) rfl rfl rfl sl22 zr35 rfl (by decide) rfl rfl H (by simp only [List.length_nil]; omega) (fun F hA hR => hR _ (List.mem_of_getElem? (i := 0) rfl)) (fun v8 w H => ?_)
 replace H := H.h2 (A := osl kHdr v8 ([] ++ xs)) (B := blk b7 [] 35)
 refine s_1 rfl (s_nil (q_then (c_ret (q_ret1 rfl rfl ?_))))
 rw [List.nil_append] at H
 replace H := H.k1
 exact fin rfl H
theorem own_at {us zs : List (Value × List Pair)} {i : Nat} {A : Option Addr} {c : Nat} {x : List Pair} (hz : zs.length = i) (h : us[i]? = some (.slice A x.length c, x)) : (hdr1 zs ++ (hdr1 us).drop i)[i]? = some (⟨A, x.length, c⟩ : Hdr) := by
 subst hz
 have hl : (hdr1 zs).length = zs.length := by simp [hdr1]
 rw [List.getElem?_append_right (by omega), hl, Nat.sub_self, List.getElem?_drop, Nat.add_zero]
 unfold hdr1
 rw [List.getElem?_map, h]
 rfl
theorem own_set {us zs : List (Value × List Pair)} {i : Nat} {A : Option Addr} {n c : Nat} {x : List Pair} (hz : zs.length = i) (hi : i < us.length) : (hdr1 zs ++ (hdr1 us).drop i).set i (⟨A, n, c⟩ : Hdr) = hdr1 (zs ++ [(.slice A n c, x)]) ++ (hdr1 us).drop (i + 1) := by
 subst hz
 have hl : (hdr1 zs).length = zs.length := by simp [hdr1]
 have hu : (hdr1 us).length = us.length := by simp [hdr1]
 rw [List.set_append_right _ _ (by omega), hl, Nat.sub_self, List.drop_eq_getElem_cons (by omega), List.set_cons_zero]
 unfold hdr1
 rw [List.map_append, List.append_assoc]
 rfl
theorem own_take {us zs : List (Value × List Pair)} {i : Nat} {v u : Value} {x : List Pair} (hz : zs.map (·.2) = (us.map (·.2)).take i) (h : us[i]? = some (v, x)) : (zs ++ [(u, x)]).map (·.2) = (us.map (·.2)).take (i + 1) := by
 rw [List.map_append, hz, take_snoc (x := x) (by rw [List.getElem?_map, h]; rfl)]
 rfl
theorem own_ok (vS : Value) (vM : Value) (vC : Value) (vR : Value) (vK : Value) (C : Cf) (hC : mayC C) :
    Cn Tryz.prog 94 [.agg #[vS, .int .i64 C.J.parts, vM, vC, vR, .int .i64 C.J.chunk, .int .i64 C.J.window, .int .i64 C.J.fuel, vK, .int .i64 C.w, .int .i64 C.t, .int .i64 C.o]] [] [rsl (kHd kPair) vS C.J.us, rsl kIns vM C.J.map, rsl kIns vC C.J.comb, rsl kIns vR C.J.red, rsl (kInt .i64) vK C.J.marks] (fun v Bs => ∃ J2 : Job, ∃ vS2 : Value, ∃ vM2 : Value, ∃ vC2 : Value, ∃ vR2 : Value, ∃ vK2 : Value, v = .agg #[vS2, .int .i64 J2.parts, vM2, vC2, vR2, .int .i64 J2.chunk, .int .i64 J2.window, .int .i64 J2.fuel, vK2, .int .i64 C.w, .int .i64 C.t, .int .i64 C.o] ∧ Bs = [osl (kHd kPair) vS2 J2.us, osl kIns vM2 J2.map, osl kIns vC2 J2.comb, osl kIns vR2 J2.red, osl (kInt .i64) vK2 J2.marks] ∧ (SameJ J2 C.J)) := by
 intro w0 F0 H
 obtain ⟨A1, c2, rfl, hc3, hm4, hp5⟩ := H.fR 0 rfl
 obtain ⟨A6, c7, rfl, hc8, hm9, hp10⟩ := H.fR 1 rfl
 obtain ⟨A11, c12, rfl, hc13, hm14, hp15⟩ := H.fR 2 rfl
 obtain ⟨A16, c17, rfl, hc18, hm19, hp20⟩ := H.fR 3 rfl
 obtain ⟨A21, c22, rfl, hc23, hm24, hp25⟩ := H.fR 4 rfl
 have hsp := hC.1.2.2.2.1
 have hus := hC.1.1
 have hb1 := (badI_good hC.1.2.2.2.2.2.1.2).1
 have hb2 := (badI_good hC.1.2.2.2.2.2.2.1.2).1
 have hb3 := (badI_good hC.1.2.2.2.2.2.2.2.1).1
 have hb4 := hC.1.2.2.1
 have hul : (hdr1 C.J.us).length = C.J.us.length := by simp [hdr1]
 refine enter Tryz.func94 rfl rfl (Nat.le_of_ble_eq_true rfl) (c_seq (c_reg (s_box rfl rfl rfl rfl H (fun b26 w H => (s_alloc rfl rfl rfl zr28 H (fun b27 w H => (s_nil (q_then ?_))))))))
 replace H : Hd _ _ _ [blk b27 [.slice none 0 0, .int .i64 0, .slice none 0 0, .slice none 0 0, .slice none 0 0, .int .i64 0, .int .i64 0, .int .i64 0, .slice none 0 0, .int .i64 0, .int .i64 0, .int .i64 0] 28, blk b26 [.slice A1 C.J.us.length c2, .int .i64 C.J.parts, .slice A6 C.J.map.length c7, .slice A11 C.J.comb.length c12, .slice A16 C.J.red.length c17, .int .i64 C.J.chunk, .int .i64 C.J.window, .int .i64 C.J.fuel, .slice A21 C.J.marks.length c22, .int .i64 C.w, .int .i64 C.t, .int .i64 C.o] 28] [rsl (kHd kPair) (.slice A1 C.J.us.length c2) C.J.us, rsl kIns (.slice A6 C.J.map.length c7) C.J.map, rsl kIns (.slice A11 C.J.comb.length c12) C.J.comb, rsl kIns (.slice A16 C.J.red.length c17) C.J.red, rsl (kInt .i64) (.slice A21 C.J.marks.length c22) C.J.marks] := H
 refine c_seq (c_reg (s_val rfl rfl (r_fa rfl fo28_0 rfl) (s_val rfl rfl (r_fa rfl fo26_0 rfl) (s_val rfl rfl (r_ld rfl ty22 rfl (H.cellI 1 rfl rfl)) (sc (cloneHdr_ok (.slice A1 C.J.us.length c2) (hdr1 C.J.us) (by simp only [hdr1, List.length_map]; omega)) H (lX (fun F hA hR => hdr_rd (hR _ (List.mem_of_getElem? (i := 0) rfl))) l0) rfl rfl (e_fn kn157 rfl rfl) ?_)))))
 rintro v28 _ w rfl H
 refine s_val rfl rfl (r_fa rfl fo28_0 rfl) (s_val rfl rfl (r_fa rfl fo26_0 rfl) ?_)
 obtain ⟨A29, c30, rfl, hc31, hm32, hp33⟩ := H.fA 0 rfl
 replace H := H.p2
 refine s_st rfl rfl rfl ty22 rfl rfl H rfl (Nat.le_of_ble_eq_true rfl) (fun u hu => by simp [Value.cells] at hu; subst hu; rfl) (fun w H => ?_)
 replace H : Hd _ _ _ [blk b26 [.slice A29 ((hdr1 C.J.us).length) c30, .int .i64 C.J.parts, .slice A6 C.J.map.length c7, .slice A11 C.J.comb.length c12, .slice A16 C.J.red.length c17, .int .i64 C.J.chunk, .int .i64 C.J.window, .int .i64 C.J.fuel, .slice A21 C.J.marks.length c22, .int .i64 C.w, .int .i64 C.t, .int .i64 C.o] 28, osl kHdr (.slice A29 ((hdr1 C.J.us).length) c30) (hdr1 C.J.us), blk b27 [.slice none 0 0, .int .i64 0, .slice none 0 0, .slice none 0 0, .slice none 0 0, .int .i64 0, .int .i64 0, .int .i64 0, .slice none 0 0, .int .i64 0, .int .i64 0, .int .i64 0] 28] [rsl (kHd kPair) (.slice A1 C.J.us.length c2) C.J.us, rsl kIns (.slice A6 C.J.map.length c7) C.J.map, rsl kIns (.slice A11 C.J.comb.length c12) C.J.comb, rsl kIns (.slice A16 C.J.red.length c17) C.J.red, rsl (kInt .i64) (.slice A21 C.J.marks.length c22) C.J.marks] := H
 refine s_nil (q_then (c_seq (c_seq (c_reg (s_val rfl rfl (r_fa rfl fo28_0 rfl) (s_val rfl rfl (r_fa rfl fo26_0 rfl) (s_val rfl rfl (r_ld rfl ty22 rfl (H.cellI 0 rfl rfl)) (s_val rfl rfl (r_lenL rfl un22 rfl) (s_1 rfl (s_nil (q_then (c_block ?_))))))))))))
 replace H := H.p1.h1 (A := osl kHdr (.slice A29 ((hdr1 C.J.us).length) c30) (hdr1 ([] : List (Value × List Pair)) ++ (hdr1 C.J.us).drop 0)) |>.big0 (fun u : Value × List Pair => osl kPair u.1 u.2) |>.h1 (A := inS kPair ([] : List (Value × List Pair)))
 refine c_loop (σ := Nat × List (Value × List Pair)) (fun (i, zs) => [(1, .pointer (some ⟨b26, 0, none⟩)), (2, .pointer (some ⟨b27, 0, none⟩)), (13, .slice A29 ((hdr1 C.J.us).length) c30), (14, .int .i64 (((hdr1 C.J.us).length : Nat) : Int)), (15, .int .i64 ((i : Nat) : Int))]) (fun (i, zs) w => (Hd w0 F0 w [inS kPair zs, osl kHdr (.slice A29 ((hdr1 C.J.us).length) c30) (hdr1 zs ++ (hdr1 C.J.us).drop i), blk b26 [.slice A29 ((hdr1 C.J.us).length) c30, .int .i64 C.J.parts, .slice A6 C.J.map.length c7, .slice A11 C.J.comb.length c12, .slice A16 C.J.red.length c17, .int .i64 C.J.chunk, .int .i64 C.J.window, .int .i64 C.J.fuel, .slice A21 C.J.marks.length c22, .int .i64 C.w, .int .i64 C.t, .int .i64 C.o] 28, blk b27 [.slice none 0 0, .int .i64 0, .slice none 0 0, .slice none 0 0, .slice none 0 0, .int .i64 0, .int .i64 0, .int .i64 0, .slice none 0 0, .int .i64 0, .int .i64 0, .int .i64 0] 28] [rsl (kHd kPair) (.slice A1 C.J.us.length c2) C.J.us, rsl kIns (.slice A6 C.J.map.length c7) C.J.map, rsl kIns (.slice A11 C.J.comb.length c12) C.J.comb, rsl kIns (.slice A16 C.J.red.length c17) C.J.red, rsl (kInt .i64) (.slice A21 C.J.marks.length c22) C.J.marks]) ∧ (zs.length = i ∧ zs.map (·.2) = (C.J.us.map (·.2)).take i) ∧ (i ≤ C.J.us.length)) (fun (i, zs) => C.J.us.length - i) (0, []) ⟨rfl, rfl, rfl, rfl, rfl, trivial⟩ ⟨H, ⟨rfl, rfl⟩, Nat.zero_le _⟩ ?_
 rintro ⟨i, zs⟩ w ⟨H, hz, hi⟩
 refine c_seq (c_reg (s_val rfl rfl (r_lt rfl rfl rfl) (s_nil (q_then (c_seq ?_)))))
 refine c_dec rfl (fun h34 => ?_) (fun h34 => ?_)
 ·refine c_skip (q_then (c_seq (c_block (c_seq ?_))))
  obtain ⟨⟨u37, x35⟩, hx36⟩ : ∃ z9, C.J.us[i]? = some z9 := ⟨_, List.getElem?_eq_getElem (show i < C.J.us.length by omega)⟩
  obtain ⟨A38, c39, rfl, hc40, hm41⟩ := H.nestR 0 rfl hx36
  have hk42 := own_at (zs := zs) hz.1 hx36
  have hxl : x35.length ≤ 8 := (hsp _ (at_mem hx36)).1
  refine c_reg (s_1 rfl ?_)
  have th43 := H.thA 1 rfl hk42
  refine s_val rfl rfl (r_iaE (p := oOf A29 + i * 1) rfl sl22 rfl rfl (by omega) (by omega) th43 rfl) (s_val rfl rfl (r_ld rfl ty35 rfl (H.elA 1 rfl hk42 (q := 0) rfl rfl)) (s_k 2 rfl (s_nil (q_then ?_))))
  replace H := H.p3.p3.p2
  refine c_ord (.e 0 (.e 1 (.e 2 (.e 3 (.e 4 (.m 5 (.e 6 (.m 7 .z)))))))) (fun w => ∃ Ar, Hd w0 F0 w (inS kPair zs :: blk b26 [.slice A29 ((hdr1 C.J.us).length) c30, .int .i64 C.J.parts, .slice A6 C.J.map.length c7, .slice A11 C.J.comb.length c12, .slice A16 C.J.red.length c17, .int .i64 C.J.chunk, .int .i64 C.J.window, .int .i64 C.J.fuel, .slice A21 C.J.marks.length c22, .int .i64 C.w, .int .i64 C.t, .int .i64 C.o] 28 :: blk b27 [.slice none 0 0, .int .i64 0, .slice none 0 0, .slice none 0 0, .slice none 0 0, .int .i64 0, .int .i64 0, .int .i64 0, .slice none 0 0, .int .i64 0, .int .i64 0, .int .i64 0] 28 :: Ar) [rsl (kHd kPair) (.slice A1 C.J.us.length c2) C.J.us, rsl kIns (.slice A6 C.J.map.length c7) C.J.map, rsl kIns (.slice A11 C.J.comb.length c12) C.J.comb, rsl kIns (.slice A16 C.J.red.length c17) C.J.red, rsl (kInt .i64) (.slice A21 C.J.marks.length c22) C.J.marks]) mo (by kernel_rfl) (fun w H => ⟨_, H⟩) H (fun w H => ?_)
  refine d_val rfl rfl rfl (fun w ⟨Ar, H⟩ => r_fa rfl fo28_0 rfl) (d_val rfl rfl rfl (fun w ⟨Ar, H⟩ => r_fa rfl fo26_0 rfl) (d_val rfl rfl rfl (fun w ⟨Ar, H⟩ => r_ld rfl ty22 rfl (H.cellI 1 rfl rfl)) (d_1 rfl (d_1 rfl (d_main rfl (sc (clone_ok (.slice A38 x35.length c39) x35 (by first | omega | decide | assumption)) H (lX (fun F hA hR => nest_rsl (hR _ (List.mem_of_getElem? (i := 0) rfl)) hx36) l0) rfl rfl (e_fn kn123 rfl rfl) ?_))))))
  rintro v44 _ w rfl H
  replace H := H.h1 (A := osl kPair v44 x35) |>.p3 |>.p3 |>.p3
  refine d_back ⟨_, H⟩ ?_
  have th45 := H.thA 4 rfl hk42
  refine d_val rfl rfl rfl (fun w ⟨Ar, H⟩ => r_iaE (p := oOf A29 + i * 1) rfl sl22 rfl rfl (by omega) (by omega) th45 rfl) (d_main rfl ?_)
  obtain ⟨A46, c47, rfl, hc48, hm49, hp50⟩ := H.fA 3 rfl
  replace H := H.p4
  refine s_stO (i := i) (a := (⟨A46, x35.length, c47⟩ : Hdr)) rfl rfl rfl ty35 rfl rfl rfl H (by simp only [List.length_append, List.length_drop, hdr1, List.length_map]; omega) rfl (fun w H => ?_)
  replace H : Hd _ _ _ [osl kHdr (.slice A29 ((hdr1 C.J.us).length) c30) ((hdr1 zs ++ (hdr1 C.J.us).drop i).set i (⟨A46, x35.length, c47⟩ : Hdr)), inS kPair zs, blk b26 [.slice A29 ((hdr1 C.J.us).length) c30, .int .i64 C.J.parts, .slice A6 C.J.map.length c7, .slice A11 C.J.comb.length c12, .slice A16 C.J.red.length c17, .int .i64 C.J.chunk, .int .i64 C.J.window, .int .i64 C.J.fuel, .slice A21 C.J.marks.length c22, .int .i64 C.w, .int .i64 C.t, .int .i64 C.o] 28, blk b27 [.slice none 0 0, .int .i64 0, .slice none 0 0, .slice none 0 0, .slice none 0 0, .int .i64 0, .int .i64 0, .int .i64 0, .slice none 0 0, .int .i64 0, .int .i64 0, .int .i64 0] 28, osl kPair (.slice A46 x35.length c47) x35] [rsl (kHd kPair) (.slice A1 C.J.us.length c2) C.J.us, rsl kIns (.slice A6 C.J.map.length c7) C.J.map, rsl kIns (.slice A11 C.J.comb.length c12) C.J.comb, rsl kIns (.slice A16 C.J.red.length c17) C.J.red, rsl (kInt .i64) (.slice A21 C.J.marks.length c22) C.J.marks] := H
  replace H := H.p3.p3.p3
  refine d_back ⟨_, H⟩ (d_nil (q_blockN (q_then (c_reg (s_val rfl rfl (r_add (z := ((i + 1 : Nat) : Int)) rfl rfl rfl (by rw [w64 (by omega) (by omega)]; omega)) (s_1 rfl (s_nil ?_)))))))
  replace H := H.p3.p1.p4.bigN (f := fun u : Value × List Pair => osl kPair u.1 u.2) (x := (.slice A46 x35.length c47, x35))
  replace H : Hd w0 F0 w [inS kPair (zs ++ [(.slice A46 x35.length c47, x35)]), osl kHdr (.slice A29 ((hdr1 C.J.us).length) c30) (hdr1 (zs ++ [(.slice A46 x35.length c47, x35)]) ++ (hdr1 C.J.us).drop (i + 1)), blk b26 [.slice A29 ((hdr1 C.J.us).length) c30, .int .i64 C.J.parts, .slice A6 C.J.map.length c7, .slice A11 C.J.comb.length c12, .slice A16 C.J.red.length c17, .int .i64 C.J.chunk, .int .i64 C.J.window, .int .i64 C.J.fuel, .slice A21 C.J.marks.length c22, .int .i64 C.w, .int .i64 C.t, .int .i64 C.o] 28, blk b27 [.slice none 0 0, .int .i64 0, .slice none 0 0, .slice none 0 0, .slice none 0 0, .int .i64 0, .int .i64 0, .int .i64 0, .slice none 0 0, .int .i64 0, .int .i64 0, .int .i64 0] 28] [rsl (kHd kPair) (.slice A1 C.J.us.length c2) C.J.us, rsl kIns (.slice A6 C.J.map.length c7) C.J.map, rsl kIns (.slice A11 C.J.comb.length c12) C.J.comb, rsl kIns (.slice A16 C.J.red.length c17) C.J.red, rsl (kInt .i64) (.slice A21 C.J.marks.length c22) C.J.marks] := by rw [← own_set (x := x35) hz.1 (by omega)]; exact H
  exact q_round (s := (i, zs)) (i + 1, zs ++ [(.slice A46 x35.length c47, x35)]) ⟨rfl, rfl, rfl, rfl, rfl, trivial⟩ ⟨H, ⟨by simp [hz.1], own_take hz.2 hx36⟩, by (try dsimp only); omega⟩ (by (try dsimp only); omega)
 refine c_exit (q_thenE (q_thenE (q_blockE (q_then (c_seq ?_)))))
 obtain rfl : i = C.J.us.length := by omega
 replace H := H.p1
 replace H : Hd w0 F0 w [osl kHdr (.slice A29 ((hdr1 C.J.us).length) c30) (hdr1 zs), inS kPair zs, blk b26 [.slice A29 ((hdr1 C.J.us).length) c30, .int .i64 C.J.parts, .slice A6 C.J.map.length c7, .slice A11 C.J.comb.length c12, .slice A16 C.J.red.length c17, .int .i64 C.J.chunk, .int .i64 C.J.window, .int .i64 C.J.fuel, .slice A21 C.J.marks.length c22, .int .i64 C.w, .int .i64 C.t, .int .i64 C.o] 28, blk b27 [.slice none 0 0, .int .i64 0, .slice none 0 0, .slice none 0 0, .slice none 0 0, .int .i64 0, .int .i64 0, .int .i64 0, .slice none 0 0, .int .i64 0, .int .i64 0, .int .i64 0] 28] [rsl (kHd kPair) (.slice A1 C.J.us.length c2) C.J.us, rsl kIns (.slice A6 C.J.map.length c7) C.J.map, rsl kIns (.slice A11 C.J.comb.length c12) C.J.comb, rsl kIns (.slice A16 C.J.red.length c17) C.J.red, rsl (kInt .i64) (.slice A21 C.J.marks.length c22) C.J.marks] := by rw [show hdr1 zs = hdr1 zs ++ (hdr1 C.J.us).drop C.J.us.length by simp [hdr1]]; exact H
 replace H := H.hdI |>.h1 (A := osl (kHd kPair) (.slice A29 ((hdr1 C.J.us).length) c30) zs)
 have hsj : SameJ ({ C.J with us := zs } : Job) C.J := ⟨by rw [hz.2, List.take_of_length_le (by simp)], rfl⟩
 refine c_ord2 (.e 0 (.e 1 (.e 2 (.e 4 (.e 5 (.e 6 (.e 8 (.e 9 (.e 10 (.m 3 (.e 12 (.e 13 (.m 7 (.m 11 (.w 14 (.e 15 (.e 16 (.m 17 (.e 18 (.e 19 (.m 20 .z))))))))))))))))))))) (fun w => ∃ Ar, Hd w0 F0 w (osl (kHd kPair) (.slice A29 ((hdr1 C.J.us).length) c30) zs :: blk b26 [.slice A29 ((hdr1 C.J.us).length) c30, .int .i64 C.J.parts, .slice A6 C.J.map.length c7, .slice A11 C.J.comb.length c12, .slice A16 C.J.red.length c17, .int .i64 C.J.chunk, .int .i64 C.J.window, .int .i64 C.J.fuel, .slice A21 C.J.marks.length c22, .int .i64 C.w, .int .i64 C.t, .int .i64 C.o] 28 :: blk b27 [.slice none 0 0, .int .i64 0, .slice none 0 0, .slice none 0 0, .slice none 0 0, .int .i64 0, .int .i64 0, .int .i64 0, .slice none 0 0, .int .i64 0, .int .i64 0, .int .i64 0] 28 :: Ar) [rsl (kHd kPair) (.slice A1 C.J.us.length c2) C.J.us, rsl kIns (.slice A6 C.J.map.length c7) C.J.map, rsl kIns (.slice A11 C.J.comb.length c12) C.J.comb, rsl kIns (.slice A16 C.J.red.length c17) C.J.red, rsl (kInt .i64) (.slice A21 C.J.marks.length c22) C.J.marks]) (fun w => ∃ Ar, Hd w0 F0 w Ar [rsl (kHd kPair) (.slice A1 C.J.us.length c2) C.J.us, rsl kIns (.slice A6 C.J.map.length c7) C.J.map, rsl kIns (.slice A11 C.J.comb.length c12) C.J.comb, rsl kIns (.slice A16 C.J.red.length c17) C.J.red, rsl (kInt .i64) (.slice A21 C.J.marks.length c22) C.J.marks]) mo (by kernel_rfl) (fun w H => ⟨_, H⟩) H (fun w H => ?_)
 refine g_val rfl rfl rfl (fun w ⟨Ar, H⟩ => r_fa rfl fo28_0 rfl) (g_val rfl rfl rfl (fun w ⟨Ar, H⟩ => r_fa rfl fo26_2 rfl) (g_val rfl rfl rfl (fun w ⟨Ar, H⟩ => r_ld rfl ty23 rfl (H.cellI 1 rfl rfl)) (g_val rfl rfl rfl (fun w ⟨Ar, H⟩ => r_fa rfl fo28_0 rfl) (g_val rfl rfl rfl (fun w ⟨Ar, H⟩ => r_fa rfl fo26_3 rfl) (g_val rfl rfl rfl (fun w ⟨Ar, H⟩ => r_ld rfl ty23 rfl (H.cellI 1 rfl rfl)) (g_val rfl rfl rfl (fun w ⟨Ar, H⟩ => r_fa rfl fo28_0 rfl) (g_val rfl rfl rfl (fun w ⟨Ar, H⟩ => r_fa rfl fo26_4 rfl) (g_val rfl rfl rfl (fun w ⟨Ar, H⟩ => r_ld rfl ty23 rfl (H.cellI 1 rfl rfl)) (g_main rfl (sc (cloneIns_ok (.slice A6 C.J.map.length c7) C.J.map (by first | omega | decide | assumption)) H (lR 1 rfl l0) rfl rfl (e_fn kn158 rfl rfl) ?_))))))))))
 rintro v51 _ w rfl H
 replace H := H.h1 (A := osl kIns v51 C.J.map) |>.p3 |>.p3 |>.p3
 refine g_back ⟨_, H⟩ (g_val rfl rfl rfl (fun w ⟨Ar, H⟩ => r_fa rfl fo28_0 rfl) (g_val rfl rfl rfl (fun w ⟨Ar, H⟩ => r_fa rfl fo26_2 rfl) (g_main rfl (sc (cloneIns_ok (.slice A11 C.J.comb.length c12) C.J.comb (by first | omega | decide | assumption)) H (lR 2 rfl l0) rfl rfl (e_fn kn158 rfl rfl) ?_))))
 rintro v52 _ w rfl H
 replace H := H.h1 (A := osl kIns v52 C.J.comb) |>.p3 |>.p3 |>.p3
 refine g_back ⟨_, H⟩ (g_main rfl (sc (cloneIns_ok (.slice A16 C.J.red.length c17) C.J.red (by first | omega | decide | assumption)) H (lR 3 rfl l0) rfl rfl (e_fn kn158 rfl rfl) ?_))
 rintro v53 _ w rfl H
 replace H := H.h1 (A := osl kIns v53 C.J.red) |>.p3 |>.p3 |>.p3
 refine g_back ⟨_, H⟩ (g_sw rfl ?_)
 obtain ⟨A54, c55, rfl, hc56, hm57, hp58⟩ := H.fA 5 rfl
 replace H := H.p1
 refine s_st rfl rfl rfl ty23 rfl rfl H rfl (Nat.le_of_ble_eq_true rfl) (fun u hu => by simp [Value.cells] at hu; subst hu; rfl) (fun w H => ?_)
 replace H : Hd _ _ _ [blk b26 [.slice A29 ((hdr1 C.J.us).length) c30, .int .i64 C.J.parts, .slice A54 C.J.map.length c55, .slice A11 C.J.comb.length c12, .slice A16 C.J.red.length c17, .int .i64 C.J.chunk, .int .i64 C.J.window, .int .i64 C.J.fuel, .slice A21 C.J.marks.length c22, .int .i64 C.w, .int .i64 C.t, .int .i64 C.o] 28, osl (kHd kPair) (.slice A29 ((hdr1 C.J.us).length) c30) zs, blk b27 [.slice none 0 0, .int .i64 0, .slice none 0 0, .slice none 0 0, .slice none 0 0, .int .i64 0, .int .i64 0, .int .i64 0, .slice none 0 0, .int .i64 0, .int .i64 0, .int .i64 0] 28, osl kIns v53 C.J.red, osl kIns v52 C.J.comb, osl kIns (.slice A54 C.J.map.length c55) C.J.map] [rsl (kHd kPair) (.slice A1 C.J.us.length c2) C.J.us, rsl kIns (.slice A6 C.J.map.length c7) C.J.map, rsl kIns (.slice A11 C.J.comb.length c12) C.J.comb, rsl kIns (.slice A16 C.J.red.length c17) C.J.red, rsl (kInt .i64) (.slice A21 C.J.marks.length c22) C.J.marks] := H
 refine d_back ⟨_, H⟩ (d_val rfl rfl rfl (fun w ⟨Ar, H⟩ => r_fa rfl fo28_0 rfl) (d_val rfl rfl rfl (fun w ⟨Ar, H⟩ => r_fa rfl fo26_3 rfl) (d_main rfl ?_)))
 obtain ⟨A59, c60, rfl, hc61, hm62, hp63⟩ := H.fA 4 rfl
 refine s_st rfl rfl rfl ty23 rfl rfl H rfl (Nat.le_of_ble_eq_true rfl) (fun u hu => by simp [Value.cells] at hu; subst hu; rfl) (fun w H => ?_)
 replace H : Hd _ _ _ [blk b26 [.slice A29 ((hdr1 C.J.us).length) c30, .int .i64 C.J.parts, .slice A54 C.J.map.length c55, .slice A59 C.J.comb.length c60, .slice A16 C.J.red.length c17, .int .i64 C.J.chunk, .int .i64 C.J.window, .int .i64 C.J.fuel, .slice A21 C.J.marks.length c22, .int .i64 C.w, .int .i64 C.t, .int .i64 C.o] 28, osl (kHd kPair) (.slice A29 ((hdr1 C.J.us).length) c30) zs, blk b27 [.slice none 0 0, .int .i64 0, .slice none 0 0, .slice none 0 0, .slice none 0 0, .int .i64 0, .int .i64 0, .int .i64 0, .slice none 0 0, .int .i64 0, .int .i64 0, .int .i64 0] 28, osl kIns v53 C.J.red, osl kIns (.slice A59 C.J.comb.length c60) C.J.comb, osl kIns (.slice A54 C.J.map.length c55) C.J.map] [rsl (kHd kPair) (.slice A1 C.J.us.length c2) C.J.us, rsl kIns (.slice A6 C.J.map.length c7) C.J.map, rsl kIns (.slice A11 C.J.comb.length c12) C.J.comb, rsl kIns (.slice A16 C.J.red.length c17) C.J.red, rsl (kInt .i64) (.slice A21 C.J.marks.length c22) C.J.marks] := H
 refine d_back ⟨_, H⟩ (d_val rfl rfl rfl (fun w ⟨Ar, H⟩ => r_fa rfl fo28_0 rfl) (d_val rfl rfl rfl (fun w ⟨Ar, H⟩ => r_fa rfl fo26_4 rfl) (d_main rfl ?_)))
 obtain ⟨A64, c65, rfl, hc66, hm67, hp68⟩ := H.fA 3 rfl
 refine s_st rfl rfl rfl ty23 rfl rfl H rfl (Nat.le_of_ble_eq_true rfl) (fun u hu => by simp [Value.cells] at hu; subst hu; rfl) (fun w H => ?_)
 replace H : Hd _ _ _ [blk b26 [.slice A29 ((hdr1 C.J.us).length) c30, .int .i64 C.J.parts, .slice A54 C.J.map.length c55, .slice A59 C.J.comb.length c60, .slice A64 C.J.red.length c65, .int .i64 C.J.chunk, .int .i64 C.J.window, .int .i64 C.J.fuel, .slice A21 C.J.marks.length c22, .int .i64 C.w, .int .i64 C.t, .int .i64 C.o] 28, osl (kHd kPair) (.slice A29 ((hdr1 C.J.us).length) c30) zs, blk b27 [.slice none 0 0, .int .i64 0, .slice none 0 0, .slice none 0 0, .slice none 0 0, .int .i64 0, .int .i64 0, .int .i64 0, .slice none 0 0, .int .i64 0, .int .i64 0, .int .i64 0] 28, osl kIns (.slice A64 C.J.red.length c65) C.J.red, osl kIns (.slice A59 C.J.comb.length c60) C.J.comb, osl kIns (.slice A54 C.J.map.length c55) C.J.map] [rsl (kHd kPair) (.slice A1 C.J.us.length c2) C.J.us, rsl kIns (.slice A6 C.J.map.length c7) C.J.map, rsl kIns (.slice A11 C.J.comb.length c12) C.J.comb, rsl kIns (.slice A16 C.J.red.length c17) C.J.red, rsl (kInt .i64) (.slice A21 C.J.marks.length c22) C.J.marks] := H
 refine d_back ⟨_, H⟩ (d_nil (q_then (c_seq (c_reg (s_val rfl rfl (r_fa rfl fo28_0 rfl) (s_val rfl rfl (r_fa rfl fo26_8 rfl) (s_val rfl rfl (r_ld rfl ty24 rfl (H.cellI 0 rfl rfl)) (sc (cloneInt_ok (.slice A21 C.J.marks.length c22) C.J.marks (by first | omega | decide | assumption)) H (lR 4 rfl l0) rfl rfl (e_fn kn129 rfl rfl) ?_))))))))
 rintro v69 _ w rfl H
 refine s_val rfl rfl (r_fa rfl fo28_0 rfl) (s_val rfl rfl (r_fa rfl fo26_8 rfl) ?_)
 obtain ⟨A70, c71, rfl, hc72, hm73, hp74⟩ := H.fA 0 rfl
 replace H := H.p1
 refine s_st rfl rfl rfl ty24 rfl rfl H rfl (Nat.le_of_ble_eq_true rfl) (fun u hu => by simp [Value.cells] at hu; subst hu; rfl) (fun w H => ?_)
 replace H : Hd _ _ _ [blk b26 [.slice A29 ((hdr1 C.J.us).length) c30, .int .i64 C.J.parts, .slice A54 C.J.map.length c55, .slice A59 C.J.comb.length c60, .slice A64 C.J.red.length c65, .int .i64 C.J.chunk, .int .i64 C.J.window, .int .i64 C.J.fuel, .slice A70 C.J.marks.length c71, .int .i64 C.w, .int .i64 C.t, .int .i64 C.o] 28, osl (kInt .i64) (.slice A70 C.J.marks.length c71) C.J.marks, osl (kHd kPair) (.slice A29 ((hdr1 C.J.us).length) c30) zs, blk b27 [.slice none 0 0, .int .i64 0, .slice none 0 0, .slice none 0 0, .slice none 0 0, .int .i64 0, .int .i64 0, .int .i64 0, .slice none 0 0, .int .i64 0, .int .i64 0, .int .i64 0] 28, osl kIns (.slice A64 C.J.red.length c65) C.J.red, osl kIns (.slice A59 C.J.comb.length c60) C.J.comb, osl kIns (.slice A54 C.J.map.length c55) C.J.map] [rsl (kHd kPair) (.slice A1 C.J.us.length c2) C.J.us, rsl kIns (.slice A6 C.J.map.length c7) C.J.map, rsl kIns (.slice A11 C.J.comb.length c12) C.J.comb, rsl kIns (.slice A16 C.J.red.length c17) C.J.red, rsl (kInt .i64) (.slice A21 C.J.marks.length c22) C.J.marks] := H
 refine s_nil (q_then (c_seq (c_reg (s_val rfl rfl (r_ldA (cs := [.slice A29 ((hdr1 C.J.us).length) c30, .int .i64 C.J.parts, .slice A54 C.J.map.length c55, .slice A59 C.J.comb.length c60, .slice A64 C.J.red.length c65, .int .i64 C.J.chunk, .int .i64 C.J.window, .int .i64 C.J.fuel, .slice A70 C.J.marks.length c71, .int .i64 C.w, .int .i64 C.t, .int .i64 C.o]) rfl ty28 rfl rfl (H.cellsI 0 rfl rfl)) ?_))))
 replace H := H.p3
 refine s_st rfl rfl rfl ty28 rfl rfl H rfl (Nat.le_of_ble_eq_true rfl) (fun u hu => by simp [Value.cells] at hu; rcases hu with rfl | rfl | rfl | rfl | rfl | rfl | rfl | rfl | rfl | rfl | rfl | rfl <;> rfl) (fun w H => ?_)
 replace H := H.h1 (A := blk b27 [.slice A29 ((hdr1 C.J.us).length) c30, .int .i64 C.J.parts, .slice A54 C.J.map.length c55, .slice A59 C.J.comb.length c60, .slice A64 C.J.red.length c65, .int .i64 C.J.chunk, .int .i64 C.J.window, .int .i64 C.J.fuel, .slice A70 C.J.marks.length c71, .int .i64 C.w, .int .i64 C.t, .int .i64 C.o] 28)
 refine s_nil (q_then (c_ret (q_retC (cs := [.slice A29 ((hdr1 C.J.us).length) c30, .int .i64 C.J.parts, .slice A54 C.J.map.length c55, .slice A59 C.J.comb.length c60, .slice A64 C.J.red.length c65, .int .i64 C.J.chunk, .int .i64 C.J.window, .int .i64 C.J.fuel, .slice A70 C.J.marks.length c71, .int .i64 C.w, .int .i64 C.t, .int .i64 C.o]) rfl rfl ty28 rfl (H.cellsI 0 rfl rfl) ?_)))
 replace H := H.p2.p4.p5.p6.p6.k5
 exact fin ⟨({ C.J with us := zs } : Job), (.slice A29 ((hdr1 C.J.us).length) c30), (.slice A54 C.J.map.length c55), (.slice A59 C.J.comb.length c60), (.slice A64 C.J.red.length c65), (.slice A70 C.J.marks.length c71), rfl, rfl, hsj⟩ H
abbrev StE := (Int × Int) × Value × List (Value × List Pair)
def stE (e : StE) : (Int × Int) × List (List Pair) := (e.1, e.2.2.map (·.2))
def stV (e : StE) : (Int × Int) × Value := (e.1, e.2.1)
def stO (e : StE) : SP := osl (kHd kPair) e.2.1 e.2.2
def stgM (mb : Nat) (st : Stg) : SP := ex fun kvs : List StE => star [pure_ (kvs.map stE = st), mapK key2 mb (kvs.map stV), bigS stO kvs]
def stgI (t sb : Nat) (st : Stg) : SP := ex fun mb : Nat => star [blk sb [.map (some mb)] t, stgM mb st]
section
variable {kvs : List StE} {k : Int × Int} {x : Value × List (Value × List Pair)}
end
section
variable {w0 w : World} {F0 : Foot} {As Rs : List SP} {t sb mb : Nat} {st : Stg} {kvs : List StE} {k : Int × Int} {v : Value} {us : List (Value × List Pair)}
theorem Hd.stgC (he : kvs.map stE = st) (H : Hd w0 F0 w (blk sb [.map (some mb)] t :: mapK key2 mb (kvs.map stV) :: bigS stO kvs :: As) Rs) : Hd w0 F0 w (stgI t sb st :: As) Rs := by
 have h3 : Hd w0 F0 w (pure_ (kvs.map stE = st) :: mapK key2 mb (kvs.map stV) :: bigS stO kvs :: blk sb [.map (some mb)] t :: As) Rs :=
  (H.perm (((List.Perm.swap _ _ _).trans ((List.Perm.swap _ _ _).cons _)) : (blk sb [.map (some mb)] t :: mapK key2 mb (kvs.map stV) :: bigS stO kvs :: As).Perm (mapK key2 mb (kvs.map stV) :: bigS stO kvs :: blk sb [.map (some mb)] t :: As))).puI he
 have h4 : Hd w0 F0 w (stgM mb st :: blk sb [.map (some mb)] t :: As) Rs := Hd.exI (A := fun kvs : List StE => star [pure_ (kvs.map stE = st), mapK key2 mb (kvs.map stV), bigS stO kvs]) kvs (Hd.stI (Bs := [pure_ (kvs.map stE = st), mapK key2 mb (kvs.map stV), bigS stO kvs]) h3)
 exact Hd.exI (A := fun mb : Nat => star [blk sb [.map (some mb)] t, stgM mb st]) mb (Hd.stI (Bs := [blk sb [.map (some mb)] t, stgM mb st]) (h4.perm (List.Perm.swap _ _ _)))
theorem Hd.st0 (H : Hd w0 F0 w (blk sb [.map (some mb)] t :: mapK key2 mb [] :: As) Rs) : Hd w0 F0 w (stgI t sb [] :: As) Rs :=
 Hd.stgC (kvs := []) rfl (((H.perm (List.Perm.swap _ _ _)).big0 stO).perm (((List.Perm.swap _ _ _).trans ((List.Perm.swap _ _ _).cons _)).trans (List.Perm.swap _ _ _)))
end
theorem stNew_ok  :
    Cn Tryz.prog 128 [] [] [] (fun v Bs => ∃ b : Nat, v = .pointer (some ⟨b, 0, none⟩) ∧ Bs = [stgI 253 b ([])]) := by
 intro w0 F0 H
 refine enter Tryz.func128 rfl rfl (Nat.le_of_ble_eq_true rfl) (c_seq (c_reg (s_1 rfl (s_nil (q_then (c_seq (c_reg (s_mkmapK key2 rfl rfl rfl H (fun b1 w H => (s_val rfl rfl (r_bd (parts := [(0, .tmp 1)]) (vs := [.map (some b1)]) (cs := [.map (some b1)]) rfl bd253 rfl rfl) (s_box rfl rfl rfl rfl H (fun b2 w H => (s_1 rfl (s_nil (q_then ?_)))))))))))))))
 replace H : Hd _ _ _ [blk b2 [.map (some b1)] 253, mapK key2 b1 []] [] := H
 refine c_ret (q_ret1 rfl rfl ?_)
 replace H := H.st0 |>.h1 (A := stgI 253 b2 ([]))
 exact fin ⟨_, rfl, rfl⟩ H
theorem at_ok (r : Nat) (A : Option Addr) (m : Nat) (c : Nat) (vM2 : Value) (vC2 : Value) (vR2 : Value) (vK2 : Value) (J2 : Job) (cw : Int) (ct : Int) (co : Int) (part : Int) (ep : Int) (g : Nat → SpD) (hv : Nat → Value) (sb : Nat) (vs : Value) (n : Int) (hn : 0 ≤ n ∧ n < (m : Int)) (hm : m ≤ 6) :
    Cn Tryz.prog 118 [.pointer (some ⟨r, 0, none⟩), .int .i64 n] [] [blk r (redC (.slice A m c) vM2 vC2 vR2 vK2 J2 cw ct co part ep g hv sb vs) 185] (fun v Bs => v = .pointer (some ⟨r, 14 + (n).toNat * 5, none⟩) ∧ Bs = []) := by
 intro w0 F0 H
 refine enter Tryz.func118 rfl rfl (Nat.le_of_ble_eq_true rfl) (c_seq (c_reg (s_1 rfl (s_nil (q_then (c_seq (c_seq (c_reg (s_1 rfl (s_val rfl rfl (r_peq rfl un75 rfl rfl) (s_k 2 rfl (s_val rfl rfl (r_lt rfl rfl rfl) (s_k 2 rfl ?_)))))))))))))
 refine s_dec (d := 11) rfl (fun h1 => ?_) (fun h1 => ?_)
 ·exfalso; omega
 refine s_k 2 rfl (s_val rfl rfl (r_nilP rfl rfl) (s_val rfl rfl (r_fa rfl fo185_0 rfl) (s_val rfl rfl (r_fa rfl fo28_0 rfl) (s_val rfl rfl (r_fa rfl fo26_0 rfl) (s_val rfl rfl (r_ld rfl ty22 rfl (H.cellRI 0 rfl rfl)) (s_val rfl rfl (r_lenL rfl un22 rfl) (s_val rfl rfl (r_ge rfl rfl rfl) (s_1 rfl (s_nil (q_then ?_))))))))))
 refine c_dec rfl (fun h2 => ?_) (fun h2 => ?_)
 ·exfalso; omega
 refine c_skip (q_then (c_seq (c_reg (s_k 2 rfl (s_val rfl rfl (r_nilP rfl rfl) (s_val rfl rfl (r_fa rfl fo185_3 rfl) (s_val rfl rfl (r_iaB (p := 14 + (n).toNat * 5) rfl un182 is181 rfl rfl (by omega) (by omega) (by omega)) (s_1 rfl (s_nil (q_then (c_ret (q_ret1 rfl rfl ?_))))))))))))
 replace H : Hd _ _ _ [] [blk r (redC (.slice A m c) vM2 vC2 vR2 vK2 J2 cw ct co part ep g hv sb vs) 185] := H
 exact fin ⟨rfl, rfl⟩ H
theorem at_no (r : Nat) (A : Option Addr) (m : Nat) (c : Nat) (vM2 : Value) (vC2 : Value) (vR2 : Value) (vK2 : Value) (J2 : Job) (cw : Int) (ct : Int) (co : Int) (part : Int) (ep : Int) (g : Nat → SpD) (hv : Nat → Value) (sb : Nat) (vs : Value) (n : Int) (hn : ¬ (0 ≤ n ∧ n < (m : Int))) :
    Cn Tryz.prog 118 [.pointer (some ⟨r, 0, none⟩), .int .i64 n] [] [blk r (redC (.slice A m c) vM2 vC2 vR2 vK2 J2 cw ct co part ep g hv sb vs) 185] (fun v Bs => v = .pointer none ∧ Bs = []) := by
 intro w0 F0 H
 refine enter Tryz.func118 rfl rfl (Nat.le_of_ble_eq_true rfl) (c_seq (c_reg (s_1 rfl (s_nil (q_then (c_seq (c_seq (c_reg (s_1 rfl (s_val rfl rfl (r_peq rfl un75 rfl rfl) (s_k 2 rfl (s_val rfl rfl (r_lt rfl rfl rfl) (s_k 2 rfl ?_)))))))))))))
 refine s_dec (d := 11) rfl (fun h1 => ?_) (fun h1 => ?_)
 ·refine s_k 10 rfl (s_nil (q_then (c_yes rfl (c_seq (c_reg (s_1 rfl (s_nil (q_then (c_ret (q_thenR (q_ret1 rfl rfl ?_)))))))))))
  replace H : Hd _ _ _ [] [blk r (redC (.slice A m c) vM2 vC2 vR2 vK2 J2 cw ct co part ep g hv sb vs) 185] := H
  exact fin ⟨rfl, rfl⟩ H
 refine s_k 2 rfl (s_val rfl rfl (r_nilP rfl rfl) (s_val rfl rfl (r_fa rfl fo185_0 rfl) (s_val rfl rfl (r_fa rfl fo28_0 rfl) (s_val rfl rfl (r_fa rfl fo26_0 rfl) (s_val rfl rfl (r_ld rfl ty22 rfl (H.cellRI 0 rfl rfl)) (s_val rfl rfl (r_lenL rfl un22 rfl) (s_val rfl rfl (r_ge rfl rfl rfl) (s_1 rfl (s_nil (q_then ?_))))))))))
 refine c_dec rfl (fun h2 => ?_) (fun h2 => ?_)
 ·refine c_seq (c_reg (s_1 rfl (s_nil (q_then (c_ret (q_thenR (q_ret1 rfl rfl ?_)))))))
  replace H : Hd _ _ _ [] [blk r (redC (.slice A m c) vM2 vC2 vR2 vK2 J2 cw ct co part ep g hv sb vs) 185] := H
  exact fin ⟨rfl, rfl⟩ H
 exact c_skip (q_then (c_seq (c_reg (s_k 2 rfl (s_val rfl rfl (r_nilP rfl rfl) (s_val rfl rfl (r_fa rfl fo185_3 rfl) (s_val rfl rfl (r_iaB (p := 14 + (n).toNat * 5) rfl un182 is181 rfl rfl (by omega) (by omega) (by omega)) (s_1 rfl (s_nil (q_then (c_ret (q_ret1 rfl rfl (absurd (by omega) hn)))))))))))))
theorem two_ok (vxs : Value) (xs : List Pair) (vys : Value) (ys : List Pair) (hb : xs.length + ys.length ≤ 1000000) :
    Cn Tryz.prog 185 [vxs, vys] [] [rsl kPair vxs xs, rsl kPair vys ys] (fun v Bs => Bs = [osl kPair v (srt (xs ++ ys))]) := by
 intro w0 F0 H
 obtain ⟨A1, c2, rfl, hc3, hm4, hp5⟩ := H.fR 0 rfl
 obtain ⟨A6, c7, rfl, hc8, hm9, hp10⟩ := H.fR 1 rfl
 refine enter Tryz.func185 rfl rfl (Nat.le_of_ble_eq_true rfl) (c_seq (c_reg (s_1 rfl (s_nil (q_then ?_)))))
 replace H : Hd _ _ _ [] [rsl kPair (.slice A1 xs.length c2) xs, rsl kPair (.slice A6 ys.length c7) ys] := H
 refine c_seq (c_seq (c_reg (s_1 rfl (sc (sorted_ok (.slice A1 xs.length c2) xs (by first | omega | decide | (simp only [List.length_append, List.length_cons, List.length_nil, srt_len]; omega))) H (lR 0 rfl l0) rfl rfl (e_fn kn218 rfl rfl) ?_))))
 rintro _ _ w ⟨rfl, rfl⟩ H
 refine s_val rfl rfl (r_notP rfl rfl) (s_1 rfl ?_)
 refine s_dec (d := 9) rfl (fun h11 => ?_) (fun h11 => ?_)
 ·refine s_k 4 rfl (s_nil (q_then (c_yes rfl (c_seq (c_reg (s_1 rfl ?_))))))
  replace H := H.newnil kPair
  refine s_appF (xs := []) (ys := xs) rfl rfl rfl sl35 zr106 rfl (by decide) rfl rfl H (by first | omega | (simp only [List.length_append, List.length_cons, List.length_nil]; omega)) (fun F hA hR => hR _ (List.mem_of_getElem? (i := 0) rfl)) (fun v12 w H => (s_1 rfl (s_appF (xs := [] ++ xs) (ys := ys) rfl rfl rfl sl35 zr106 rfl (by decide) rfl rfl H (by first | omega | (simp only [List.length_append, List.length_cons, List.length_nil]; omega)) (fun F hA hR => hR _ (List.mem_of_getElem? (i := 1) rfl)) (fun v13 w H => ?_))))
  replace H : Hd _ _ _ [osl kPair v13 (([] ++ xs) ++ ys)] [rsl kPair (.slice A1 xs.length c2) xs, rsl kPair (.slice A6 ys.length c7) ys] := H
  refine sc (pairSort_ok v13 (([] ++ xs) ++ ys) (by first | omega | decide | (simp only [List.length_append, List.length_cons, List.length_nil, srt_len]; omega))) H (lA 0 rfl own_rd l0) rfl rfl (e_fn kn176 rfl rfl) ?_
  rintro v14 _ w rfl H
  replace H := H.h1 (A := osl kPair v14 (srt (([] ++ xs) ++ ys)))
  refine s_1 rfl (s_nil (q_then (c_ret (q_thenR (q_ret1 rfl rfl ?_)))))
  replace H := H.k1.h1 (A := osl kPair v14 (srt (xs ++ ys)))
  exact fin rfl H
 refine s_1 rfl (sc (sorted_ok (.slice A6 ys.length c7) ys (by first | omega | decide | (simp only [List.length_append, List.length_cons, List.length_nil, srt_len]; omega))) H (lR 1 rfl l0) rfl rfl (e_fn kn218 rfl rfl) ?_)
 rintro _ _ w ⟨rfl, rfl⟩ H
 refine s_val rfl rfl (r_notP rfl rfl) (s_1 rfl (s_nil (q_then ?_)))
 refine c_dec rfl (fun h15 => ?_) (fun h15 => ?_)
 ·refine c_seq (c_reg (s_1 rfl ?_))
  replace H := H.newnil kPair
  refine s_appF (xs := []) (ys := xs) rfl rfl rfl sl35 zr106 rfl (by decide) rfl rfl H (by first | omega | (simp only [List.length_append, List.length_cons, List.length_nil]; omega)) (fun F hA hR => hR _ (List.mem_of_getElem? (i := 0) rfl)) (fun v16 w H => (s_1 rfl (s_appF (xs := [] ++ xs) (ys := ys) rfl rfl rfl sl35 zr106 rfl (by decide) rfl rfl H (by first | omega | (simp only [List.length_append, List.length_cons, List.length_nil]; omega)) (fun F hA hR => hR _ (List.mem_of_getElem? (i := 1) rfl)) (fun v17 w H => ?_))))
  replace H : Hd _ _ _ [osl kPair v17 (([] ++ xs) ++ ys)] [rsl kPair (.slice A1 xs.length c2) xs, rsl kPair (.slice A6 ys.length c7) ys] := H
  refine sc (pairSort_ok v17 (([] ++ xs) ++ ys) (by first | omega | decide | (simp only [List.length_append, List.length_cons, List.length_nil, srt_len]; omega))) H (lA 0 rfl own_rd l0) rfl rfl (e_fn kn176 rfl rfl) ?_
  rintro v18 _ w rfl H
  replace H := H.h1 (A := osl kPair v18 (srt (([] ++ xs) ++ ys)))
  refine s_1 rfl (s_nil (q_then (c_ret (q_thenR (q_ret1 rfl rfl ?_)))))
  replace H := H.k1.h1 (A := osl kPair v18 (srt (xs ++ ys)))
  exact fin rfl H
 refine c_skip (q_then (c_seq ?_))
 have hoxs : Ord xs := Classical.not_not.1 h11
 have hoys : Ord ys := Classical.not_not.1 h15
 refine c_reg (s_1 rfl (s_nil (q_then (c_seq (c_block ?_)))))
 replace H := H.newnil kPair |>.dupR 1 rfl |>.dupR 1 rfl
 refine c_loop (σ := Value × Value × List Pair × List Pair × Value × List Pair) (fun (u, v, al, bl, q, zs) => [(0, u), (1, v), (4, .slice none 0 0), (5, q)]) (fun (u, v, al, bl, q, zs) w => (Hd w0 F0 w [osl kPair q zs] [rsl kPair u al, rsl kPair v bl, rsl kPair (.slice A1 xs.length c2) xs, rsl kPair (.slice A6 ys.length c7) ys]) ∧ (Ord al) ∧ (Ord bl) ∧ (zs.length + (al.length + bl.length) = xs.length + ys.length) ∧ (zs ++ srt (al ++ bl) = srt (xs ++ ys))) (fun (u, v, al, bl, q, zs) => al.length + bl.length) (.slice A1 xs.length c2, .slice A6 ys.length c7, xs, ys, .slice none 0 0, []) ⟨rfl, rfl, rfl, rfl, trivial⟩ ⟨H, hoxs, hoys, by (try dsimp only); simp only [List.length_nil]; omega, rfl⟩ ?_
 rintro ⟨u, v, al, bl, q, zs⟩ w ⟨H, ha, hb2, hl, hz⟩
 refine c_seq (c_seq (c_reg (s_1 rfl ?_)))
 obtain ⟨A19, c20, rfl, hc21, hm22, hp23⟩ := H.fR 0 rfl
 refine s_val rfl rfl (r_lenL rfl un35 rfl) (s_val rfl rfl (r_gt rfl rfl rfl) (s_1 rfl ?_))
 refine s_dec (d := 22) rfl (fun h24 => ?_) (fun h24 => ?_)
 ·refine s_1 rfl ?_
  obtain ⟨A25, c26, rfl, hc27, hm28, hp29⟩ := H.fR 1 rfl
  refine s_val rfl rfl (r_lenL rfl un35 rfl) (s_val rfl rfl (r_gt rfl rfl rfl) (s_1 rfl (s_nil (q_then ?_))))
  replace H : Hd _ _ _ [osl kPair q zs] [rsl kPair (.slice A19 al.length c20) al, rsl kPair (.slice A25 bl.length c26) bl, rsl kPair (.slice A1 xs.length c2) xs, rsl kPair (.slice A6 ys.length c7) ys] := H
  refine c_dec rfl (fun h30 => ?_) (fun h30 => ?_)
  ·refine c_skip (q_then (c_block (c_seq (c_seq (c_draw mo (by kernel_rfl) H (u_1 rfl ?_))))))
   obtain ⟨x31, hx32⟩ : ∃ z9, bl[0]? = some z9 := ⟨_, List.getElem?_eq_getElem (show 0 < bl.length by omega)⟩
   have th33 := H.thR 1 rfl hx32
   refine u_val rfl rfl (fun w H => r_iaE (p := oOf A25 + 0 * 2) rfl sl35 rfl rfl (by omega) (by omega) th33 (by omega)) (u_val rfl rfl (fun w H => r_fa rfl fo106_0 rfl) (u_val rfl rfl (fun w H => r_ld rfl ty9 rfl (H.elR 1 rfl hx32 (q := 0) rfl rfl)) (u_1 rfl ?_)))
   obtain ⟨x34, hx35⟩ : ∃ z9, al[0]? = some z9 := ⟨_, List.getElem?_eq_getElem (show 0 < al.length by omega)⟩
   have th36 := H.thR 0 rfl hx35
   refine u_val rfl rfl (fun w H => r_iaE (p := oOf A19 + 0 * 2) rfl sl35 rfl rfl (by omega) (by omega) th36 (by omega)) (u_val rfl rfl (fun w H => r_fa rfl fo106_0 rfl) (u_val rfl rfl (fun w H => r_ld rfl ty9 rfl (H.elR 0 rfl hx35 (q := 0) rfl rfl)) (u_val rfl rfl (fun w H => r_ltS rfl rfl rfl) (u_end (fun w H => (q_then ?_))))))
   refine c_dec rfl (fun h37 => ?_) (fun h37 => ?_)
   ·refine c_seq (c_reg (s_k 2 rfl ?_))
    have th38 := H.thR 1 rfl hx32
    refine s_val rfl rfl (r_iaE (p := oOf A25 + 0 * 2) rfl sl35 rfl rfl (by omega) (by omega) th38 (by omega)) (s_val rfl rfl (r_ldA (cs := [.string x31.key, .string x31.val]) rfl ty106 rfl rfl (H.elsR 1 rfl hx32 rfl)) (s_bsl (parts := [(0, .tmp 39)]) (vs := [.agg #[.string x31.key, .string x31.val]]) (cs := [.string x31.key, .string x31.val]) rfl rfl rfl sl35 zr106 rfl (by decide) (by decide) rfl rfl H (fun b39 w H => ?_)))
    replace H := H.p1
    refine s_appF (xs := zs) (ys := [x31]) rfl rfl rfl sl35 zr106 rfl (by decide) rfl rfl H (by first | omega | (simp only [List.length_append, List.length_cons, List.length_nil]; omega)) (fun F hA hR => blk_rsl (hA _ (List.mem_of_getElem? (i := 0) rfl)) rfl (by decide) (RepsR.flat_eq.2 rfl)) (fun v40 w H => (s_1 rfl (s_nil (q_then ?_))))
    replace H : Hd _ _ _ [osl kPair v40 (zs ++ [x31]), blk b39 [.string x31.key, .string x31.val] 106] [rsl kPair (.slice A19 al.length c20) al, rsl kPair (.slice A25 bl.length c26) bl, rsl kPair (.slice A1 xs.length c2) xs, rsl kPair (.slice A6 ys.length c7) ys] := H
    refine c_seq (c_reg (s_1 rfl (s_val rfl rfl (r_cutS rfl sl35 rfl rfl (by omega) (by omega) rfl) (s_1 rfl (s_nil (q_then (c_exit (q_thenE (q_blockE ?_)))))))))
    replace H := H.k1.sufR 1 rfl (n := 1) (by omega)
    replace H : Hd w0 F0 w [osl kPair v40 (zs ++ [x31])] [rsl kPair (.slice A19 al.length c20) al, rsl kPair (.slice (cutA A25 c26 1 2) (bl.length - 1) (c26 - 1)) (bl.drop 1), rsl kPair (.slice A1 xs.length c2) xs, rsl kPair (.slice A6 ys.length c7) ys] := H.pickR [1, 0, 3, 4]
    have hz2 : (zs ++ [x31]) ++ srt (al ++ bl.drop 1) = srt (xs ++ ys) := by rw [← hz, mer_b hx35 hx32 ha hb2 h37, List.append_assoc]; rfl
    exact q_round (s := (undef, undef, al, bl, undef, zs)) (.slice A19 al.length c20, .slice (cutA A25 c26 1 2) (bl.length - 1) (c26 - 1), al, bl.drop 1, v40, zs ++ [x31]) ⟨rfl, rfl, rfl, rfl, trivial⟩ ⟨H, ha, ord_drop hb2 1, by (try dsimp only); simp only [List.length_append, List.length_cons, List.length_nil, List.length_drop]; omega, hz2⟩ (by (try dsimp only); simp only [List.length_drop]; omega)
   refine c_skip (q_then (c_seq (c_reg (s_k 2 rfl ?_))))
   have th41 := H.thR 0 rfl hx35
   refine s_val rfl rfl (r_iaE (p := oOf A19 + 0 * 2) rfl sl35 rfl rfl (by omega) (by omega) th41 (by omega)) (s_val rfl rfl (r_ldA (cs := [.string x34.key, .string x34.val]) rfl ty106 rfl rfl (H.elsR 0 rfl hx35 rfl)) (s_bsl (parts := [(0, .tmp 47)]) (vs := [.agg #[.string x34.key, .string x34.val]]) (cs := [.string x34.key, .string x34.val]) rfl rfl rfl sl35 zr106 rfl (by decide) (by decide) rfl rfl H (fun b42 w H => ?_)))
   replace H := H.p1
   refine s_appF (xs := zs) (ys := [x34]) rfl rfl rfl sl35 zr106 rfl (by decide) rfl rfl H (by first | omega | (simp only [List.length_append, List.length_cons, List.length_nil]; omega)) (fun F hA hR => blk_rsl (hA _ (List.mem_of_getElem? (i := 0) rfl)) rfl (by decide) (RepsR.flat_eq.2 rfl)) (fun v43 w H => (s_1 rfl (s_nil (q_then ?_))))
   replace H : Hd _ _ _ [osl kPair v43 (zs ++ [x34]), blk b42 [.string x34.key, .string x34.val] 106] [rsl kPair (.slice A19 al.length c20) al, rsl kPair (.slice A25 bl.length c26) bl, rsl kPair (.slice A1 xs.length c2) xs, rsl kPair (.slice A6 ys.length c7) ys] := H
   refine c_reg (s_1 rfl (s_val rfl rfl (r_cutS rfl sl35 rfl rfl (by omega) (by omega) rfl) (s_1 rfl (s_nil (q_blockN ?_)))))
   replace H := H.k1.sufR 0 rfl (n := 1) (by omega)
   replace H : Hd w0 F0 w [osl kPair v43 (zs ++ [x34])] [rsl kPair (.slice (cutA A19 c20 1 2) (al.length - 1) (c20 - 1)) (al.drop 1), rsl kPair (.slice A25 bl.length c26) bl, rsl kPair (.slice A1 xs.length c2) xs, rsl kPair (.slice A6 ys.length c7) ys] := H.pickR [0, 2, 3, 4]
   have hz2 : (zs ++ [x34]) ++ srt (al.drop 1 ++ bl) = srt (xs ++ ys) := by rw [← hz, mer_a hx35 hx32 ha hb2 h37, List.append_assoc]; rfl
   exact q_round (s := (undef, undef, al, bl, undef, zs)) (.slice (cutA A19 c20 1 2) (al.length - 1) (c20 - 1), .slice A25 bl.length c26, al.drop 1, bl, v43, zs ++ [x34]) ⟨rfl, rfl, rfl, rfl, trivial⟩ ⟨H, ord_drop ha 1, hb2, by (try dsimp only); simp only [List.length_append, List.length_cons, List.length_nil, List.length_drop]; omega, hz2⟩ (by (try dsimp only); simp only [List.length_drop]; omega)
  refine c_exit (q_thenE (q_thenE (q_blockE (q_then (c_seq (c_reg (s_k 2 rfl (s_appF (xs := zs) (ys := al) rfl rfl rfl sl35 zr106 rfl (by decide) rfl rfl H (by first | omega | (simp only [List.length_append, List.length_cons, List.length_nil]; omega)) (fun F hA hR => hR _ (List.mem_of_getElem? (i := 0) rfl)) (fun v44 w H => (s_1 rfl (s_appF (xs := zs ++ al) (ys := bl) rfl rfl rfl sl35 zr106 rfl (by decide) rfl rfl H (by first | omega | (simp only [List.length_append, List.length_cons, List.length_nil]; omega)) (fun F hA hR => hR _ (List.mem_of_getElem? (i := 1) rfl)) (fun v45 w H => ?_))))))))))))
  replace H := H.h1 (A := osl kPair v45 ((zs ++ al) ++ bl))
  refine s_1 rfl (s_nil (q_then (c_ret (q_ret1 rfl rfl ?_))))
  replace H : Hd w0 F0 w [osl kPair v45 (srt (xs ++ ys))] [rsl kPair (.slice A19 al.length c20) al, rsl kPair (.slice A25 bl.length c26) bl, rsl kPair (.slice A1 xs.length c2) xs, rsl kPair (.slice A6 ys.length c7) ys] := by rw [← hz, mer_end ha hb2 (by omega), ← List.append_assoc]; exact H
  replace H := H.dropR |>.dropR
  exact fin rfl H
 refine s_k 4 rfl (s_nil (q_then ?_))
 replace H : Hd _ _ _ [osl kPair q zs] [rsl kPair (.slice A19 al.length c20) al, rsl kPair v bl, rsl kPair (.slice A1 xs.length c2) xs, rsl kPair (.slice A6 ys.length c7) ys] := H
 refine c_no rfl (c_exit (q_thenE (q_thenE (q_blockE (q_then (c_seq (c_reg (s_k 2 rfl (s_appF (xs := zs) (ys := al) rfl rfl rfl sl35 zr106 rfl (by decide) rfl rfl H (by first | omega | (simp only [List.length_append, List.length_cons, List.length_nil]; omega)) (fun F hA hR => hR _ (List.mem_of_getElem? (i := 0) rfl)) (fun v46 w H => (s_1 rfl ?_)))))))))))
 obtain ⟨A47, c48, rfl, hc49, hm50, hp51⟩ := H.fR 1 rfl
 refine s_appF (xs := zs ++ al) (ys := bl) rfl rfl rfl sl35 zr106 rfl (by decide) rfl rfl H (by first | omega | (simp only [List.length_append, List.length_cons, List.length_nil]; omega)) (fun F hA hR => hR _ (List.mem_of_getElem? (i := 1) rfl)) (fun v52 w H => (s_1 rfl (s_nil (q_then ?_))))
 replace H : Hd _ _ _ [osl kPair v52 ((zs ++ al) ++ bl)] [rsl kPair (.slice A19 al.length c20) al, rsl kPair (.slice A47 bl.length c48) bl, rsl kPair (.slice A1 xs.length c2) xs, rsl kPair (.slice A6 ys.length c7) ys] := H
 refine c_ret (q_ret1 rfl rfl ?_)
 replace H : Hd w0 F0 w [osl kPair v52 (srt (xs ++ ys))] [rsl kPair (.slice A19 al.length c20) al, rsl kPair (.slice A47 bl.length c48) bl, rsl kPair (.slice A1 xs.length c2) xs, rsl kPair (.slice A6 ys.length c7) ys] := by rw [← hz, mer_end ha hb2 (by omega), ← List.append_assoc]; exact H
 replace H := H.dropR |>.dropR
 exact fin rfl H
theorem runs_ok (vus : Value) (us : List (Value × List Pair)) (hb : (flat2 us).length ≤ 1000000) :
    Cn Tryz.prog 138 [vus] [] [rsl (kHd kPair) vus us] (fun v Bs => Bs = [osl kPair v (srt (flat2 us))]) := by
 intro w0 F0 H
 obtain ⟨A1, c2, rfl, hc3, hm4, hp5⟩ := H.fR 0 rfl
 refine enter Tryz.func138 rfl rfl (Nat.le_of_ble_eq_true rfl) (c_seq (c_reg (s_1 rfl (s_nil (q_then ?_)))))
 replace H : Hd _ _ _ [] [rsl (kHd kPair) (.slice A1 us.length c2) us] := H
 refine c_seq (c_reg (s_1 rfl (s_nil (q_then (c_seq (c_seq (c_reg (s_1 rfl (s_val rfl rfl (r_lenL rfl un22 rfl) (s_1 rfl (s_nil (q_then (c_block ?_)))))))))))))
 replace H := H.newnil kPair
 refine c_loop (σ := Nat × Value) (fun (k, q) => [(2, .slice none 0 0), (3, q), (6, .slice A1 us.length c2), (7, .int .i64 ((us.length : Nat) : Int)), (8, .int .i64 ((k : Nat) : Int))]) (fun (k, q) w => (Hd w0 F0 w [osl kPair q (srt (flat2 (us.take k)))] [rsl (kHd kPair) (.slice A1 us.length c2) us]) ∧ (k ≤ us.length)) (fun (k, q) => us.length - k) (0, .slice none 0 0) ⟨rfl, rfl, rfl, rfl, rfl, trivial⟩ ⟨H, by (try dsimp only); omega⟩ ?_
 rintro ⟨k, q⟩ w ⟨H, hk⟩
 have hsl := srt_len (flat2 (us.take k))
 refine c_seq (c_reg (s_val rfl rfl (r_lt rfl rfl rfl) (s_nil (q_then (c_seq ?_)))))
 refine c_dec rfl (fun h6 => ?_) (fun h6 => ?_)
 ·refine c_skip (q_then (c_seq (c_block (c_seq (c_reg ?_)))))
  obtain ⟨⟨u9, x7⟩, hx8⟩ : ∃ z9, us[k]? = some z9 := ⟨_, List.getElem?_eq_getElem (show k < us.length by omega)⟩
  obtain ⟨A10, c11, rfl, hc12, hm13⟩ := H.nestR 0 rfl hx8
  have th14 := H.thRd 0 rfl hx8
  refine s_val rfl rfl (r_iaE (p := oOf A1 + k * 1) rfl sl22 rfl rfl (by omega) (by omega) th14 rfl) (s_val rfl rfl (r_ld rfl ty35 rfl (H.elRd 0 rfl hx8 rfl)) (s_1 rfl (s_nil (q_then ?_))))
  have hfl := flat2_le us (k + 1)
  rw [flat2_step hx8, List.length_append] at hfl
  refine c_reg (s_k 2 rfl (sc (two_ok q (srt (flat2 (us.take k))) (.slice A10 x7.length c11) x7 (by first | omega | decide | (simp only [List.length_append, List.length_cons, List.length_nil, srt_len]; omega))) H (lA 0 rfl own_rd (lX (fun F hA hR => nest_rsl (hR _ (List.mem_of_getElem? (i := 0) rfl)) hx8) l0)) rfl rfl (e_fn kn185 rfl rfl) ?_))
  rintro v15 _ w rfl H
  refine s_1 rfl (s_nil (q_blockN (q_then ?_)))
  replace H : Hd _ _ _ [osl kPair v15 (srt ((srt (flat2 (us.take k))) ++ x7)), osl kPair q (srt (flat2 (us.take k)))] [rsl (kHd kPair) (.slice A1 us.length c2) us] := H
  refine c_reg (s_val rfl rfl (r_add (z := ((k + 1 : Nat) : Int)) rfl rfl rfl (by rw [w64 (by omega) (by omega)]; omega)) (s_1 rfl (s_nil ?_)))
  replace H := H.k1
  replace H : Hd w0 F0 w [osl kPair v15 (srt (flat2 (us.take (k + 1))))] [rsl (kHd kPair) (.slice A1 us.length c2) us] := by rw [flat2_step hx8, ← srt_app_srt]; exact H
  exact q_round (s := (k, undef)) (k + 1, v15) ⟨rfl, rfl, rfl, rfl, rfl, trivial⟩ ⟨H, by (try dsimp only); omega⟩ (by (try dsimp only); omega)
 refine c_exit (q_thenE (q_thenE (q_blockE (q_then (c_seq (c_reg (s_k 2 rfl (s_nil (q_then (c_ret (q_ret1 rfl rfl ?_)))))))))))
 replace H : Hd w0 F0 w [osl kPair q (srt (flat2 us))] [rsl (kHd kPair) (.slice A1 us.length c2) us] := by rw [List.take_of_length_le (show us.length ≤ k by omega)] at H; exact H
 exact fin rfl H
theorem mapped_ok (vS vM vC vR vK : Value) (J : Job) (hJ : OkJ J) (s : Nat) (hs : s < J.us.length) :
    Cn Tryz.prog 124 [.agg #[vS, .int .i64 J.parts, vM, vC, vR, .int .i64 J.chunk, .int .i64 J.window, .int .i64 J.fuel, vK], .int .i64 ((s : Nat) : Int)] [] [rsl (kHd kPair) vS J.us, rsl kIns vM J.map, rsl kIns vC J.comb, rsl kIns vR J.red, rsl (kInt .i64) vK J.marks, gl] (fun v Bs => ∃ u, v = .tuple #[u, .int .i64 (mapM dg J s).2] ∧ Bs = [osl kPair u (mapM dg J s).1]) := by
 intro w0 F0 H
 obtain ⟨A1, c2, rfl, hc3, hm4, hp5⟩ := H.fR 0 rfl
 obtain ⟨A6, c7, rfl, hc8, hm9, hp10⟩ := H.fR 1 rfl
 obtain ⟨A11, c12, rfl, hc13, hm14, hp15⟩ := H.fR 2 rfl
 obtain ⟨A16, c17, rfl, hc18, hm19, hp20⟩ := H.fR 3 rfl
 obtain ⟨A21, c22, rfl, hc23, hm24, hp25⟩ := H.fR 4 rfl
 have hus := hJ.us
 have hpt := hJ.parts
 have hfu := hJ.fuel
 refine enter Tryz.func124 rfl rfl (Nat.le_of_ble_eq_true rfl) (c_seq (c_reg (s_box rfl rfl rfl rfl H (fun b26 w H => (s_k 2 rfl (s_nil (q_then ?_)))))))
 replace H : Hd _ _ _ [blk b26 [.slice A1 J.us.length c2, .int .i64 J.parts, .slice A6 J.map.length c7, .slice A11 J.comb.length c12, .slice A16 J.red.length c17, .int .i64 J.chunk, .int .i64 J.window, .int .i64 J.fuel, .slice A21 J.marks.length c22] 26] [rsl (kHd kPair) (.slice A1 J.us.length c2) J.us, rsl kIns (.slice A6 J.map.length c7) J.map, rsl kIns (.slice A11 J.comb.length c12) J.comb, rsl kIns (.slice A16 J.red.length c17) J.red, rsl (kInt .i64) (.slice A21 J.marks.length c22) J.marks, gl] := H
 refine c_seq (c_reg (s_1 rfl (s_nil (q_then (c_seq (c_seq (c_reg (s_val rfl rfl (r_fa rfl fo26_0 rfl) (s_val rfl rfl (r_ld rfl ty22 rfl (H.cellI 0 rfl rfl)) (s_1 rfl ?_))))))))))
 obtain ⟨⟨u29, x27⟩, hx28⟩ : ∃ z9, J.us[s]? = some z9 := ⟨_, List.getElem?_eq_getElem (show s < J.us.length by omega)⟩
 obtain ⟨A30, c31, rfl, hc32, hm33⟩ := H.nestR 0 rfl hx28
 have th34 := H.thRd 0 rfl hx28
 refine s_val rfl rfl (r_iaE (p := oOf A1 + s * 1) rfl sl22 rfl rfl (by omega) (by omega) th34 rfl) (s_val rfl rfl (r_ld rfl ty35 rfl (H.elRd 0 rfl hx28 rfl)) (s_val rfl rfl (r_lenL rfl un35 rfl) (s_1 rfl (s_nil (q_then (c_block ?_))))))
 have hrec := recs_at hx28
 have hrl : x27.length ≤ 8 := (hJ.split _ (at_mem hx28)).1
 replace H := H.addR (R := rsl kPair (.slice A30 x27.length c31) x27) fun _ h => nest_rsl (h _ (List.mem_of_getElem? (i := 0) rfl)) hx28
 replace H := H.newnil kPair
 refine c_loop (σ := Nat × Value × List Pair) (fun (i, q, out) => [(2, .pointer (some ⟨b26, 0, none⟩)), (6, q), (15, .slice A30 x27.length c31), (16, .int .i64 ((x27.length : Nat) : Int)), (17, .int .i64 ((i : Nat) : Int))]) (fun (i, q, out) w => (Hd w0 F0 w [osl kPair q out, blk b26 [.slice A1 J.us.length c2, .int .i64 J.parts, .slice A6 J.map.length c7, .slice A11 J.comb.length c12, .slice A16 J.red.length c17, .int .i64 J.chunk, .int .i64 J.window, .int .i64 J.fuel, .slice A21 J.marks.length c22] 26] [rsl kPair (.slice A30 x27.length c31) x27, rsl (kHd kPair) (.slice A1 J.us.length c2) J.us, rsl kIns (.slice A6 J.map.length c7) J.map, rsl kIns (.slice A11 J.comb.length c12) J.comb, rsl kIns (.slice A16 J.red.length c17) J.red, rsl (kInt .i64) (.slice A21 J.marks.length c22) J.marks, gl]) ∧ (i ≤ x27.length) ∧ (mapGo dg J.map J.fuel (x27.drop i) out = mapGo dg J.map J.fuel x27 []) ∧ (out.length ≤ 40)) (fun (i, q, out) => x27.length - i) (0, .slice none 0 0, []) ⟨rfl, rfl, rfl, rfl, rfl, trivial⟩ ⟨H, Nat.zero_le _, rfl, Nat.zero_le _⟩ ?_
 rintro ⟨i, q, out⟩ w ⟨H, hi, hgo, ho⟩
 refine c_seq (c_reg (s_val rfl rfl (r_lt rfl rfl rfl) (s_nil (q_then (c_seq ?_)))))
 refine c_dec rfl (fun h35 => ?_) (fun h35 => ?_)
 ·refine c_skip (q_then (c_seq (c_block (c_seq (c_reg ?_)))))
  obtain ⟨x36, hx37⟩ : ∃ z9, x27[i]? = some z9 := ⟨_, List.getElem?_eq_getElem (show i < x27.length by omega)⟩
  have th38 := H.thR 0 rfl hx37
  refine s_val rfl rfl (r_iaE (p := oOf A30 + i * 2) rfl sl35 rfl rfl (by omega) (by omega) th38 rfl) (s_val rfl rfl (r_ldA (cs := [.string x36.key, .string x36.val]) rfl ty106 rfl rfl (H.elsR 0 rfl hx37 rfl)) (s_alloc rfl rfl rfl zr106 H (fun b39 w H => (s_st rfl rfl rfl ty106 rfl rfl H rfl (Nat.le_of_ble_eq_true rfl) (fun u hu => by simp [Value.cells] at hu; rcases hu with rfl | rfl <;> rfl) (fun w H => ?_)))))
  replace H : Hd _ _ _ [blk b39 [.string x36.key, .string x36.val] 106, osl kPair q out, blk b26 [.slice A1 J.us.length c2, .int .i64 J.parts, .slice A6 J.map.length c7, .slice A11 J.comb.length c12, .slice A16 J.red.length c17, .int .i64 J.chunk, .int .i64 J.window, .int .i64 J.fuel, .slice A21 J.marks.length c22] 26] [rsl kPair (.slice A30 x27.length c31) x27, rsl (kHd kPair) (.slice A1 J.us.length c2) J.us, rsl kIns (.slice A6 J.map.length c7) J.map, rsl kIns (.slice A11 J.comb.length c12) J.comb, rsl kIns (.slice A16 J.red.length c17) J.red, rsl (kInt .i64) (.slice A21 J.marks.length c22) J.marks, gl] := H
  refine s_nil (q_then (c_seq (c_reg (s_val rfl rfl (r_fa rfl fo26_2 rfl) (s_val rfl rfl (r_ld rfl ty23 rfl (H.cellI 2 rfl rfl)) (s_val rfl rfl (r_fa rfl fo106_0 rfl) (s_val rfl rfl (r_ld rfl ty9 rfl (H.cellI 0 rfl rfl)) (s_val rfl rfl (r_fa rfl fo106_1 rfl) (s_val rfl rfl (r_ld rfl ty9 rfl (H.cellI 0 rfl rfl)) (s_bsl (parts := [(0, .tmp 27)]) (vs := [.string x36.val]) (cs := [.string x36.val]) rfl rfl rfl sl241 zr9 rfl (by decide) (by decide) rfl rfl H (fun b40 w H => (s_val rfl rfl (r_fa rfl fo26_7 rfl) (s_val rfl rfl (r_ld rfl ty3 rfl (H.cellI 3 rfl rfl)) (sc (vmRun_ok (.slice A6 J.map.length c7) J.map x36.key (.slice (some ⟨b40, 0, none⟩) 1 1) [x36.val] J.fuel hJ.map hJ.f64) H (lR 2 rfl (lA 0 rfl (fun F h => blk_rsl h rfl (by decide) (RepsR.flat_eq.2 rfl)) (lR 6 rfl l0))) rfl rfl (e_fn kn175 rfl rfl) ?_))))))))))))))
  rintro _ _ w ⟨u41, rfl, rfl⟩ H
  replace H := H.h2 (A := osl kPair u41 ((runM dg J.map x36.key [x36.val] J.fuel).1)) (B := blk b40 [.string x36.val] 9)
  have hrt := run_told dg J.map x36.key [x36.val] J.fuel
  refine s_k 5 rfl (s_nil (q_then (c_seq (c_seq (c_reg (s_1 rfl (s_val rfl rfl (r_ne rfl rfl rfl) (s_nil (q_then ?_)))))))))
  refine c_dec rfl (fun h42 => ?_) (fun h42 => ?_)
  ·refine c_seq (c_reg (s_k 3 rfl (s_nil (q_then (c_ret (q_thenR (q_blockR (q_thenR (q_thenR (q_blockR (q_thenR (q_ret2 rfl rfl rfl ?_))))))))))))
   have e : mapM dg J s = ([], (runM dg J.map x36.key [x36.val] J.fuel).2) := by unfold mapM; rw [hrec]; exact hgo.symm.trans (map_why hx37 h42)
   replace H := H.nil |>.newnil kPair |>.dropR
   replace H : Hd _ _ _ [osl kPair (.slice none 0 0) []] [rsl (kHd kPair) (.slice A1 J.us.length c2) J.us, rsl kIns (.slice A6 J.map.length c7) J.map, rsl kIns (.slice A11 J.comb.length c12) J.comb, rsl kIns (.slice A16 J.red.length c17) J.red, rsl (kInt .i64) (.slice A21 J.marks.length c22) J.marks, gl] := H
   exact fin ⟨_, by rw [e] <;> rfl, by rw [e] <;> rfl⟩ H
  refine c_skip (q_then (c_seq (c_reg (s_k 2 rfl ?_))))
  replace H := H.p3
  obtain ⟨A43, c44, rfl, hc45, hm46, hp47⟩ := H.fA 1 rfl
  refine s_appF (xs := out) (ys := (runM dg J.map x36.key [x36.val] J.fuel).1) rfl rfl rfl sl35 zr106 rfl (by decide) rfl rfl H (by first | omega | (rw [List.length_append]; omega)) (fun F hA hR => own_rd F (hA _ (List.mem_of_getElem? (i := 0) rfl))) (fun v48 w H => (s_1 rfl (s_nil (q_then ?_))))
  replace H : Hd _ _ _ [osl kPair v48 (out ++ ((runM dg J.map x36.key [x36.val] J.fuel).1)), osl kPair (.slice A43 (((runM dg J.map x36.key [x36.val] J.fuel).1).length) c44) ((runM dg J.map x36.key [x36.val] J.fuel).1), blk b40 [.string x36.val] 9, blk b39 [.string x36.key, .string x36.val] 106, blk b26 [.slice A1 J.us.length c2, .int .i64 J.parts, .slice A6 J.map.length c7, .slice A11 J.comb.length c12, .slice A16 J.red.length c17, .int .i64 J.chunk, .int .i64 J.window, .int .i64 J.fuel, .slice A21 J.marks.length c22] 26] [rsl kPair (.slice A30 x27.length c31) x27, rsl (kHd kPair) (.slice A1 J.us.length c2) J.us, rsl kIns (.slice A6 J.map.length c7) J.map, rsl kIns (.slice A11 J.comb.length c12) J.comb, rsl kIns (.slice A16 J.red.length c17) J.red, rsl (kInt .i64) (.slice A21 J.marks.length c22) J.marks, gl] := H
  refine c_seq (c_reg (s_1 rfl ?_))
  obtain ⟨A49, c50, rfl, hc51, hm52, hp53⟩ := H.fA 0 rfl
  refine s_val rfl rfl (r_lenL rfl un35 rfl) (s_val rfl rfl (r_gt rfl rfl rfl) (s_nil (q_then ?_)))
  refine c_dec rfl (fun h54 => ?_) (fun h54 => ?_)
  ·refine c_seq (c_reg (s_k 2 rfl (s_nil (q_then (c_ret (q_blockR (q_thenR (q_thenR (q_blockR (q_thenR (q_ret2 rfl rfl rfl ?_)))))))))))
   have hap : (out ++ (runM dg J.map x36.key [x36.val] J.fuel).1).length = out.length + (runM dg J.map x36.key [x36.val] J.fuel).1.length := List.length_append
   have e : mapM dg J s = ([], 5) := by unfold mapM; rw [hrec]; exact hgo.symm.trans (map_many hx37 h42 (by omega))
   replace H := H.nil |>.newnil kPair |>.dropR
   replace H : Hd _ _ _ [osl kPair (.slice none 0 0) []] [rsl (kHd kPair) (.slice A1 J.us.length c2) J.us, rsl kIns (.slice A6 J.map.length c7) J.map, rsl kIns (.slice A11 J.comb.length c12) J.comb, rsl kIns (.slice A16 J.red.length c17) J.red, rsl (kInt .i64) (.slice A21 J.marks.length c22) J.marks, gl] := H
   exact fin ⟨_, by rw [e] <;> rfl, by rw [e] <;> rfl⟩ H
  refine c_skip (q_blockN (q_then (c_reg (s_val rfl rfl (r_add (z := ((i + 1 : Nat) : Int)) rfl rfl rfl (by rw [w64 (by omega) (by omega)]; omega)) (s_1 rfl (s_nil ?_))))))
  replace H := H.p4.p1.k2
  have hap : (out ++ (runM dg J.map x36.key [x36.val] J.fuel).1).length = out.length + (runM dg J.map x36.key [x36.val] J.fuel).1.length := List.length_append
  have hl2 : (out ++ (runM dg J.map x36.key [x36.val] J.fuel).1).length ≤ 40 := by omega
  have hg2 := (map_on (out := out) hx37 h42 (by omega)).trans hgo
  exact q_round (s := (i, undef, out)) (i + 1, .slice A49 ((out ++ ((runM dg J.map x36.key [x36.val] J.fuel).1)).length) c50, out ++ (runM dg J.map x36.key [x36.val] J.fuel).1) ⟨rfl, rfl, rfl, rfl, rfl, trivial⟩ ⟨H, by (try dsimp only); omega, hg2, hl2⟩ (by (try dsimp only); omega)
 refine c_exit (q_thenE (q_thenE (q_blockE (q_then (c_seq (c_reg (s_k 3 rfl (s_nil (q_then (c_ret (q_ret2 rfl rfl rfl ?_)))))))))))
 replace H := H.k1
 have e : mapM dg J s = (out, 0) := by unfold mapM; rw [hrec]; exact hgo.symm.trans (map_end (by omega))
 replace H := H.dropR
 replace H : Hd _ _ _ [osl kPair q out] [rsl (kHd kPair) (.slice A1 J.us.length c2) J.us, rsl kIns (.slice A6 J.map.length c7) J.map, rsl kIns (.slice A11 J.comb.length c12) J.comb, rsl kIns (.slice A16 J.red.length c17) J.red, rsl (kInt .i64) (.slice A21 J.marks.length c22) J.marks, gl] := H
 exact fin ⟨_, by rw [e] <;> rfl, by rw [e] <;> rfl⟩ H
theorem split_ok (vS vM vC vR vK : Value) (J : Job) (hJ : OkJ J) (s : Nat) (hs : s < J.us.length) :
    Cn Tryz.prog 53 [.agg #[vS, .int .i64 J.parts, vM, vC, vR, .int .i64 J.chunk, .int .i64 J.window, .int .i64 J.fuel, vK], .int .i64 ((s : Nat) : Int)] [] [rsl (kHd kPair) vS J.us, rsl kIns vM J.map, rsl kIns vC J.comb, rsl kIns vR J.red, rsl (kInt .i64) vK J.marks, gl] (fun v Bs => ∃ u, v = .tuple #[u, .int .i64 (splitM dg J s).2] ∧ Bs = [osl kPair u (splitM dg J s).1]) := by
 intro w0 F0 H
 obtain ⟨A1, c2, rfl, hc3, hm4, hp5⟩ := H.fR 0 rfl
 obtain ⟨A6, c7, rfl, hc8, hm9, hp10⟩ := H.fR 1 rfl
 obtain ⟨A11, c12, rfl, hc13, hm14, hp15⟩ := H.fR 2 rfl
 obtain ⟨A16, c17, rfl, hc18, hm19, hp20⟩ := H.fR 3 rfl
 obtain ⟨A21, c22, rfl, hc23, hm24, hp25⟩ := H.fR 4 rfl
 have hus := hJ.us
 have hpt := hJ.parts
 have hfu := hJ.fuel
 refine enter Tryz.func53 rfl rfl (Nat.le_of_ble_eq_true rfl) (c_seq (c_reg (s_box rfl rfl rfl rfl H (fun b26 w H => (s_k 2 rfl (s_nil (q_then ?_)))))))
 replace H : Hd _ _ _ [blk b26 [.slice A1 J.us.length c2, .int .i64 J.parts, .slice A6 J.map.length c7, .slice A11 J.comb.length c12, .slice A16 J.red.length c17, .int .i64 J.chunk, .int .i64 J.window, .int .i64 J.fuel, .slice A21 J.marks.length c22] 26] [rsl (kHd kPair) (.slice A1 J.us.length c2) J.us, rsl kIns (.slice A6 J.map.length c7) J.map, rsl kIns (.slice A11 J.comb.length c12) J.comb, rsl kIns (.slice A16 J.red.length c17) J.red, rsl (kInt .i64) (.slice A21 J.marks.length c22) J.marks, gl] := H
 refine c_seq (c_seq (c_reg (s_val rfl rfl (r_ldA (cs := [.slice A1 J.us.length c2, .int .i64 J.parts, .slice A6 J.map.length c7, .slice A11 J.comb.length c12, .slice A16 J.red.length c17, .int .i64 J.chunk, .int .i64 J.window, .int .i64 J.fuel, .slice A21 J.marks.length c22]) rfl ty26 rfl rfl (H.cellsI 0 rfl rfl)) (sc (jmay_ok (.slice A1 J.us.length c2) (.slice A6 J.map.length c7) (.slice A11 J.comb.length c12) (.slice A16 J.red.length c17) (.slice A21 J.marks.length c22) J) H (lR 0 rfl (lR 1 rfl (lR 2 rfl (lR 3 rfl (lR 4 rfl l0))))) rfl rfl (e_fn kn88 rfl rfl) ?_))))
 rintro _ _ w ⟨rfl, rfl⟩ H
 refine s_val rfl rfl (r_notP rfl rfl) (s_1 rfl ?_)
 refine s_dec (d := 11) rfl (fun h27 => ?_) (fun h27 => ?_)
 ·exact (h27 hJ.may).elim
 refine s_1 rfl (s_val rfl rfl (r_lt rfl rfl rfl) (s_k 2 rfl ?_))
 refine s_dec (d := 15) rfl (fun h28 => ?_) (fun h28 => ?_)
 ·exfalso; omega
 refine s_1 rfl (s_val rfl rfl (r_fa rfl fo26_0 rfl) (s_val rfl rfl (r_ld rfl ty22 rfl (H.cellI 0 rfl rfl)) (s_val rfl rfl (r_lenL rfl un22 rfl) (s_val rfl rfl (r_ge rfl rfl rfl) (s_1 rfl (s_nil (q_then ?_)))))))
 refine c_dec rfl (fun h29 => ?_) (fun h29 => ?_)
 ·exfalso; omega
 refine c_skip (q_then (c_seq (c_reg (s_val rfl rfl (r_ldA (cs := [.slice A1 J.us.length c2, .int .i64 J.parts, .slice A6 J.map.length c7, .slice A11 J.comb.length c12, .slice A16 J.red.length c17, .int .i64 J.chunk, .int .i64 J.window, .int .i64 J.fuel, .slice A21 J.marks.length c22]) rfl ty26 rfl rfl (H.cellsI 0 rfl rfl)) (s_1 rfl (sc (mapped_ok (.slice A1 J.us.length c2) (.slice A6 J.map.length c7) (.slice A11 J.comb.length c12) (.slice A16 J.red.length c17) (.slice A21 J.marks.length c22) J hJ s (by omega)) H (lR 0 rfl (lR 1 rfl (lR 2 rfl (lR 3 rfl (lR 4 rfl (lR 5 rfl l0)))))) rfl rfl (e_fn kn124 rfl rfl) ?_))))))
 rintro _ _ w ⟨u30, rfl, rfl⟩ H
 refine s_k 5 rfl (s_nil (q_then ?_))
 replace H : Hd _ _ _ [osl kPair u30 ((mapM dg J s).1), blk b26 [.slice A1 J.us.length c2, .int .i64 J.parts, .slice A6 J.map.length c7, .slice A11 J.comb.length c12, .slice A16 J.red.length c17, .int .i64 J.chunk, .int .i64 J.window, .int .i64 J.fuel, .slice A21 J.marks.length c22] 26] [rsl (kHd kPair) (.slice A1 J.us.length c2) J.us, rsl kIns (.slice A6 J.map.length c7) J.map, rsl kIns (.slice A11 J.comb.length c12) J.comb, rsl kIns (.slice A16 J.red.length c17) J.red, rsl (kInt .i64) (.slice A21 J.marks.length c22) J.marks, gl] := H
 refine c_seq (c_seq (c_reg (s_1 rfl (s_val rfl rfl (r_ne rfl rfl rfl) (s_nil (q_then ?_))))))
 refine c_dec rfl (fun h31 => ?_) (fun h31 => ?_)
 ·refine c_seq (c_reg (s_k 3 rfl (s_nil (q_then (c_ret (q_thenR (q_ret2 rfl rfl rfl ?_)))))))
  have e : splitM dg J s = ([], (mapM dg J s).2) := if_pos h31
  replace H := H.nil |>.newnil kPair
  exact fin ⟨_, by rw [e] <;> rfl, by rw [e] <;> rfl⟩ H
 refine c_skip (q_then (c_seq (c_reg (s_val rfl rfl (r_fa rfl fo26_3 rfl) (s_val rfl rfl (r_ld rfl ty23 rfl (H.cellI 1 rfl rfl)) (s_1 rfl (s_val rfl rfl (r_fa rfl fo26_7 rfl) (s_val rfl rfl (r_ld rfl ty3 rfl (H.cellI 1 rfl rfl)) ?_))))))))
 have hml := mapM_len dg J s
 refine sc (foldCombine_ok (.slice A11 J.comb.length c12) J.comb u30 ((mapM dg J s).1) J.fuel hJ.comb hJ.f64 (by omega)) H (lR 2 rfl (lA 0 rfl own_rd (lR 5 rfl l0))) rfl rfl (e_fn kn125 rfl rfl) ?_
 rintro _ _ w ⟨u32, rfl, rfl⟩ H
 replace H := H.h1 (A := osl kPair u32 ((combM dg J.comb (mapM dg J s).1 J.fuel).1))
 refine s_k 4 rfl (s_nil (q_then (c_ret (q_ret2 rfl rfl rfl ?_))))
 have e : splitM dg J s = combM dg J.comb (mapM dg J s).1 J.fuel := if_neg h31
 replace H := H.k1
 exact fin ⟨_, by rw [e] <;> rfl, by rw [e] <;> rfl⟩ H
theorem jrun_ok (vS vM vC vR vK : Value) (J : Job) (hJ : OkJ J) (s : Nat) (p : Int) (hs : s < J.us.length) :
    Cn Tryz.prog 54 [.agg #[vS, .int .i64 J.parts, vM, vC, vR, .int .i64 J.chunk, .int .i64 J.window, .int .i64 J.fuel, vK], .int .i64 ((s : Nat) : Int), .int .i64 p] [] [rsl (kHd kPair) vS J.us, rsl kIns vM J.map, rsl kIns vC J.comb, rsl kIns vR J.red, rsl (kInt .i64) vK J.marks, gl] (fun v Bs => ∃ u, v = .tuple #[u, .int .i64 (runJ dg J s p).2] ∧ Bs = [osl kPair u (runJ dg J s p).1]) := by
 intro w0 F0 H
 obtain ⟨A1, c2, rfl, hc3, hm4, hp5⟩ := H.fR 0 rfl
 obtain ⟨A6, c7, rfl, hc8, hm9, hp10⟩ := H.fR 1 rfl
 obtain ⟨A11, c12, rfl, hc13, hm14, hp15⟩ := H.fR 2 rfl
 obtain ⟨A16, c17, rfl, hc18, hm19, hp20⟩ := H.fR 3 rfl
 obtain ⟨A21, c22, rfl, hc23, hm24, hp25⟩ := H.fR 4 rfl
 have hus := hJ.us
 have hpt := hJ.parts
 have hfu := hJ.fuel
 refine enter Tryz.func54 rfl rfl (Nat.le_of_ble_eq_true rfl) (c_seq (c_reg (s_box rfl rfl rfl rfl H (fun b26 w H => (s_k 2 rfl (s_nil (q_then ?_)))))))
 replace H : Hd _ _ _ [blk b26 [.slice A1 J.us.length c2, .int .i64 J.parts, .slice A6 J.map.length c7, .slice A11 J.comb.length c12, .slice A16 J.red.length c17, .int .i64 J.chunk, .int .i64 J.window, .int .i64 J.fuel, .slice A21 J.marks.length c22] 26] [rsl (kHd kPair) (.slice A1 J.us.length c2) J.us, rsl kIns (.slice A6 J.map.length c7) J.map, rsl kIns (.slice A11 J.comb.length c12) J.comb, rsl kIns (.slice A16 J.red.length c17) J.red, rsl (kInt .i64) (.slice A21 J.marks.length c22) J.marks, gl] := H
 refine c_seq (c_reg (s_val rfl rfl (r_ldA (cs := [.slice A1 J.us.length c2, .int .i64 J.parts, .slice A6 J.map.length c7, .slice A11 J.comb.length c12, .slice A16 J.red.length c17, .int .i64 J.chunk, .int .i64 J.window, .int .i64 J.fuel, .slice A21 J.marks.length c22]) rfl ty26 rfl rfl (H.cellsI 0 rfl rfl)) (s_1 rfl (sc (split_ok (.slice A1 J.us.length c2) (.slice A6 J.map.length c7) (.slice A11 J.comb.length c12) (.slice A16 J.red.length c17) (.slice A21 J.marks.length c22) J hJ s (by omega)) H (lR 0 rfl (lR 1 rfl (lR 2 rfl (lR 3 rfl (lR 4 rfl (lR 5 rfl l0)))))) rfl rfl (e_fn kn53 rfl rfl) ?_))))
 rintro _ _ w ⟨u27, rfl, rfl⟩ H
 replace H := H.h1 (A := osl kPair u27 ((splitM dg J s).1))
 refine s_k 5 rfl (s_nil (q_then (c_seq (c_seq (c_reg (s_1 rfl (s_val rfl rfl (r_ne rfl rfl rfl) (s_nil (q_then ?_)))))))))
 refine c_dec rfl (fun h28 => ?_) (fun h28 => ?_)
 ·refine c_seq (c_reg (s_k 3 rfl (s_nil (q_then (c_ret (q_thenR (q_ret2 rfl rfl rfl ?_)))))))
  have e : runJ dg J s p = ([], (splitM dg J s).2) := if_pos h28
  replace H := H.nil |>.newnil kPair
  exact fin ⟨_, by rw [e] <;> rfl, by rw [e] <;> rfl⟩ H
 refine c_skip (q_then (c_seq (c_reg (s_1 rfl (s_val rfl rfl (r_fa rfl fo26_1 rfl) (s_val rfl rfl (r_ld rfl ty3 rfl (H.cellI 1 rfl rfl)) (s_1 rfl ?_)))))))
 have hsl := split_len dg J s
 have hsk : ∀ x ∈ (splitM dg J s).1, x.key.size ≤ 9223372036854775807 := fun x hx => by have := (split_small num_in hJ s x hx).1; omega
 refine sc (only_ok u27 ((splitM dg J s).1) J.parts p (by omega) (by omega) hsk) H (lA 0 rfl own_rd l0) rfl rfl (e_fn kn126 rfl rfl) ?_
 rintro u29 _ w rfl H
 replace H := H.h1 (A := osl kPair u29 (onlyM dg J s p))
 refine s_k 2 rfl (s_nil (q_then (c_ret (q_ret2 rfl rfl rfl ?_))))
 have e : runJ dg J s p = (onlyM dg J s p, 0) := if_neg h28
 replace H := H.k1
 exact fin ⟨_, by rw [e] <;> rfl, by rw [e] <;> rfl⟩ H
end Go.Proofs.YthgehekecfpikaaGreatDoor.X
