/- SnapOf: texts P3, F2, R2, R3, XRef2, R4, R5, J1, joined by a program of ours; what nothing names is left out. -/
import Derived.Test.YtlpgdkbokakniaaGreatDoorSnapOfQ3
set_option linter.unusedVariables false
set_option linter.unusedSimpArgs false
set_option maxHeartbeats 8000000
namespace Go.Proofs.YtlpgdkbokakniaaGreatDoor.X
open Go
theorem samePairs_ok (v1 v2 : Value) (xs ys : List Pair) :
    Cn Tryz.prog 19 [v1, v2] [] [rsl kPair v1 xs, rsl kPair v2 ys] (fun v Bs => v = .bool (decide (xs = ys)) ∧ Bs = []) := by
 intro w0 F0 H
 obtain ⟨A1, c2, rfl, hc3, hm4, hp5⟩ := H.fR 0 rfl
 obtain ⟨A6, c7, rfl, hc8, hm9, hp10⟩ := H.fR 1 rfl
 refine enter Tryz.func19 rfl rfl (Nat.le_of_ble_eq_true rfl) (c_seq (c_reg (s_1 rfl (s_nil (q_then ?_)))))
 replace H : Hd _ _ _ [] [rsl kPair (.slice A1 xs.length c2) xs, rsl kPair (.slice A6 ys.length c7) ys] := H
 refine c_seq (c_seq (c_reg (s_1 rfl (s_val rfl rfl (r_lenL rfl un23 rfl) (s_1 rfl (s_val rfl rfl (r_lenL rfl un23 rfl) (s_val rfl rfl (r_ne rfl rfl rfl) (s_nil (q_then ?_)))))))))
 refine c_dec rfl (fun h11 => ?_) (fun h11 => ?_)
 ·refine c_seq (c_reg (s_1 rfl (s_nil (q_then (c_ret (q_thenR (q_ret1 rfl rfl ?_)))))))
  have e : ¬ xs = ys := fun e => h11 (by rw [e])
  exact fin ⟨by rw [decide_eq_false e] <;> rfl, rfl⟩ H
 refine c_skip (q_then (c_seq (c_seq (c_reg (s_1 rfl (s_nil (q_then (c_block ?_))))))))
 have hle : xs.length = ys.length := by omega
 refine c_loop (σ := Nat) (fun k => [(0, .slice A1 xs.length c2), (1, .slice A6 ys.length c7), (5, .int .i64 ((k : Nat) : Int))]) (fun k w => (Hd w0 F0 w [] [rsl kPair (.slice A1 xs.length c2) xs, rsl kPair (.slice A6 ys.length c7) ys]) ∧ (k ≤ xs.length) ∧ (xs.length = ys.length) ∧ (xs.take k = ys.take k)) (fun k => xs.length - k) 0 ⟨rfl, rfl, rfl, trivial⟩ ⟨H, by omega, hle, rfl⟩ ?_
 rintro k w ⟨H, hk, hle, ht⟩
 refine c_seq (c_seq (c_reg (s_k 2 rfl (s_val rfl rfl (r_lenL rfl un23 rfl) (s_val rfl rfl (r_lt rfl rfl rfl) (s_nil (q_then ?_)))))))
 refine c_dec rfl (fun h12 => ?_) (fun h12 => ?_)
 ·refine c_skip (q_then (c_seq (c_block (c_seq (c_draw mo (by kernel_rfl) H (u_k 2 rfl ?_))))))
  obtain ⟨x13, hx14⟩ : ∃ z9, xs[k]? = some z9 := ⟨_, List.getElem?_eq_getElem (show k < xs.length by omega)⟩
  have th15 := H.thR 0 rfl hx14
  refine u_val rfl rfl (fun w H => r_iaE (p := oOf A1 + k * 2) rfl sl23 rfl rfl (by omega) (by omega) th15 rfl) (u_val rfl rfl (fun w H => r_ldA (cs := [.string x13.key, .string x13.val]) rfl ty56 rfl rfl (H.elsR 0 rfl hx14 rfl)) (u_k 2 rfl ?_))
  obtain ⟨x16, hx17⟩ : ∃ z9, ys[k]? = some z9 := ⟨_, List.getElem?_eq_getElem (show k < ys.length by omega)⟩
  have th18 := H.thR 1 rfl hx17
  refine u_val rfl rfl (fun w H => r_iaE (p := oOf A6 + k * 2) rfl sl23 rfl rfl (by omega) (by omega) th18 rfl) (u_val rfl rfl (fun w H => r_ldA (cs := [.string x16.key, .string x16.val]) rfl ty56 rfl rfl (H.elsR 1 rfl hx17 rfl)) (u_val rfl rfl (fun w H => r_nePair (p := x13) (q := x16) rfl eqz56 rfl rfl) (u_end (fun w H => (q_then ?_)))))
  refine c_dec rfl (fun h19 => ?_) (fun h19 => ?_)
  ·refine c_seq (c_reg (s_1 rfl (s_nil (q_then (c_ret (q_blockR (q_thenR (q_thenR (q_blockR (q_thenR (q_ret1 rfl rfl ?_)))))))))))
   have e : ¬ xs = ys := fun e => h19 (by rw [e, hx17] at hx14; exact (Option.some.inj hx14).symm)
   exact fin ⟨by rw [decide_eq_false e] <;> rfl, rfl⟩ H
  refine c_skip (q_blockN (q_then (c_reg (s_1 rfl (s_val rfl rfl (r_add (z := ((k + 1 : Nat) : Int)) rfl rfl rfl (by rw [w64 (by omega) (by omega)]; omega)) (s_1 rfl (s_nil ?_)))))))
  have e : x13 = x16 := Classical.not_not.1 h19
  subst e
  exact q_round (s := k) (k + 1) ⟨rfl, rfl, rfl, trivial⟩ ⟨H, by omega, hle, take_more hx14 hx17 ht⟩ (by (try dsimp only); omega)
 refine c_exit (q_thenE (q_thenE (q_blockE (q_then (c_seq (c_reg (s_1 rfl (s_nil (q_then (c_ret (q_ret1 rfl rfl ?_)))))))))))
 have e : xs = ys := by rw [← take_all (xs := xs) (k := k) (by omega), ← take_all (xs := ys) (k := k) (by omega)]; exact ht
 exact fin ⟨by rw [decide_eq_true e] <;> rfl, rfl⟩ H
theorem overPairs_ok (v : Value) (xs : List Pair) (hb : xs.length ≤ 1000000) :
    Cn Tryz.prog 20 [v] [osl kPair v xs] [] (fun _ Bs => Bs = []) := by
 intro w0 F0 H
 obtain ⟨A1, c2, rfl, hc3, hm4, hp5⟩ := H.fA 0 rfl
 refine enter Tryz.func20 rfl rfl (Nat.le_of_ble_eq_true rfl) (c_seq (c_seq (c_reg (s_1 rfl (s_nil (q_then ?_))))))
 replace H : Hd _ _ _ [osl kPair (.slice A1 xs.length c2) xs] [] := H
 refine c_block (c_loop (σ := Nat × List Pair) (fun (k, ys) => [(0, .slice A1 xs.length c2), (2, .int .i64 ((k : Nat) : Int))]) (fun (k, ys) w => (Hd w0 F0 w [osl kPair (.slice A1 xs.length c2) ys] []) ∧ (k ≤ xs.length) ∧ (ys.length = xs.length)) (fun (k, ys) => xs.length - k) (0, xs) ⟨rfl, rfl, trivial⟩ ⟨H, by omega, rfl⟩ ?_)
 rintro ⟨k, ys⟩ w ⟨H, hk, hl⟩
 refine c_seq (c_seq (c_reg (s_k 2 rfl (s_val rfl rfl (r_lenL rfl un23 rfl) (s_val rfl rfl (r_lt rfl rfl rfl) (s_nil (q_then ?_)))))))
 refine c_dec rfl (fun h6 => ?_) (fun h6 => ?_)
 ·refine c_skip (q_then (c_seq (c_block (c_reg (s_k 2 rfl (s_val rfl rfl (r_bd (parts := [(0, .const (.string ⟨#[111, 118, 101, 114]⟩))]) (vs := [.string ⟨#[111, 118, 101, 114]⟩]) (cs := [.string ⟨#[111, 118, 101, 114]⟩, .string ⟨#[]⟩]) rfl bd56 rfl rfl) ?_))))))
  obtain ⟨x7, hx8⟩ : ∃ z9, ys[k]? = some z9 := ⟨_, List.getElem?_eq_getElem (show k < ys.length by omega)⟩
  have th9 := H.thA 0 rfl hx8
  refine s_val rfl rfl (r_iaE (p := oOf A1 + k * 2) rfl sl23 rfl rfl (by omega) (by omega) th9 rfl) (s_stO (i := k) (a := (⟨⟨#[111, 118, 101, 114]⟩, ⟨#[]⟩⟩ : Pair)) rfl rfl rfl ty56 rfl rfl rfl H (by omega) rfl (fun w H => ?_))
  replace H := H.h1 (A := osl kPair (.slice A1 xs.length c2) (ys.set k (⟨⟨#[111, 118, 101, 114]⟩, ⟨#[]⟩⟩ : Pair)))
  refine s_nil (q_blockN (q_then (c_reg (s_1 rfl (s_val rfl rfl (r_add (z := ((k + 1 : Nat) : Int)) rfl rfl rfl (by rw [w64 (by omega) (by omega)]; omega)) (s_1 rfl (s_nil ?_)))))))
  have hl2 : (ys.set k (⟨⟨#[111, 118, 101, 114]⟩, ⟨#[]⟩⟩ : Pair)).length = xs.length := by rw [List.length_set]; exact hl
  exact q_round (s := (k, ys)) (k + 1, ys.set k (⟨⟨#[111, 118, 101, 114]⟩, ⟨#[]⟩⟩ : Pair)) ⟨rfl, rfl, trivial⟩ ⟨H, by omega, hl2⟩ (by (try dsimp only); omega)
 refine c_exit (q_thenE (q_thenE (q_blockE (q_then (c_reg (s_1 rfl (s_val rfl rfl (r_bd (parts := [(0, .const (.string ⟨#[111, 118, 101, 114]⟩))]) (vs := [.string ⟨#[111, 118, 101, 114]⟩]) (cs := [.string ⟨#[111, 118, 101, 114]⟩, .string ⟨#[]⟩]) rfl bd56 rfl rfl) (s_bsl (parts := [(0, .tmp 14)]) (vs := [.agg #[.string ⟨#[111, 118, 101, 114]⟩, .string ⟨#[]⟩]]) (cs := [.string ⟨#[111, 118, 101, 114]⟩, .string ⟨#[]⟩]) rfl rfl rfl sl23 zr56 rfl (by decide) (by decide) rfl rfl H (fun b10 w H => ?_)))))))))
 replace H := H.p1
 refine s_appF (xs := ys) (ys := [(⟨⟨#[111, 118, 101, 114]⟩, ⟨#[]⟩⟩ : Pair)]) rfl rfl rfl sl23 zr56 rfl (by decide) rfl rfl H (by omega) (fun F hA hR => blk_rsl (hA _ (List.mem_of_getElem? (i := 0) rfl)) rfl (by decide) (RepsR.flat_eq.2 rfl)) (fun v11 w H => (s_nil (q_end rfl ?_)))
 replace H := H.nil
 exact fin rfl H
theorem greatPairs_ok (vxs : Value) (xs : List Pair) (n : Int) :
    Cn Tryz.prog 14 [vxs, .int .i64 n] [] [rsl kPair vxs xs] (fun v Bs => v = .bool (greatP xs n) ∧ Bs = []) := by
 intro w0 F0 H
 obtain ⟨A1, c2, rfl, hc3, hm4, hp5⟩ := H.fR 0 rfl
 refine enter Tryz.func14 rfl rfl (Nat.le_of_ble_eq_true rfl) (c_seq (c_reg (s_1 rfl (s_nil (q_then ?_)))))
 replace H : Hd _ _ _ [] [rsl kPair (.slice A1 xs.length c2) xs] := H
 refine c_seq (c_seq (c_reg (s_1 rfl (s_nil (q_then (c_block (c_loop (σ := Nat) (fun k => [(0, .slice A1 xs.length c2), (1, .int .i64 n), (5, .int .i64 ((k : Nat) : Int))]) (fun k w => (Hd w0 F0 w [] [rsl kPair (.slice A1 xs.length c2) xs]) ∧ (k ≤ xs.length) ∧ (∀ y ∈ xs.take k, y.key.size ≤ 100 ∧ y.val.size ≤ 100)) (fun k => xs.length - k) 0 ⟨rfl, rfl, rfl, trivial⟩ ⟨H, by omega, by simp⟩ ?_)))))))
 rintro k w ⟨H, hk, hn⟩
 refine c_seq (c_seq (c_reg (s_k 2 rfl (s_val rfl rfl (r_lenL rfl un23 rfl) (s_val rfl rfl (r_lt rfl rfl rfl) (s_1 rfl ?_))))))
 refine s_dec (d := 10) rfl (fun h6 => ?_) (fun h6 => ?_)
 ·refine s_1 rfl (s_val rfl rfl (r_lenL rfl un23 rfl) (s_1 rfl (s_val rfl rfl (r_le rfl rfl rfl) (s_1 rfl (s_nil (q_then ?_))))))
  refine c_dec rfl (fun h7 => ?_) (fun h7 => ?_)
  ·refine c_skip (q_then (c_seq (c_block (c_seq (c_reg (s_k 2 rfl ?_))))))
   obtain ⟨x8, hx9⟩ : ∃ z9, xs[k]? = some z9 := ⟨_, List.getElem?_eq_getElem (show k < xs.length by omega)⟩
   have th10 := H.thR 0 rfl hx9
   refine s_val rfl rfl (r_iaE (p := oOf A1 + k * 2) rfl sl23 rfl rfl (by omega) (by omega) th10 rfl) (s_val rfl rfl (r_fa rfl fo56_0 rfl) (s_val rfl rfl (r_ld rfl ty9 rfl (H.elR 0 rfl hx9 (q := 0) rfl rfl)) (s_val rfl rfl (r_lenS rfl un9 rfl) (s_val rfl rfl (r_gt rfl rfl rfl) (s_1 rfl ?_)))))
   refine s_dec (d := 25) rfl (fun h11 => ?_) (fun h11 => ?_)
   ·exact s_k 8 rfl (s_nil (q_then (c_yes rfl (c_seq (c_reg (s_1 rfl (s_nil (q_then (c_ret (q_blockR (q_thenR (q_thenR (q_blockR (q_thenR (q_ret1 rfl rfl (fin ⟨congrArg Value.bool (greatP_hit hx9 (by omega)), rfl⟩ H))))))))))))))))
   refine s_k 2 rfl ?_
   have th12 := H.thR 0 rfl hx9
   refine s_val rfl rfl (r_iaE (p := oOf A1 + k * 2) rfl sl23 rfl rfl (by omega) (by omega) th12 rfl) (s_val rfl rfl (r_fa rfl fo56_1 rfl) (s_val rfl rfl (r_ld rfl ty9 rfl (H.elR 0 rfl hx9 (q := 1) rfl rfl)) (s_val rfl rfl (r_lenS rfl un9 rfl) (s_val rfl rfl (r_gt rfl rfl rfl) (s_1 rfl (s_nil (q_then ?_)))))))
   refine c_dec rfl (fun h13 => ?_) (fun h13 => ?_)
   ·exact c_seq (c_reg (s_1 rfl (s_nil (q_then (c_ret (q_blockR (q_thenR (q_thenR (q_blockR (q_thenR (q_ret1 rfl rfl (fin ⟨congrArg Value.bool (greatP_hit hx9 (by omega)), rfl⟩ H))))))))))))
   exact c_skip (q_blockN (q_then (c_reg (s_1 rfl (s_val rfl rfl (r_add (z := ((k + 1 : Nat) : Int)) rfl rfl rfl (by rw [w64 (by omega) (by omega)]; omega)) (s_1 rfl (s_nil (q_round (s := k) (k + 1) ⟨rfl, rfl, rfl, trivial⟩ ⟨H, by (try dsimp only); omega, take_prop hn hx9 (by omega)⟩ (by (try dsimp only); omega)))))))))
  exact c_exit (q_thenE (q_thenE (q_blockE (q_then (c_seq (c_reg (s_1 rfl (s_val rfl rfl (r_lenL rfl un23 rfl) (s_1 rfl (s_val rfl rfl (r_gt rfl rfl rfl) (s_1 rfl (s_nil (q_then (c_ret (q_ret1 rfl rfl (fin ⟨congrArg Value.bool (greatP_end hn (by omega)), rfl⟩ H))))))))))))))))
 exact s_k 5 rfl (s_nil (q_then (c_no rfl (c_exit (q_thenE (q_thenE (q_blockE (q_then (c_seq (c_reg (s_1 rfl (s_val rfl rfl (r_lenL rfl un23 rfl) (s_1 rfl (s_val rfl rfl (r_gt rfl rfl rfl) (s_1 rfl (s_nil (q_then (c_ret (q_ret1 rfl rfl (fin ⟨congrArg Value.bool (greatP_end hn (by omega)), rfl⟩ H))))))))))))))))))))
theorem pOf_ok (vxs : Value) (xs : List Pair) (key : ByteArray) (hb : xs.length ≤ 1000000) :
    Cn Tryz.prog 55 [vxs, .string key] [] [rsl kPair vxs xs] (fun v Bs => Bs = [osl kStr v (ofL xs key)]) := by
 intro w0 F0 H
 obtain ⟨A1, c2, rfl, hc3, hm4, hp5⟩ := H.fR 0 rfl
 refine enter Tryz.func55 rfl rfl (Nat.le_of_ble_eq_true rfl) (c_seq (c_reg (s_1 rfl (s_nil (q_then ?_)))))
 replace H : Hd _ _ _ [] [rsl kPair (.slice A1 xs.length c2) xs] := H
 refine c_seq (c_reg (s_1 rfl (s_nil (q_then (c_seq (c_seq (c_reg (s_1 rfl (s_val rfl rfl (r_lenL rfl un23 rfl) (s_1 rfl (s_nil (q_then (c_block ?_)))))))))))))
 replace H := H.newnil kStr
 refine c_loop (σ := Nat × Value) (fun (k, l) => [(1, .string key), (4, .slice none 0 0), (5, l), (8, .slice A1 xs.length c2), (9, .int .i64 ((xs.length : Nat) : Int)), (10, .int .i64 ((k : Nat) : Int))]) (fun (k, l) w => (Hd w0 F0 w [osl kStr l (ofL (xs.take k) key)] [rsl kPair (.slice A1 xs.length c2) xs]) ∧ (k ≤ xs.length)) (fun (k, l) => xs.length - k) (0, .slice none 0 0) ⟨rfl, rfl, rfl, rfl, rfl, rfl, trivial⟩ ⟨H, by (try dsimp only); omega⟩ ?_
 rintro ⟨k, l⟩ w ⟨H, hk⟩
 have hjl := ofL_len (xs.take k) key
 have hjt : (xs.take k).length ≤ xs.length := by simp; omega
 refine c_seq (c_reg (s_val rfl rfl (r_lt rfl rfl rfl) (s_nil (q_then (c_seq ?_)))))
 refine c_dec rfl (fun h6 => ?_) (fun h6 => ?_)
 ·refine c_skip (q_then (c_seq (c_block (c_seq (c_reg ?_)))))
  obtain ⟨x7, hx8⟩ : ∃ z9, xs[k]? = some z9 := ⟨_, List.getElem?_eq_getElem (show k < xs.length by omega)⟩
  have th9 := H.thR 0 rfl hx8
  refine s_val rfl rfl (r_iaE (p := oOf A1 + k * 2) rfl sl23 rfl rfl (by omega) (by omega) th9 rfl) (s_val rfl rfl (r_ldA (cs := [.string x7.key, .string x7.val]) rfl ty56 rfl rfl (H.elsR 0 rfl hx8 rfl)) (s_alloc rfl rfl rfl zr56 H (fun b10 w H => (s_st rfl rfl rfl ty56 rfl rfl H rfl (Nat.le_of_ble_eq_true rfl) (fun u hu => by simp [Value.cells] at hu; rcases hu with rfl | rfl <;> rfl) (fun w H => ?_)))))
  replace H := H.h2 (A := blk b10 [.string x7.key, .string x7.val] 56) (B := osl kStr l (ofL (xs.take k) key))
  refine s_nil (q_then (c_seq (c_reg (s_val rfl rfl (r_fa rfl fo56_0 rfl) (s_val rfl rfl (r_ld rfl ty9 rfl (H.cellI 0 rfl rfl)) (s_1 rfl (s_val rfl rfl (r_eqS rfl rfl rfl) (s_nil (q_then ?_)))))))))
  refine c_dec rfl (fun h11 => ?_) (fun h11 => ?_)
  ·refine c_reg (s_1 rfl (s_val rfl rfl (r_fa rfl fo56_1 rfl) (s_val rfl rfl (r_ld rfl ty9 rfl (H.cellI 0 rfl rfl)) (s_bsl (parts := [(0, .tmp 20)]) (vs := [.string x7.val]) (cs := [.string x7.val]) rfl rfl rfl sl75 zr9 rfl (by decide) (by decide) rfl rfl H (fun b12 w H => ?_)))))
   replace H := H.p2
   refine s_appF (xs := ofL (xs.take k) key) (ys := [x7.val]) rfl rfl rfl sl75 zr9 rfl (by decide) rfl rfl H (by omega) (fun F hA hR => blk_rsl (hA _ (List.mem_of_getElem? (i := 0) rfl)) rfl (by decide) (RepsR.flat_eq.2 rfl)) (fun v13 w H => (s_1 rfl (s_nil (q_blockN (q_then ?_)))))
   replace H : Hd _ _ _ [osl kStr v13 ((ofL (xs.take k) key) ++ [x7.val]), blk b12 [.string x7.val] 9, blk b10 [.string x7.key, .string x7.val] 56] [rsl kPair (.slice A1 xs.length c2) xs] := H
   refine c_reg (s_val rfl rfl (r_add (z := ((k + 1 : Nat) : Int)) rfl rfl rfl (by rw [w64 (by omega) (by omega)]; omega)) (s_1 rfl (s_nil ?_)))
   rw [← ofk_yes hx8 h11] at H
   replace H := H.k1
   exact q_round (s := (k, undef)) (k + 1, v13) ⟨rfl, rfl, rfl, rfl, rfl, rfl, trivial⟩ ⟨H, by (try dsimp only); omega⟩ (by (try dsimp only); omega)
  refine c_skip (q_blockN (q_then (c_reg (s_val rfl rfl (r_add (z := ((k + 1 : Nat) : Int)) rfl rfl rfl (by rw [w64 (by omega) (by omega)]; omega)) (s_1 rfl (s_nil ?_))))))
  rw [← ofk_no hx8 h11] at H
  replace H := H.sel 2 [1] [0] rfl (by kernel_rfl)
  exact q_round (s := (k, undef)) (k + 1, l) ⟨rfl, rfl, rfl, rfl, rfl, rfl, trivial⟩ ⟨H, by (try dsimp only); omega⟩ (by (try dsimp only); omega)
 refine c_exit (q_thenE (q_thenE (q_blockE (q_then (c_seq (c_reg (s_k 2 rfl (s_nil (q_then (c_ret (q_ret1 rfl rfl ?_)))))))))))
 rw [List.take_of_length_le (show xs.length ≤ k by omega)] at H
 exact fin rfl H
theorem rOf_ok (vxs : Value) (xs : List Pair) (key : ByteArray) (hb : xs.length ≤ 1000000) :
    Cn Tryz.prog 83 [vxs, .string key] [] [rsl kPair vxs xs] (fun v Bs => Bs = [osl kStr v (ofL xs key)]) := by
 intro w0 F0 H
 obtain ⟨A1, c2, rfl, hc3, hm4, hp5⟩ := H.fR 0 rfl
 refine enter Tryz.func83 rfl rfl (Nat.le_of_ble_eq_true rfl) (c_seq (c_reg (s_1 rfl (s_nil (q_then ?_)))))
 replace H : Hd _ _ _ [] [rsl kPair (.slice A1 xs.length c2) xs] := H
 refine c_seq (c_reg (s_1 rfl (s_nil (q_then (c_seq (c_seq (c_reg (s_1 rfl (s_nil (q_then (c_block ?_)))))))))))
 replace H := H.newnil kStr
 refine c_loop (σ := Nat × Value) (fun (k, l) => [(0, .slice A1 xs.length c2), (1, .string key), (4, .slice none 0 0), (5, l), (6, .int .i64 ((k : Nat) : Int))]) (fun (k, l) w => (Hd w0 F0 w [osl kStr l (ofL (xs.take k) key)] [rsl kPair (.slice A1 xs.length c2) xs]) ∧ (k ≤ xs.length)) (fun (k, l) => xs.length - k) (0, .slice none 0 0) ⟨rfl, rfl, rfl, rfl, rfl, trivial⟩ ⟨H, by (try dsimp only); omega⟩ ?_
 rintro ⟨k, l⟩ w ⟨H, hk⟩
 have hjl := ofL_len (xs.take k) key
 have hjt : (xs.take k).length ≤ xs.length := by simp; omega
 refine c_seq (c_seq (c_reg (s_k 2 rfl (s_val rfl rfl (r_lenL rfl un23 rfl) (s_val rfl rfl (r_lt rfl rfl rfl) (s_nil (q_then ?_)))))))
 refine c_dec rfl (fun h6 => ?_) (fun h6 => ?_)
 ·refine c_skip (q_then (c_seq (c_block (c_seq (c_reg (s_k 2 rfl ?_))))))
  obtain ⟨x7, hx8⟩ : ∃ z9, xs[k]? = some z9 := ⟨_, List.getElem?_eq_getElem (show k < xs.length by omega)⟩
  have th9 := H.thR 0 rfl hx8
  refine s_val rfl rfl (r_iaE (p := oOf A1 + k * 2) rfl sl23 rfl rfl (by omega) (by omega) th9 rfl) (s_val rfl rfl (r_fa rfl fo56_0 rfl) (s_val rfl rfl (r_ld rfl ty9 rfl (H.elR 0 rfl hx8 (q := 0) rfl rfl)) (s_1 rfl (s_val rfl rfl (r_eqS rfl rfl rfl) (s_nil (q_then ?_))))))
  refine c_dec rfl (fun h10 => ?_) (fun h10 => ?_)
  ·refine c_reg (s_k 3 rfl ?_)
   have th11 := H.thR 0 rfl hx8
   refine s_val rfl rfl (r_iaE (p := oOf A1 + k * 2) rfl sl23 rfl rfl (by omega) (by omega) th11 rfl) (s_val rfl rfl (r_fa rfl fo56_1 rfl) (s_val rfl rfl (r_ld rfl ty9 rfl (H.elR 0 rfl hx8 (q := 1) rfl rfl)) (s_bsl (parts := [(0, .tmp 25)]) (vs := [.string x7.val]) (cs := [.string x7.val]) rfl rfl rfl sl75 zr9 rfl (by decide) (by decide) rfl rfl H (fun b12 w H => ?_))))
   replace H := H.p1
   refine s_appF (xs := ofL (xs.take k) key) (ys := [x7.val]) rfl rfl rfl sl75 zr9 rfl (by decide) rfl rfl H (by omega) (fun F hA hR => blk_rsl (hA _ (List.mem_of_getElem? (i := 0) rfl)) rfl (by decide) (RepsR.flat_eq.2 rfl)) (fun v13 w H => (s_1 rfl (s_nil (q_blockN (q_then ?_)))))
   replace H : Hd _ _ _ [osl kStr v13 ((ofL (xs.take k) key) ++ [x7.val]), blk b12 [.string x7.val] 9] [rsl kPair (.slice A1 xs.length c2) xs] := H
   refine c_reg (s_1 rfl (s_val rfl rfl (r_add (z := ((k + 1 : Nat) : Int)) rfl rfl rfl (by rw [w64 (by omega) (by omega)]; omega)) (s_1 rfl (s_nil ?_))))
   rw [← ofk_yes hx8 h10] at H
   replace H := H.k1
   exact q_round (s := (k, undef)) (k + 1, v13) ⟨rfl, rfl, rfl, rfl, rfl, trivial⟩ ⟨H, by (try dsimp only); omega⟩ (by (try dsimp only); omega)
  refine c_skip (q_blockN (q_then (c_reg (s_1 rfl (s_val rfl rfl (r_add (z := ((k + 1 : Nat) : Int)) rfl rfl rfl (by rw [w64 (by omega) (by omega)]; omega)) (s_1 rfl (s_nil ?_)))))))
  rw [← ofk_no hx8 h10] at H
  exact q_round (s := (k, undef)) (k + 1, l) ⟨rfl, rfl, rfl, rfl, rfl, trivial⟩ ⟨H, by (try dsimp only); omega⟩ (by (try dsimp only); omega)
 refine c_exit (q_thenE (q_thenE (q_blockE (q_then (c_seq (c_reg (s_k 2 rfl (s_nil (q_then (c_ret (q_ret1 rfl rfl ?_)))))))))))
 rw [List.take_of_length_le (show xs.length ≤ k by omega)] at H
 exact fin rfl H
theorem pKeys_ok (vxs : Value) (xs : List Pair) (hb : xs.length ≤ 1000000) :
    Cn Tryz.prog 53 [vxs] [] [rsl kPair vxs xs] (fun v Bs => Bs = [osl kStr v (keysL xs)]) := by
 intro w0 F0 H
 obtain ⟨A1, c2, rfl, hc3, hm4, hp5⟩ := H.fR 0 rfl
 refine enter Tryz.func53 rfl rfl (Nat.le_of_ble_eq_true rfl) (c_seq (c_reg (s_1 rfl (s_nil (q_then ?_)))))
 replace H : Hd _ _ _ [] [rsl kPair (.slice A1 xs.length c2) xs] := H
 refine c_seq (c_reg (s_1 rfl (s_nil (q_then (c_seq (c_seq (c_reg (s_1 rfl (s_val rfl rfl (r_lenL rfl un23 rfl) (s_1 rfl (s_nil (q_then (c_block ?_)))))))))))))
 replace H := H.newnil kStr
 refine c_loop (σ := Nat × Value) (fun (k, l) => [(2, .slice none 0 0), (3, l), (6, .slice A1 xs.length c2), (7, .int .i64 ((xs.length : Nat) : Int)), (8, .int .i64 ((k : Nat) : Int))]) (fun (k, l) w => (Hd w0 F0 w [osl kStr l ((xs.take k).map (·.key))] [rsl kPair (.slice A1 xs.length c2) xs]) ∧ (k ≤ xs.length)) (fun (k, l) => xs.length - k) (0, .slice none 0 0) ⟨rfl, rfl, rfl, rfl, rfl, trivial⟩ ⟨H, by (try dsimp only); omega⟩ ?_
 rintro ⟨k, l⟩ w ⟨H, hk⟩
 have hjt : ((xs.take k).map (·.key)).length ≤ xs.length := by simp; omega
 refine c_seq (c_reg (s_val rfl rfl (r_lt rfl rfl rfl) (s_nil (q_then (c_seq ?_)))))
 refine c_dec rfl (fun h6 => ?_) (fun h6 => ?_)
 ·refine c_skip (q_then (c_seq (c_block (c_seq (c_reg ?_)))))
  obtain ⟨x7, hx8⟩ : ∃ z9, xs[k]? = some z9 := ⟨_, List.getElem?_eq_getElem (show k < xs.length by omega)⟩
  have th9 := H.thR 0 rfl hx8
  refine s_val rfl rfl (r_iaE (p := oOf A1 + k * 2) rfl sl23 rfl rfl (by omega) (by omega) th9 rfl) (s_val rfl rfl (r_ldA (cs := [.string x7.key, .string x7.val]) rfl ty56 rfl rfl (H.elsR 0 rfl hx8 rfl)) (s_alloc rfl rfl rfl zr56 H (fun b10 w H => (s_st rfl rfl rfl ty56 rfl rfl H rfl (Nat.le_of_ble_eq_true rfl) (fun u hu => by simp [Value.cells] at hu; rcases hu with rfl | rfl <;> rfl) (fun w H => ?_)))))
  replace H := H.h2 (A := blk b10 [.string x7.key, .string x7.val] 56) (B := osl kStr l ((xs.take k).map (·.key)))
  refine s_nil (q_then (c_reg (s_1 rfl (s_val rfl rfl (r_fa rfl fo56_0 rfl) (s_val rfl rfl (r_ld rfl ty9 rfl (H.cellI 0 rfl rfl)) (s_bsl (parts := [(0, .tmp 14)]) (vs := [.string x7.key]) (cs := [.string x7.key]) rfl rfl rfl sl75 zr9 rfl (by decide) (by decide) rfl rfl H (fun b11 w H => ?_)))))))
  replace H := H.p2
  refine s_appF (xs := (xs.take k).map (·.key)) (ys := [x7.key]) rfl rfl rfl sl75 zr9 rfl (by decide) rfl rfl H (by omega) (fun F hA hR => blk_rsl (hA _ (List.mem_of_getElem? (i := 0) rfl)) rfl (by decide) (RepsR.flat_eq.2 rfl)) (fun v12 w H => (s_1 rfl (s_nil (q_blockN (q_then ?_)))))
  replace H : Hd _ _ _ [osl kStr v12 (((xs.take k).map (·.key)) ++ [x7.key]), blk b11 [.string x7.key] 9, blk b10 [.string x7.key, .string x7.val] 56] [rsl kPair (.slice A1 xs.length c2) xs] := H
  refine c_reg (s_val rfl rfl (r_add (z := ((k + 1 : Nat) : Int)) rfl rfl rfl (by rw [w64 (by omega) (by omega)]; omega)) (s_1 rfl (s_nil ?_)))
  rw [← keyk hx8] at H
  replace H := H.k1
  exact q_round (s := (k, undef)) (k + 1, v12) ⟨rfl, rfl, rfl, rfl, rfl, trivial⟩ ⟨H, by (try dsimp only); omega⟩ (by (try dsimp only); omega)
 refine c_exit (q_thenE (q_thenE (q_blockE (q_then (c_seq (c_reg (s_1 rfl (sc (sortStr_ok l ((xs.take k).map (·.key)) (by first | omega | (rw [sortS_len]; omega))) H l0 rfl rfl (e_fn kn69 rfl rfl) ?_))))))))
 rintro v13 _ w rfl H
 replace H := H.h1 (A := osl kStr l (sortS ((xs.take k).map (·.key))))
 refine s_nil (q_then (c_seq (c_reg (s_1 rfl (sc (compStr_ok l (sortS ((xs.take k).map (·.key))) (by first | omega | (rw [sortS_len]; omega))) H l0 rfl rfl (e_fn kn70 rfl rfl) ?_)))))
 rintro v14 _ w rfl H
 replace H := H.h1 (A := osl kStr v14 (compS (sortS ((xs.take k).map (·.key)))))
 refine s_1 rfl (s_nil (q_then (c_ret (q_ret1 rfl rfl ?_))))
 rw [List.take_of_length_le (show xs.length ≤ k by omega)] at H
 exact fin rfl H
theorem indexFP_ok (f : FuncId) (cap : List Value) (Ex : List SP) (p : Pair → Bool) (hkf : Known Tryz.prog f) (hp : ∀ x, Cn Tryz.prog f ([.agg #[.string x.key, .string x.val]] ++ cap) [] Ex (fun v Bs => v = .bool (p x) ∧ Bs = [])) (v : Value) (xs : List Pair) :
    Cn Tryz.prog 72 [v, .func (.func f) #[] (cap).toArray] [] (rsl kPair v xs :: Ex) (fun v Bs => v = .int .i64 (fidx p xs) ∧ Bs = []) := by
 intro w0 F0 H
 obtain ⟨A1, c2, rfl, hc3, hm4, hp5⟩ := H.fR 0 rfl
 refine enter Tryz.func72 rfl rfl (Nat.le_of_ble_eq_true rfl) (c_seq (c_reg (s_1 rfl (s_nil (q_then ?_)))))
 replace H : Hd _ _ _ [] (rsl kPair (.slice A1 xs.length c2) xs :: Ex) := H
 refine c_seq (c_seq (c_reg (s_1 rfl (s_val rfl rfl (r_lenL rfl un23 rfl) (s_1 rfl (s_nil (q_then (c_block (c_loop (σ := Nat) (fun k => [(0, .slice A1 xs.length c2), (1, .func (.func f) #[] (cap).toArray), (7, .int .i64 ((xs.length : Nat) : Int)), (8, .int .i64 ((k : Nat) : Int))]) (fun k w => (Hd w0 F0 w [] (rsl kPair (.slice A1 xs.length c2) xs :: Ex)) ∧ (k ≤ xs.length) ∧ (∀ y ∈ xs.take k, p y = false)) (fun k => xs.length - k) 0 ⟨rfl, rfl, rfl, rfl, trivial⟩ ⟨H, by omega, by simp⟩ ?_)))))))))
 rintro k w ⟨H, hk, hn⟩
 refine c_seq (c_reg (s_val rfl rfl (r_lt rfl rfl rfl) (s_nil (q_then (c_seq ?_)))))
 refine c_dec rfl (fun h6 => ?_) (fun h6 => ?_)
 ·refine c_skip (q_then (c_seq (c_block (c_seq (c_reg (s_k 2 rfl (s_nil (q_then (c_seq (c_reg (s_k 3 rfl ?_)))))))))))
  obtain ⟨x7, hx8⟩ : ∃ z9, xs[k]? = some z9 := ⟨_, List.getElem?_eq_getElem (show k < xs.length by omega)⟩
  have th9 := H.thR 0 rfl hx8
  refine s_val rfl rfl (r_iaE (p := oOf A1 + k * 2) rfl sl23 rfl rfl (by omega) (by omega) th9 rfl) (s_val rfl rfl (r_ldA (cs := [.string x7.key, .string x7.val]) rfl ty56 rfl rfl (H.elsR 0 rfl hx8 rfl)) (sc (hp x7) H (fun S hS F hA hR => hR S (List.mem_cons_of_mem _ hS)) rfl rfl (e_val (vs := [.agg #[.string x7.key, .string x7.val]]) (fs := #[]) (cs := cap.toArray) hkf rfl rfl rfl) ?_))
  rintro _ _ w ⟨rfl, rfl⟩ H
  refine s_nil (q_then ?_)
  refine c_cond (b := p x7) rfl (fun h10 => ?_) (fun h10 => ?_)
  ·exact c_seq (c_reg (s_k 2 rfl (s_nil (q_then (c_ret (q_blockR (q_thenR (q_thenR (q_blockR (q_thenR (q_ret1 rfl rfl (fin ⟨by rw [fidx_hit hn hx8 h10] <;> rfl, rfl⟩ H))))))))))))
  exact c_skip (q_blockN (q_then (c_reg (s_val rfl rfl (r_add (z := ((k + 1 : Nat) : Int)) rfl rfl rfl (by rw [w64 (by omega) (by omega)]; omega)) (s_1 rfl (s_nil (q_round (s := k) (k + 1) ⟨rfl, rfl, rfl, rfl, trivial⟩ ⟨H, by omega, take_false hn hx8 h10⟩ (by (try dsimp only); omega))))))))
 refine c_exit (q_thenE (q_thenE (q_blockE (q_then (c_seq (c_reg (s_1 rfl (s_nil (q_then (c_ret (q_ret1 rfl rfl ?_)))))))))))
 have hn2 : ∀ y ∈ xs, p y = false := by rw [← take_all (xs := xs) (k := k) (by omega)]; exact hn
 exact fin ⟨by rw [fidx_miss hn2] <;> rfl, rfl⟩ H
theorem containsFP_ok (f : FuncId) (cap : List Value) (Ex : List SP) (p : Pair → Bool) (hkf : Known Tryz.prog f) (hp : ∀ x, Cn Tryz.prog f ([.agg #[.string x.key, .string x.val]] ++ cap) [] Ex (fun v Bs => v = .bool (p x) ∧ Bs = [])) (v : Value) (xs : List Pair) :
    Cn Tryz.prog 56 [v, .func (.func f) #[] (cap).toArray] [] (rsl kPair v xs :: Ex) (fun v Bs => v = .bool (xs.any p) ∧ Bs = []) := by
 intro w0 F0 H
 refine enter Tryz.func56 rfl rfl (Nat.le_of_ble_eq_true rfl) (c_seq (c_reg (s_1 rfl (s_nil (q_then (c_seq (c_reg (s_k 2 rfl (sc (indexFP_ok f cap Ex p hkf hp v xs) H lAll rfl rfl (e_fn kn72 rfl rfl) ?_)))))))))
 rintro _ _ w ⟨rfl, rfl⟩ H
 exact s_val rfl rfl (r_ge rfl rfl rfl) (s_1 rfl (s_nil (q_then (c_ret (q_ret1 rfl rfl (fin ⟨congrArg Value.bool (fidx_nonneg p xs), rfl⟩ H))))))
theorem rKeys_ok (vxs : Value) (xs : List Pair) (hb : xs.length ≤ 1000000) :
    Cn Tryz.prog 81 [vxs] [] [rsl kPair vxs xs] (fun v Bs => Bs = [osl kStr v (refK [] (xs.map (·.key)))]) := by
 intro w0 F0 H
 obtain ⟨A1, c2, rfl, hc3, hm4, hp5⟩ := H.fR 0 rfl
 refine enter Tryz.func81 rfl rfl (Nat.le_of_ble_eq_true rfl) (c_seq (c_reg (s_1 rfl (s_nil (q_then ?_)))))
 replace H : Hd _ _ _ [] [rsl kPair (.slice A1 xs.length c2) xs] := H
 refine c_seq (c_reg (s_1 rfl (s_nil (q_then (c_seq (c_seq (c_reg (s_1 rfl (s_nil (q_then (c_block ?_)))))))))))
 replace H := H.newnil kStr
 refine c_loop (σ := Nat × Value) (fun (i, l) => [(0, .slice A1 xs.length c2), (2, .slice none 0 0), (3, l), (4, .int .i64 ((i : Nat) : Int))]) (fun (i, l) w => (Hd w0 F0 w [osl kStr l (outL xs i)] [rsl kPair (.slice A1 xs.length c2) xs]) ∧ (i ≤ xs.length)) (fun (i, l) => xs.length - i) (0, .slice none 0 0) ⟨rfl, rfl, rfl, rfl, trivial⟩ ⟨H, by (try dsimp only); omega⟩ ?_
 rintro ⟨i, l⟩ w ⟨H, hi⟩
 have hol := outL_len xs i
 obtain ⟨A6, c7, rfl, hc8, hm9, hp10⟩ := H.fA 0 rfl
 refine c_seq (c_seq (c_reg (s_k 2 rfl (s_val rfl rfl (r_lenL rfl un23 rfl) (s_val rfl rfl (r_lt rfl rfl rfl) (s_nil (q_then ?_)))))))
 refine c_dec rfl (fun h11 => ?_) (fun h11 => ?_)
 ·refine c_skip (q_then (c_seq (c_block (c_seq (c_reg (s_1 rfl (s_nil (q_then (c_seq (c_block ?_))))))))))
  obtain ⟨x12, hx13⟩ : ∃ z9, xs[i]? = some z9 := ⟨_, List.getElem?_eq_getElem (show i < xs.length by omega)⟩
  refine c_loop (σ := Nat) (fun k => [(0, .slice A1 xs.length c2), (2, .slice none 0 0), (3, .slice A6 ((outL xs i).length) c7), (4, .int .i64 ((i : Nat) : Int)), (5, .int .i64 ((k : Nat) : Int))]) (fun k w => (Hd w0 F0 w [osl kStr (.slice A6 ((outL xs i).length) c7) (outL xs i)] [rsl kPair (.slice A1 xs.length c2) xs]) ∧ (k ≤ (outL xs i).length) ∧ (∀ y ∈ (outL xs i).take k, ltS y x12.key = true)) (fun k => (outL xs i).length - k) 0 ⟨rfl, rfl, rfl, rfl, rfl, trivial⟩ ⟨H, by omega, by simp⟩ ?_
  rintro k w ⟨H, hk, hn⟩
  refine c_seq (c_seq (c_draw mo (by kernel_rfl) H (u_k 2 rfl (u_val rfl rfl (fun w H => r_lenL rfl un75 rfl) (u_val rfl rfl (fun w H => r_lt rfl rfl rfl) (u_1 rfl ?_))))))
  refine u_dec (d := 16) rfl (fun h14 => ?_) (fun h14 => ?_)
  ·refine u_k 2 rfl ?_
   obtain ⟨x15, hx16⟩ : ∃ z9, (outL xs i)[k]? = some z9 := ⟨_, List.getElem?_eq_getElem (show k < (outL xs i).length by omega)⟩
   have th17 := H.thA 0 rfl hx16
   refine u_val rfl rfl (fun w H => r_iaE (p := oOf A6 + k * 1) rfl sl75 rfl rfl (by omega) (by omega) th17 rfl) (u_val rfl rfl (fun w H => r_ld rfl ty9 rfl (H.elA 0 rfl hx16 (q := 0) rfl rfl)) (u_k 2 rfl ?_))
   have th18 := H.thR 0 rfl hx13
   refine u_val rfl rfl (fun w H => r_iaE (p := oOf A1 + i * 2) rfl sl23 rfl rfl (by omega) (by omega) th18 rfl) (u_val rfl rfl (fun w H => r_fa rfl fo56_0 rfl) (u_val rfl rfl (fun w H => r_ld rfl ty9 rfl (H.elR 0 rfl hx13 (q := 0) rfl rfl)) (u_val rfl rfl (fun w H => r_ltS rfl rfl rfl) (u_1 rfl (u_end (fun w H => (q_then ?_)))))))
   refine c_dec rfl (fun h19 => ?_) (fun h19 => ?_)
   ·exact c_skip (q_then (c_block (c_reg (s_1 rfl (s_val rfl rfl (r_add (z := ((k + 1 : Nat) : Int)) rfl rfl rfl (by rw [w64 (by omega) (by omega)]; omega)) (s_1 rfl (s_nil (q_blockN (q_round (s := k) (k + 1) ⟨rfl, rfl, rfl, rfl, rfl, trivial⟩ ⟨H, by (try dsimp only); omega, take_prop hn hx16 h19⟩ (by (try dsimp only); omega))))))))))
   refine c_exit (q_thenE (q_thenE (q_blockE (q_then (c_seq (c_seq (c_draw mo (by kernel_rfl) H (u_k 2 rfl (u_val rfl rfl (fun w H => r_lenL rfl un75 rfl) (u_val rfl rfl (fun w H => r_lt rfl rfl rfl) (u_1 rfl ?_)))))))))))
   refine u_dec (d := 34) rfl (fun h20 => ?_) (fun h20 => ?_)
   ·refine u_k 2 rfl ?_
    have th21 := H.thA 0 rfl hx16
    refine u_val rfl rfl (fun w H => r_iaE (p := oOf A6 + k * 1) rfl sl75 rfl rfl (by omega) (by omega) th21 rfl) (u_val rfl rfl (fun w H => r_ld rfl ty9 rfl (H.elA 0 rfl hx16 (q := 0) rfl rfl)) (u_k 2 rfl ?_))
    have th22 := H.thR 0 rfl hx13
    refine u_val rfl rfl (fun w H => r_iaE (p := oOf A1 + i * 2) rfl sl23 rfl rfl (by omega) (by omega) th22 rfl) (u_val rfl rfl (fun w H => r_fa rfl fo56_0 rfl) (u_val rfl rfl (fun w H => r_ld rfl ty9 rfl (H.elR 0 rfl hx13 (q := 0) rfl rfl)) (u_val rfl rfl (fun w H => r_eqS rfl rfl rfl) (u_1 rfl (u_end (fun w H => (q_then ?_)))))))
    refine c_dec rfl (fun h23 => ?_) (fun h23 => ?_)
    ·have hhit : (outL xs i)[k]? = some x12.key := by rw [hx16, h23]
     refine c_exit (q_thenE (q_blockE (q_then (c_reg (s_1 rfl (s_val rfl rfl (r_add (z := ((i + 1 : Nat) : Int)) rfl rfl rfl (by rw [w64 (by omega) (by omega)]; omega)) (s_1 rfl (s_nil ?_))))))))
     replace H : Hd w0 F0 w [osl kStr (.slice A6 ((outL xs i).length) c7) (outL xs (i + 1))] [rsl kPair (.slice A1 xs.length c2) xs] := by rw [outL_step hx13, insK_hit (k := k) hn hhit]; exact H
     exact q_round (s := (i, undef)) (i + 1, .slice A6 ((outL xs i).length) c7) ⟨rfl, rfl, rfl, rfl, trivial⟩ ⟨H, by (try dsimp only); omega⟩ (by (try dsimp only); omega)
    refine c_skip (q_then (c_ord (.e 0 (.e 1 (.e 2 (.e 4 (.e 5 (.e 6 (.e 7 (.e 8 (.e 11 (.e 12 (.e 13 (.b 3 9 (.m 9 (.m 10 (.m 14 (.e 15 .z)))) (.m 3 (.m 10 (.m 14 (.e 15 .z)))))))))))))))) (fun w => ∃ Ar, Hd w0 F0 w (osl kStr (.slice A6 ((outL xs i).length) c7) (outL xs i) :: Ar) [rsl kPair (.slice A1 xs.length c2) xs]) mo (by kernel_rfl) (fun w H => ⟨_, H⟩) H (fun w H => (d_1 rfl (d_1 rfl (d_val rfl rfl rfl (fun w ⟨Ar, H⟩ => r_cutP rfl sl75 rfl rfl (by omega) (by omega) rfl) (d_1 rfl (d_1 rfl ?_))))))))
    have th24 := H.thR 0 rfl hx13
    refine d_val rfl rfl rfl (fun w ⟨Ar, H⟩ => r_iaE (p := oOf A1 + i * 2) rfl sl23 rfl rfl (by omega) (by omega) th24 rfl) (d_val rfl rfl rfl (fun w ⟨Ar, H⟩ => r_fa rfl fo56_0 rfl) (d_val rfl rfl rfl (fun w ⟨Ar, H⟩ => r_ld rfl ty9 rfl (H.elR 0 rfl hx13 (q := 0) rfl rfl)) (d_1 rfl (d_1 rfl (d_val rfl rfl rfl (fun w ⟨Ar, H⟩ => r_cutS rfl sl75 rfl rfl (by omega) (by omega) rfl) ?_)))))
    refine d_both rfl rfl ?_ ?_
    ·replace H := H.newnil kStr
     refine s_appF (xs := []) (ys := (outL xs i).take k) rfl rfl rfl sl75 zr9 rfl (by decide) rfl rfl H (by first | omega | (simp only [List.length_append, List.length_cons, List.length_nil, List.length_take, List.length_drop]; omega)) (fun F hA hR => rsl_pre (own_rd F (hA _ (List.mem_of_getElem? (i := 0) rfl))) (i := k) (by omega)) (fun v25 w H => ?_)
     replace H := H.p1
     replace H : Hd _ _ _ [osl kStr (.slice A6 ((outL xs i).length) c7) (outL xs i), osl kStr v25 ([] ++ ((outL xs i).take k))] [rsl kPair (.slice A1 xs.length c2) xs] := H
     refine d_back ⟨_, H⟩ (d_main rfl (s_bsl (parts := [(0, .tmp 54)]) (vs := [.string x12.key]) (cs := [.string x12.key]) rfl rfl rfl sl75 zr9 rfl (by decide) (by decide) rfl rfl H (fun b26 w H => ?_)))
     replace H := H.h1 (A := blk b26 [.string x12.key] 9) |>.p1
     refine d_back ⟨_, H⟩ (d_main rfl ?_)
     replace H := H.p2
     refine s_appF (xs := [] ++ ((outL xs i).take k)) (ys := [x12.key]) rfl rfl rfl sl75 zr9 rfl (by decide) rfl rfl H (by first | omega | (simp only [List.length_append, List.length_cons, List.length_nil, List.length_take, List.length_drop]; omega)) (fun F hA hR => blk_rsl (hA _ (List.mem_of_getElem? (i := 1) rfl)) rfl (by decide) (RepsR.flat_eq.2 rfl)) (fun v27 w H => ?_)
     replace H := H.h1 (A := osl kStr v27 (([] ++ ((outL xs i).take k)) ++ [x12.key])) |>.p1
     refine d_back ⟨_, H⟩ (d_main rfl ?_)
     replace H := H.p1
     refine s_appF (xs := ([] ++ ((outL xs i).take k)) ++ [x12.key]) (ys := (outL xs i).drop k) rfl rfl rfl sl75 zr9 rfl (by decide) rfl rfl H (by first | omega | (simp only [List.length_append, List.length_cons, List.length_nil, List.length_take, List.length_drop]; omega)) (fun F hA hR => rsl_suf (own_rd F (hA _ (List.mem_of_getElem? (i := 0) rfl))) (i := k) (by omega)) (fun v28 w H => ?_)
     replace H := H.h1 (A := osl kStr v28 ((([] ++ ((outL xs i).take k)) ++ [x12.key]) ++ ((outL xs i).drop k))) |>.p1
     refine d_back ⟨_, H⟩ (d_1 rfl (d_nil (q_blockN (q_then (c_reg (s_1 rfl (s_val rfl rfl (r_add (z := ((i + 1 : Nat) : Int)) rfl rfl rfl (by rw [w64 (by omega) (by omega)]; omega)) (s_1 rfl (s_nil ?_)))))))))
     replace H := H.p1.k1
     replace H : Hd w0 F0 w [osl kStr v28 (outL xs (i + 1))] [rsl kPair (.slice A1 xs.length c2) xs] := by rw [outL_step hx13, insK_put (k := k) (by omega) hn (.inr ⟨x15, hx16, h19, h23⟩)]; exact H
     exact q_round (s := (i, undef)) (i + 1, v28) ⟨rfl, rfl, rfl, rfl, trivial⟩ ⟨H, by (try dsimp only); omega⟩ (by (try dsimp only); omega)
    refine s_bsl (parts := [(0, .tmp 54)]) (vs := [.string x12.key]) (cs := [.string x12.key]) rfl rfl rfl sl75 zr9 rfl (by decide) (by decide) rfl rfl H (fun b29 w H => ?_)
    replace H := H.p1
    replace H : Hd _ _ _ [osl kStr (.slice A6 ((outL xs i).length) c7) (outL xs i), blk b29 [.string x12.key] 9] [rsl kPair (.slice A1 xs.length c2) xs] := H
    refine d_back ⟨_, H⟩ (d_main rfl ?_)
    replace H := H.newnil kStr
    refine s_appF (xs := []) (ys := (outL xs i).take k) rfl rfl rfl sl75 zr9 rfl (by decide) rfl rfl H (by first | omega | (simp only [List.length_append, List.length_cons, List.length_nil, List.length_take, List.length_drop]; omega)) (fun F hA hR => rsl_pre (own_rd F (hA _ (List.mem_of_getElem? (i := 0) rfl))) (i := k) (by omega)) (fun v30 w H => ?_)
    replace H := H.h1 (A := osl kStr v30 ([] ++ ((outL xs i).take k))) |>.p1
    refine d_back ⟨_, H⟩ (d_main rfl ?_)
    replace H := H.p1
    refine s_appF (xs := [] ++ ((outL xs i).take k)) (ys := [x12.key]) rfl rfl rfl sl75 zr9 rfl (by decide) rfl rfl H (by first | omega | (simp only [List.length_append, List.length_cons, List.length_nil, List.length_take, List.length_drop]; omega)) (fun F hA hR => blk_rsl (hA _ (List.mem_of_getElem? (i := 1) rfl)) rfl (by decide) (RepsR.flat_eq.2 rfl)) (fun v31 w H => ?_)
    replace H := H.h1 (A := osl kStr v31 (([] ++ ((outL xs i).take k)) ++ [x12.key])) |>.p1
    refine d_back ⟨_, H⟩ (d_main rfl ?_)
    replace H := H.p1
    refine s_appF (xs := ([] ++ ((outL xs i).take k)) ++ [x12.key]) (ys := (outL xs i).drop k) rfl rfl rfl sl75 zr9 rfl (by decide) rfl rfl H (by first | omega | (simp only [List.length_append, List.length_cons, List.length_nil, List.length_take, List.length_drop]; omega)) (fun F hA hR => rsl_suf (own_rd F (hA _ (List.mem_of_getElem? (i := 0) rfl))) (i := k) (by omega)) (fun v32 w H => ?_)
    replace H := H.h1 (A := osl kStr v32 ((([] ++ ((outL xs i).take k)) ++ [x12.key]) ++ ((outL xs i).drop k))) |>.p1
    refine d_back ⟨_, H⟩ (d_1 rfl (d_nil (q_blockN (q_then (c_reg (s_1 rfl (s_val rfl rfl (r_add (z := ((i + 1 : Nat) : Int)) rfl rfl rfl (by rw [w64 (by omega) (by omega)]; omega)) (s_1 rfl (s_nil ?_)))))))))
    replace H := H.p1.k1
    replace H : Hd w0 F0 w [osl kStr v32 (outL xs (i + 1))] [rsl kPair (.slice A1 xs.length c2) xs] := by rw [outL_step hx13, insK_put (k := k) (by omega) hn (.inr ⟨x15, hx16, h19, h23⟩)]; exact H
    exact q_round (s := (i, undef)) (i + 1, v32) ⟨rfl, rfl, rfl, rfl, trivial⟩ ⟨H, by (try dsimp only); omega⟩ (by (try dsimp only); omega)
   exfalso; omega
  refine u_k 11 rfl (u_end (fun w H => (q_then (c_no rfl (c_exit (q_thenE (q_thenE (q_blockE (q_then (c_seq (c_seq (c_draw mo (by kernel_rfl) H (u_k 2 rfl (u_val rfl rfl (fun w H => r_lenL rfl un75 rfl) (u_val rfl rfl (fun w H => r_lt rfl rfl rfl) (u_1 rfl ?_))))))))))))))))
  refine u_dec (d := 34) rfl (fun h33 => ?_) (fun h33 => ?_)
  ·exfalso; omega
  refine u_k 11 rfl (u_end (fun w H => (q_then (c_no rfl (c_skip (q_then (c_ord (.e 0 (.e 1 (.e 2 (.e 4 (.e 5 (.e 6 (.e 7 (.e 8 (.e 11 (.e 12 (.e 13 (.b 3 9 (.m 9 (.m 10 (.m 14 (.e 15 .z)))) (.m 3 (.m 10 (.m 14 (.e 15 .z)))))))))))))))) (fun w => ∃ Ar, Hd w0 F0 w (osl kStr (.slice A6 ((outL xs i).length) c7) (outL xs i) :: Ar) [rsl kPair (.slice A1 xs.length c2) xs]) mo (by kernel_rfl) (fun w H => ⟨_, H⟩) H (fun w H => (d_1 rfl (d_1 rfl (d_val rfl rfl rfl (fun w ⟨Ar, H⟩ => r_cutP rfl sl75 rfl rfl (by omega) (by omega) rfl) (d_1 rfl (d_1 rfl ?_)))))))))))))
  have th34 := H.thR 0 rfl hx13
  refine d_val rfl rfl rfl (fun w ⟨Ar, H⟩ => r_iaE (p := oOf A1 + i * 2) rfl sl23 rfl rfl (by omega) (by omega) th34 rfl) (d_val rfl rfl rfl (fun w ⟨Ar, H⟩ => r_fa rfl fo56_0 rfl) (d_val rfl rfl rfl (fun w ⟨Ar, H⟩ => r_ld rfl ty9 rfl (H.elR 0 rfl hx13 (q := 0) rfl rfl)) (d_1 rfl (d_1 rfl (d_val rfl rfl rfl (fun w ⟨Ar, H⟩ => r_cutS rfl sl75 rfl rfl (by omega) (by omega) rfl) ?_)))))
  refine d_both rfl rfl ?_ ?_
  ·replace H := H.newnil kStr
   refine s_appF (xs := []) (ys := (outL xs i).take k) rfl rfl rfl sl75 zr9 rfl (by decide) rfl rfl H (by first | omega | (simp only [List.length_append, List.length_cons, List.length_nil, List.length_take, List.length_drop]; omega)) (fun F hA hR => rsl_pre (own_rd F (hA _ (List.mem_of_getElem? (i := 0) rfl))) (i := k) (by omega)) (fun v35 w H => ?_)
   replace H := H.p1
   replace H : Hd _ _ _ [osl kStr (.slice A6 ((outL xs i).length) c7) (outL xs i), osl kStr v35 ([] ++ ((outL xs i).take k))] [rsl kPair (.slice A1 xs.length c2) xs] := H
   refine d_back ⟨_, H⟩ (d_main rfl (s_bsl (parts := [(0, .tmp 54)]) (vs := [.string x12.key]) (cs := [.string x12.key]) rfl rfl rfl sl75 zr9 rfl (by decide) (by decide) rfl rfl H (fun b36 w H => ?_)))
   replace H := H.h1 (A := blk b36 [.string x12.key] 9) |>.p1
   refine d_back ⟨_, H⟩ (d_main rfl ?_)
   replace H := H.p2
   refine s_appF (xs := [] ++ ((outL xs i).take k)) (ys := [x12.key]) rfl rfl rfl sl75 zr9 rfl (by decide) rfl rfl H (by first | omega | (simp only [List.length_append, List.length_cons, List.length_nil, List.length_take, List.length_drop]; omega)) (fun F hA hR => blk_rsl (hA _ (List.mem_of_getElem? (i := 1) rfl)) rfl (by decide) (RepsR.flat_eq.2 rfl)) (fun v37 w H => ?_)
   replace H := H.h1 (A := osl kStr v37 (([] ++ ((outL xs i).take k)) ++ [x12.key])) |>.p1
   refine d_back ⟨_, H⟩ (d_main rfl ?_)
   replace H := H.p1
   refine s_appF (xs := ([] ++ ((outL xs i).take k)) ++ [x12.key]) (ys := (outL xs i).drop k) rfl rfl rfl sl75 zr9 rfl (by decide) rfl rfl H (by first | omega | (simp only [List.length_append, List.length_cons, List.length_nil, List.length_take, List.length_drop]; omega)) (fun F hA hR => rsl_suf (own_rd F (hA _ (List.mem_of_getElem? (i := 0) rfl))) (i := k) (by omega)) (fun v38 w H => ?_)
   replace H := H.h1 (A := osl kStr v38 ((([] ++ ((outL xs i).take k)) ++ [x12.key]) ++ ((outL xs i).drop k))) |>.p1
   refine d_back ⟨_, H⟩ (d_1 rfl (d_nil (q_blockN (q_then (c_reg (s_1 rfl (s_val rfl rfl (r_add (z := ((i + 1 : Nat) : Int)) rfl rfl rfl (by rw [w64 (by omega) (by omega)]; omega)) (s_1 rfl (s_nil ?_)))))))))
   replace H := H.p1.k1
   replace H : Hd w0 F0 w [osl kStr v38 (outL xs (i + 1))] [rsl kPair (.slice A1 xs.length c2) xs] := by rw [outL_step hx13, insK_put (k := k) (by omega) hn (.inl (by omega))]; exact H
   exact q_round (s := (i, undef)) (i + 1, v38) ⟨rfl, rfl, rfl, rfl, trivial⟩ ⟨H, by (try dsimp only); omega⟩ (by (try dsimp only); omega)
  refine s_bsl (parts := [(0, .tmp 54)]) (vs := [.string x12.key]) (cs := [.string x12.key]) rfl rfl rfl sl75 zr9 rfl (by decide) (by decide) rfl rfl H (fun b39 w H => ?_)
  replace H := H.p1
  replace H : Hd _ _ _ [osl kStr (.slice A6 ((outL xs i).length) c7) (outL xs i), blk b39 [.string x12.key] 9] [rsl kPair (.slice A1 xs.length c2) xs] := H
  refine d_back ⟨_, H⟩ (d_main rfl ?_)
  replace H := H.newnil kStr
  refine s_appF (xs := []) (ys := (outL xs i).take k) rfl rfl rfl sl75 zr9 rfl (by decide) rfl rfl H (by first | omega | (simp only [List.length_append, List.length_cons, List.length_nil, List.length_take, List.length_drop]; omega)) (fun F hA hR => rsl_pre (own_rd F (hA _ (List.mem_of_getElem? (i := 0) rfl))) (i := k) (by omega)) (fun v40 w H => ?_)
  replace H := H.h1 (A := osl kStr v40 ([] ++ ((outL xs i).take k))) |>.p1
  refine d_back ⟨_, H⟩ (d_main rfl ?_)
  replace H := H.p1
  refine s_appF (xs := [] ++ ((outL xs i).take k)) (ys := [x12.key]) rfl rfl rfl sl75 zr9 rfl (by decide) rfl rfl H (by first | omega | (simp only [List.length_append, List.length_cons, List.length_nil, List.length_take, List.length_drop]; omega)) (fun F hA hR => blk_rsl (hA _ (List.mem_of_getElem? (i := 1) rfl)) rfl (by decide) (RepsR.flat_eq.2 rfl)) (fun v41 w H => ?_)
  replace H := H.h1 (A := osl kStr v41 (([] ++ ((outL xs i).take k)) ++ [x12.key])) |>.p1
  refine d_back ⟨_, H⟩ (d_main rfl ?_)
  replace H := H.p1
  refine s_appF (xs := ([] ++ ((outL xs i).take k)) ++ [x12.key]) (ys := (outL xs i).drop k) rfl rfl rfl sl75 zr9 rfl (by decide) rfl rfl H (by first | omega | (simp only [List.length_append, List.length_cons, List.length_nil, List.length_take, List.length_drop]; omega)) (fun F hA hR => rsl_suf (own_rd F (hA _ (List.mem_of_getElem? (i := 0) rfl))) (i := k) (by omega)) (fun v42 w H => ?_)
  replace H := H.h1 (A := osl kStr v42 ((([] ++ ((outL xs i).take k)) ++ [x12.key]) ++ ((outL xs i).drop k))) |>.p1
  refine d_back ⟨_, H⟩ (d_1 rfl (d_nil (q_blockN (q_then (c_reg (s_1 rfl (s_val rfl rfl (r_add (z := ((i + 1 : Nat) : Int)) rfl rfl rfl (by rw [w64 (by omega) (by omega)]; omega)) (s_1 rfl (s_nil ?_)))))))))
  replace H := H.p1.k1
  replace H : Hd w0 F0 w [osl kStr v42 (outL xs (i + 1))] [rsl kPair (.slice A1 xs.length c2) xs] := by rw [outL_step hx13, insK_put (k := k) (by omega) hn (.inl (by omega))]; exact H
  exact q_round (s := (i, undef)) (i + 1, v42) ⟨rfl, rfl, rfl, rfl, trivial⟩ ⟨H, by (try dsimp only); omega⟩ (by (try dsimp only); omega)
 refine c_exit (q_thenE (q_thenE (q_blockE (q_then (c_seq (c_reg (s_k 2 rfl (s_nil (q_then (c_ret (q_ret1 rfl rfl ?_)))))))))))
 have e : outL xs i = refK [] (xs.map (·.key)) := by unfold outL; rw [List.take_of_length_le (by omega)]
 replace H : Hd w0 F0 w [osl kStr (.slice A6 ((outL xs i).length) c7) (refK [] (xs.map (·.key)))] [rsl kPair (.slice A1 xs.length c2) xs] := by rw [← e]; exact H
 exact fin rfl H
theorem rSort_ok (vxs : Value) (xs : List Pair) (hb : xs.length ≤ 1000000) :
    Cn Tryz.prog 65 [vxs] [] [rsl kPair vxs xs] (fun v Bs => Bs = [osl kPair v (srt xs)]) := by
 intro w0 F0 H
 obtain ⟨A1, c2, rfl, hc3, hm4, hp5⟩ := H.fR 0 rfl
 refine enter Tryz.func65 rfl rfl (Nat.le_of_ble_eq_true rfl) (c_seq (c_reg (s_1 rfl (s_nil (q_then ?_)))))
 replace H : Hd _ _ _ [] [rsl kPair (.slice A1 xs.length c2) xs] := H
 refine c_seq (c_reg (s_1 rfl (s_nil (q_then (c_seq (c_reg (s_1 rfl (sc (rKeys_ok (.slice A1 xs.length c2) xs (by first | omega | decide)) H (lR 0 rfl l0) rfl rfl (e_fn kn81 rfl rfl) ?_))))))))
 rintro v6 _ w rfl H
 replace H := H.h1 (A := osl kStr v6 (refK [] (xs.map (·.key))))
 refine s_1 rfl (s_nil (q_then (c_seq (c_seq (c_reg (s_1 rfl (s_nil (q_then (c_block ?_)))))))))
 replace H := H.newnil kPair
 refine c_loop (σ := Nat × Value) (fun (i, l) => [(0, .slice A1 xs.length c2), (2, .slice none 0 0), (3, l), (4, v6), (5, .int .i64 ((i : Nat) : Int))]) (fun (i, l) w => (Hd w0 F0 w [osl kPair l (flatP xs ((refK [] (xs.map (·.key))).take i)), osl kStr v6 (refK [] (xs.map (·.key)))] [rsl kPair (.slice A1 xs.length c2) xs]) ∧ (i ≤ (refK [] (xs.map (·.key))).length)) (fun (i, l) => (refK [] (xs.map (·.key))).length - i) (0, .slice none 0 0) ⟨rfl, rfl, rfl, rfl, rfl, trivial⟩ ⟨H, by (try dsimp only); omega⟩ ?_
 rintro ⟨i, l⟩ w ⟨H, hi⟩
 have hfl := flatP_len xs i
 refine c_seq (c_seq (c_reg (s_k 2 rfl ?_)))
 obtain ⟨A7, c8, rfl, hc9, hm10, hp11⟩ := H.fA 1 rfl
 refine s_val rfl rfl (r_lenL rfl un75 rfl) (s_val rfl rfl (r_lt rfl rfl rfl) (s_nil (q_then ?_)))
 refine c_dec rfl (fun h12 => ?_) (fun h12 => ?_)
 ·refine c_skip (q_then (c_seq (c_block (c_seq (c_reg (s_k 3 rfl ?_))))))
  obtain ⟨x13, hx14⟩ : ∃ z9, (refK [] (xs.map (·.key)))[i]? = some z9 := ⟨_, List.getElem?_eq_getElem (show i < (refK [] (xs.map (·.key))).length by omega)⟩
  have th15 := H.thA 1 rfl hx14
  refine s_val rfl rfl (r_iaE (p := oOf A7 + i * 1) rfl sl75 rfl rfl (by omega) (by omega) th15 rfl) (s_val rfl rfl (r_ld rfl ty9 rfl (H.elA 1 rfl hx14 (q := 0) rfl rfl)) (sc (rOf_ok (.slice A1 xs.length c2) xs x13 (by first | omega | decide)) H (lR 0 rfl l0) rfl rfl (e_fn kn83 rfl rfl) ?_))
  rintro v16 _ w rfl H
  replace H := H.h1 (A := osl kStr v16 (ofL xs x13))
  refine s_1 rfl (s_nil (q_then (c_seq (c_reg (s_1 rfl (s_nil (q_then (c_block ?_))))))))
  obtain ⟨A17, c18, rfl, hc19, hm20, hp21⟩ := H.fA 0 rfl
  have hpl := flatP_len xs (i + 1)
  rw [flatP_step hx14, List.length_append, pairsOf_len] at hpl
  replace H := H.p1
  replace H : Hd w0 F0 w [osl kPair l (flatP xs ((refK [] (xs.map (·.key))).take i) ++ (pairsOf xs x13).take 0), osl kStr (.slice A17 ((ofL xs x13).length) c18) (ofL xs x13), osl kStr (.slice A7 ((refK [] (xs.map (·.key))).length) c8) (refK [] (xs.map (·.key)))] [rsl kPair (.slice A1 xs.length c2) xs] := by rw [List.take_zero, List.append_nil]; exact H
  replace H := H.p2.p1
  refine c_loop (σ := Nat × Value) (fun (k, q) => [(0, .slice A1 xs.length c2), (2, .slice none 0 0), (3, q), (4, .slice A7 ((refK [] (xs.map (·.key))).length) c8), (5, .int .i64 ((i : Nat) : Int)), (6, .slice A17 ((ofL xs x13).length) c18), (7, .int .i64 ((k : Nat) : Int))]) (fun (k, q) w => (Hd w0 F0 w [osl kPair q (flatP xs ((refK [] (xs.map (·.key))).take i) ++ (pairsOf xs x13).take k), osl kStr (.slice A7 ((refK [] (xs.map (·.key))).length) c8) (refK [] (xs.map (·.key))), osl kStr (.slice A17 ((ofL xs x13).length) c18) (ofL xs x13)] [rsl kPair (.slice A1 xs.length c2) xs]) ∧ (k ≤ (ofL xs x13).length)) (fun (k, q) => (ofL xs x13).length - k) (0, l) ⟨rfl, rfl, rfl, rfl, rfl, rfl, rfl, trivial⟩ ⟨H, by (try dsimp only); omega⟩ ?_
  rintro ⟨k, q⟩ w ⟨H, hk⟩
  have hpt : ((pairsOf xs x13).take k).length ≤ k := by simp; omega
  have hpa : (flatP xs ((refK [] (xs.map (·.key))).take i) ++ (pairsOf xs x13).take k).length = (flatP xs ((refK [] (xs.map (·.key))).take i)).length + ((pairsOf xs x13).take k).length := List.length_append
  refine c_seq (c_seq (c_reg (s_k 2 rfl (s_val rfl rfl (r_lenL rfl un75 rfl) (s_val rfl rfl (r_lt rfl rfl rfl) (s_nil (q_then ?_)))))))
  refine c_dec rfl (fun h22 => ?_) (fun h22 => ?_)
  ·refine c_skip (q_then (c_seq (c_block ?_)))
   replace H := H.p2.p2.h3 (C := osl kPair q (flatP xs ((refK [] (xs.map (·.key))).take i) ++ (pairsOf xs x13).take k))
   refine c_ord (.e 0 (.e 1 (.e 2 (.e 3 (.e 4 (.e 5 (.e 6 (.e 7 (.e 8 (.e 9 (.m 10 (.m 11 (.e 12 .z))))))))))))) (fun w => ∃ Ar, Hd w0 F0 w (osl kStr (.slice A7 ((refK [] (xs.map (·.key))).length) c8) (refK [] (xs.map (·.key))) :: osl kStr (.slice A17 ((ofL xs x13).length) c18) (ofL xs x13) :: Ar) [rsl kPair (.slice A1 xs.length c2) xs]) mo (by kernel_rfl) (fun w H => ⟨_, H⟩) H (fun w H => (d_1 rfl (d_1 rfl (d_1 rfl ?_))))
   have th23 := H.thA 0 rfl hx14
   refine d_val rfl rfl rfl (fun w ⟨Ar, H⟩ => r_iaE (p := oOf A7 + i * 1) rfl sl75 rfl rfl (by omega) (by omega) th23 rfl) (d_val rfl rfl rfl (fun w ⟨Ar, H⟩ => r_ld rfl ty9 rfl (H.elA 0 rfl hx14 (q := 0) rfl rfl)) (d_1 rfl (d_1 rfl ?_)))
   obtain ⟨x24, hx25⟩ : ∃ z9, (ofL xs x13)[k]? = some z9 := ⟨_, List.getElem?_eq_getElem (show k < (ofL xs x13).length by omega)⟩
   have th26 := H.thA 1 rfl hx25
   refine d_val rfl rfl rfl (fun w ⟨Ar, H⟩ => r_iaE (p := oOf A17 + k * 1) rfl sl75 rfl rfl (by omega) (by omega) th26 rfl) (d_val rfl rfl rfl (fun w ⟨Ar, H⟩ => r_ld rfl ty9 rfl (H.elA 1 rfl hx25 (q := 0) rfl rfl)) (d_val rfl rfl rfl (fun w ⟨Ar, H⟩ => r_bd (parts := [(0, .tmp 32), (1, .tmp 36)]) (vs := [.string x13, .string x24]) (cs := [.string x13, .string x24]) rfl bd56 rfl rfl) (d_main rfl (s_bsl (parts := [(0, .tmp 37)]) (vs := [.agg #[.string x13, .string x24]]) (cs := [.string x13, .string x24]) rfl rfl rfl sl23 zr56 rfl (by decide) (by decide) rfl rfl H (fun b27 w H => ?_)))))
   replace H := H.h1 (A := blk b27 [.string x13, .string x24] 56) |>.p2 |>.p2
   refine d_back ⟨_, H⟩ (d_main rfl ?_)
   replace H := H.p3
   refine s_appF (xs := flatP xs ((refK [] (xs.map (·.key))).take i) ++ (pairsOf xs x13).take k) (ys := [(⟨x13, x24⟩ : Pair)]) rfl rfl rfl sl23 zr56 rfl (by decide) rfl rfl H (by omega) (fun F hA hR => blk_rsl (hA _ (List.mem_of_getElem? (i := 2) rfl)) rfl (by decide) (RepsR.flat_eq.2 rfl)) (fun v28 w H => ?_)
   replace H := H.h1 (A := osl kPair v28 ((flatP xs ((refK [] (xs.map (·.key))).take i) ++ (pairsOf xs x13).take k) ++ [(⟨x13, x24⟩ : Pair)])) |>.p2 |>.p2
   refine d_back ⟨_, H⟩ (d_1 rfl (d_nil (q_blockN (q_then (c_reg (s_1 rfl (s_val rfl rfl (r_add (z := ((k + 1 : Nat) : Int)) rfl rfl rfl (by rw [w64 (by omega) (by omega)]; omega)) (s_1 rfl (s_nil ?_)))))))))
   replace H := H.p2.k3
   replace H : Hd w0 F0 w [osl kPair v28 (flatP xs ((refK [] (xs.map (·.key))).take i) ++ (pairsOf xs x13).take (k + 1)), osl kStr (.slice A7 ((refK [] (xs.map (·.key))).length) c8) (refK [] (xs.map (·.key))), osl kStr (.slice A17 ((ofL xs x13).length) c18) (ofL xs x13)] [rsl kPair (.slice A1 xs.length c2) xs] := by rw [pairsOf_step hx25, ← List.append_assoc]; exact H
   exact q_round (s := (k, undef)) (k + 1, v28) ⟨rfl, rfl, rfl, rfl, rfl, rfl, rfl, trivial⟩ ⟨H, by (try dsimp only); omega⟩ (by (try dsimp only); omega)
  refine c_exit (q_thenE (q_thenE (q_blockE (q_blockN (q_then (c_reg (s_1 rfl (s_val rfl rfl (r_add (z := ((i + 1 : Nat) : Int)) rfl rfl rfl (by rw [w64 (by omega) (by omega)]; omega)) (s_1 rfl (s_nil ?_))))))))))
  replace H := H.k2
  replace H : Hd w0 F0 w [osl kPair q (flatP xs ((refK [] (xs.map (·.key))).take (i + 1))), osl kStr (.slice A7 ((refK [] (xs.map (·.key))).length) c8) (refK [] (xs.map (·.key)))] [rsl kPair (.slice A1 xs.length c2) xs] := by rw [flatP_step hx14]; rw [pairsOf_all (by omega)] at H; exact H
  exact q_round (s := (i, undef)) (i + 1, q) ⟨rfl, rfl, rfl, rfl, rfl, trivial⟩ ⟨H, by (try dsimp only); omega⟩ (by (try dsimp only); omega)
 refine c_exit (q_thenE (q_thenE (q_blockE (q_then (c_seq (c_reg (s_k 2 rfl (s_nil (q_then (c_ret (q_ret1 rfl rfl ?_)))))))))))
 replace H := H.k1
 replace H : Hd w0 F0 w [osl kPair l (srt xs)] [rsl kPair (.slice A1 xs.length c2) xs] := by rw [List.take_of_length_le (show (refK [] (xs.map (·.key))).length ≤ i by omega), flat_srt] at H; exact H
 exact fin rfl H
theorem eachF_ok (x : Pair) (kb : Nat) (key : ByteArray) :
    Cn Tryz.prog 57 [.agg #[.string x.key, .string x.val], .pointer (some ⟨kb, 0, none⟩)] [] [blk kb [.string key] 9] (fun v Bs => v = .bool (decide (x.key ≠ key)) ∧ Bs = []) := by
 intro w0 F0 H
 refine enter Tryz.func57 rfl rfl (Nat.le_of_ble_eq_true rfl) (c_seq (c_reg (s_box rfl rfl rfl rfl H (fun b1 w H => (s_1 rfl (s_nil (q_then ?_)))))))
 replace H : Hd _ _ _ [blk b1 [.string x.key, .string x.val] 56] [blk kb [.string key] 9] := H
 refine c_seq (c_reg (s_val rfl rfl (r_fa rfl fo56_0 rfl) (s_val rfl rfl (r_ld rfl ty9 rfl (H.cellI 0 rfl rfl)) (s_val rfl rfl (r_ld rfl ty9 rfl (H.cellRI 0 rfl rfl)) (s_val rfl rfl (r_neS rfl rfl rfl) (s_1 rfl (s_nil (q_then (c_ret (q_ret1 rfl rfl ?_))))))))))
 replace H := H.nil
 exact fin ⟨rfl, rfl⟩ H
theorem each_ok (vp : Value) (p : List Ins) (vps : Value) (ps : List Pair) (fuel : Int) (own : Bool) (hpa : ∀ i ∈ p, In64 i.a) (hfu : In64 fuel) (hb : ps.length ≤ 1000000) :
    Cn Tryz.prog 32 [vp, vps, .int .i64 fuel, .bool own] [] [rsl kIns vp p, rsl kPair vps ps, gl] (fun v Bs => ∃ u, v = .tuple #[u, .int .i64 (eachM dg p ps fuel own).2] ∧ Bs = [osl kPair u (eachM dg p ps fuel own).1]) := by
 intro w0 F0 H
 obtain ⟨A1, c2, rfl, hc3, hm4, hp5⟩ := H.fR 0 rfl
 obtain ⟨A6, c7, rfl, hc8, hm9, hp10⟩ := H.fR 1 rfl
 refine enter Tryz.func32 rfl rfl (Nat.le_of_ble_eq_true rfl) (c_seq (c_reg (s_k 2 rfl (s_nil (q_then ?_)))))
 replace H : Hd _ _ _ [] [rsl kIns (.slice A1 p.length c2) p, rsl kPair (.slice A6 ps.length c7) ps, gl] := H
 refine c_seq (c_reg (s_1 rfl (s_nil (q_then (c_seq (c_reg (sc tallyNew_ok H l0 rfl rfl (e_fn kn52 rfl rfl) ?_)))))))
 rintro _ _ w ⟨b11, rfl, rfl⟩ H
 replace H := H.h1 (A := blk b11 [.int .i64 0, .int .i64 0, .int .i64 0, .int .i64 0, .int .i64 0, .int .i64 0, .int .i64 0, .int .i64 0] 96)
 refine s_1 rfl (s_nil (q_then (c_seq (c_seq (c_reg (s_1 rfl (sc (pKeys_ok (.slice A6 ps.length c7) ps (by first | omega | decide)) H (lR 1 rfl l0) rfl rfl (e_fn kn53 rfl rfl) ?_)))))))
 rintro v12 _ w rfl H
 obtain ⟨A13, c14, rfl, hc15, hm16, hp17⟩ := H.fA 0 rfl
 refine s_val rfl rfl (r_lenL rfl un75 rfl) (s_1 rfl (s_nil (q_then ?_)))
 replace H : Hd _ _ _ [osl kStr (.slice A13 ((keysL ps).length) c14) (keysL ps), blk b11 [.int .i64 0, .int .i64 0, .int .i64 0, .int .i64 0, .int .i64 0, .int .i64 0, .int .i64 0, .int .i64 0] 96] [rsl kIns (.slice A1 p.length c2) p, rsl kPair (.slice A6 ps.length c7) ps, gl] := H
 refine c_block ?_
 replace H := H.newnil kPair
 refine c_loop (σ := Nat × Value × List Pair) (fun (i, q, out) => [(0, .slice A1 p.length c2), (1, .slice A6 ps.length c7), (2, .int .i64 fuel), (3, .bool own), (10, q), (11, .pointer (some ⟨b11, 0, none⟩)), (18, .slice A13 ((keysL ps).length) c14), (19, .int .i64 (((keysL ps).length : Nat) : Int)), (20, .int .i64 ((i : Nat) : Int))]) (fun (i, q, out) w => (Hd w0 F0 w [osl kPair q out, osl kStr (.slice A13 ((keysL ps).length) c14) (keysL ps), blk b11 [.int .i64 (out.length : Int), .int .i64 0, .int .i64 0, .int .i64 0, .int .i64 0, .int .i64 0, .int .i64 0, .int .i64 0] 96] [rsl kIns (.slice A1 p.length c2) p, rsl kPair (.slice A6 ps.length c7) ps, gl]) ∧ (i ≤ (keysL ps).length) ∧ (eachGo dg p ps fuel own ((keysL ps).drop i) out = eachM dg p ps fuel own) ∧ (out.length ≤ 40)) (fun (i, q, out) => (keysL ps).length - i) (0, .slice none 0 0, []) ⟨rfl, rfl, rfl, rfl, rfl, rfl, rfl, rfl, rfl, trivial⟩ ⟨H, Nat.zero_le _, rfl, Nat.zero_le _⟩ ?_
 rintro ⟨i, q, out⟩ w ⟨H, hi, hgo, ho⟩
 have hkl := keysL_len ps
 refine c_seq (c_reg (s_val rfl rfl (r_lt rfl rfl rfl) (s_nil (q_then (c_seq ?_)))))
 refine c_dec rfl (fun h18 => ?_) (fun h18 => ?_)
 ·refine c_skip (q_then (c_seq (c_block (c_seq (c_reg ?_)))))
  obtain ⟨x19, hx20⟩ : ∃ z9, (keysL ps)[i]? = some z9 := ⟨_, List.getElem?_eq_getElem (show i < (keysL ps).length by omega)⟩
  have th21 := H.thA 1 rfl hx20
  refine s_val rfl rfl (r_iaE (p := oOf A13 + i * 1) rfl sl75 rfl rfl (by omega) (by omega) th21 rfl) (s_val rfl rfl (r_ld rfl ty9 rfl (H.elA 1 rfl hx20 (q := 0) rfl rfl)) (s_alloc rfl rfl rfl zr9 H (fun b22 w H => (s_st rfl rfl rfl ty9 rfl rfl H rfl (Nat.le_of_ble_eq_true rfl) (fun u hu => by simp [Value.cells] at hu; subst hu; rfl) (fun w H => ?_)))))
  replace H := H.h4 (A := blk b22 [.string x19] 9) (B := osl kPair q out) (D := blk b11 [.int .i64 (out.length : Int), .int .i64 0, .int .i64 0, .int .i64 0, .int .i64 0, .int .i64 0, .int .i64 0, .int .i64 0] 96)
  refine s_nil (q_then (c_seq (c_ord (.e 0 (.e 1 (.e 2 (.e 3 (.e 5 (.m 4 (.m 6 (.e 7 (.e 8 (.e 9 (.e 10 (.e 11 .z)))))))))))) (fun w => ∃ Ar, Hd w0 F0 w (blk b22 [.string x19] 9 :: osl kPair q out :: osl kStr (.slice A13 ((keysL ps).length) c14) (keysL ps) :: blk b11 [.int .i64 (out.length : Int), .int .i64 0, .int .i64 0, .int .i64 0, .int .i64 0, .int .i64 0, .int .i64 0, .int .i64 0] 96 :: Ar) [rsl kIns (.slice A1 p.length c2) p, rsl kPair (.slice A6 ps.length c7) ps, gl]) mo (by kernel_rfl) (fun w H => ⟨_, H⟩) H (fun w H => (d_1 rfl (d_val rfl rfl rfl (fun w ⟨Ar, H⟩ => r_ld rfl ty9 rfl (H.cellI 0 rfl rfl)) (d_1 rfl (d_val rfl rfl rfl (fun w ⟨Ar, H⟩ => r_ld rfl ty9 rfl (H.cellI 0 rfl rfl)) (d_1 rfl (d_main rfl (sc (pOf_ok (.slice A6 ps.length c7) ps x19 (by first | omega | decide)) H (lR 1 rfl l0) rfl rfl (e_fn kn55 rfl rfl) ?_)))))))))))
  rintro v23 _ w rfl H
  replace H := H.h1 (A := osl kStr v23 (ofL ps x19)) |>.p4 |>.p4 |>.p4 |>.p4
  refine d_back ⟨_, H⟩ (d_main rfl (sc (vmRun_ok (.slice A1 p.length c2) p x19 v23 (ofL ps x19) fuel hpa hfu) H (lR 0 rfl (lA 4 rfl own_rd (lR 2 rfl l0))) rfl rfl (e_fn kn54 rfl rfl) ?_))
  rintro _ _ w ⟨u24, rfl, rfl⟩ H
  replace H := H.h1 (A := osl kPair u24 ((runM dg p x19 (ofL ps x19) fuel).1))
  have hrt := run_told dg p x19 (ofL ps x19) fuel
  replace H := H.p4.p4.p4.p4
  refine d_back ⟨_, H⟩ (d_1 rfl (d_1 rfl (d_1 rfl (d_1 rfl (d_1 rfl (d_nil (q_then (c_seq (c_block (c_seq (c_reg (s_1 rfl (s_val rfl rfl (r_ne rfl rfl rfl) (s_1 rfl (s_nil (q_then ?_))))))))))))))))
  refine c_dec rfl (fun h25 => ?_) (fun h25 => ?_)
  ·refine c_seq (c_reg (s_k 3 rfl (s_nil (q_then (c_ret (q_blockR (q_thenR (q_blockR (q_thenR (q_thenR (q_blockR (q_thenR (q_ret2 rfl rfl rfl ?_)))))))))))))
   have e : eachM dg p ps fuel own = ([], (runM dg p x19 (ofL ps x19) fuel).2) := hgo.symm.trans (go_why hx20 h25)
   replace H := H.nil |>.newnil kPair
   exact fin ⟨_, by rw [e] <;> rfl, by rw [e] <;> rfl⟩ H
  refine c_seq (c_reg (s_k 2 rfl ?_))
  refine s_boo (d := 40) (b := own) rfl (fun h26 => ?_) (fun h26 => ?_)
  ·refine s_1 rfl (s_val rfl rfl (r_fn (fs := #[]) (cs := #[.pointer (some ⟨b22, 0, none⟩)]) rfl rfl rfl) (sc (containsFP_ok 57 [.pointer (some ⟨b22, 0, none⟩)] [blk b22 [.string x19] 9] (fun y => decide (y.key ≠ x19)) kn57 (fun y => eachF_ok y b22 x19) u24 (runM dg p x19 (ofL ps x19) fuel).1) H (lA 4 rfl own_rd (lA 0 rfl (fun _ h => h) l0)) rfl rfl (e_fn kn56 rfl rfl) ?_))
   rintro _ _ w ⟨rfl, rfl⟩ H
   refine s_k 2 rfl (s_nil (q_then ?_))
   refine c_cond (b := otherKey x19 (runM dg p x19 (ofL ps x19) fuel).1) rfl (fun h27 => ?_) (fun h27 => ?_)
   ·refine c_seq (c_reg (s_k 2 rfl (s_nil (q_then (c_ret (q_blockR (q_thenR (q_blockR (q_thenR (q_thenR (q_blockR (q_thenR (q_ret2 rfl rfl rfl ?_)))))))))))))
    have e : eachM dg p ps fuel own = ([], 6) := hgo.symm.trans (go_key hx20 h25 h26 h27)
    replace H := H.nil |>.newnil kPair
    replace H : Hd _ _ _ [osl kPair (.slice none 0 0) []] [rsl kIns (.slice A1 p.length c2) p, rsl kPair (.slice A6 ps.length c7) ps, gl] := H
    exact fin ⟨_, by rw [e] <;> rfl, by rw [e] <;> rfl⟩ H
   refine c_seq (c_reg (s_k 2 rfl ?_))
   obtain ⟨A28, c29, rfl, hc30, hm31, hp32⟩ := H.fA 4 rfl
   refine s_val rfl rfl (r_lenL rfl un23 rfl) ?_
   replace H := H.p3
   replace H : Hd _ _ _ [blk b11 [.int .i64 (out.length : Int), .int .i64 0, .int .i64 0, .int .i64 0, .int .i64 0, .int .i64 0, .int .i64 0, .int .i64 0] 96, blk b22 [.string x19] 9, osl kPair q out, osl kStr (.slice A13 ((keysL ps).length) c14) (keysL ps), osl kPair (.slice A28 (((runM dg p x19 (ofL ps x19) fuel).1).length) c29) ((runM dg p x19 (ofL ps x19) fuel).1), osl kStr v23 (ofL ps x19)] [rsl kIns (.slice A1 p.length c2) p, rsl kPair (.slice A6 ps.length c7) ps, gl] := H
   refine sc (tallyAdd_ok b11 (out.length : Int) 0 0 0 0 0 0 0 ((((runM dg p x19 (ofL ps x19) fuel).1).length : Nat) : Int) (by omega) (by omega)) H l0 rfl rfl (e_fn kn58 rfl rfl) ?_
   rintro _ _ w ⟨rfl, rfl⟩ H
   replace H := H.h1 (A := blk b11 [.int .i64 (min ((out.length : Int) + ((((runM dg p x19 (ofL ps x19) fuel).1).length : Nat) : Int)) 1099511627776), .int .i64 0, .int .i64 0, .int .i64 0, .int .i64 0, .int .i64 0, .int .i64 0, .int .i64 0] 96)
   refine s_val rfl rfl (r_gt rfl rfl rfl) (s_1 rfl (s_nil (q_then ?_)))
   refine c_dec rfl (fun h33 => ?_) (fun h33 => ?_)
   ·refine c_seq (c_reg (s_k 2 rfl (s_nil (q_then (c_ret (q_blockR (q_thenR (q_blockR (q_thenR (q_thenR (q_blockR (q_thenR (q_ret2 rfl rfl rfl ?_)))))))))))))
    have e : eachM dg p ps fuel own = ([], 5) := hgo.symm.trans (go_many hx20 h25 (fun h => by rw [h.2] at h27; cases h27) (by omega))
    replace H := H.nil |>.newnil kPair
    exact fin ⟨_, by rw [e] <;> rfl, by rw [e] <;> rfl⟩ H
   refine c_skip (q_blockN (q_then (c_reg (s_k 2 rfl ?_))))
   replace H := H.p2
   refine s_appF (xs := out) (ys := (runM dg p x19 (ofL ps x19) fuel).1) rfl rfl rfl sl23 zr56 rfl (by decide) rfl rfl H (by omega) (fun F hA hR => own_rd F (hA _ (List.mem_of_getElem? (i := 3) rfl))) (fun v34 w H => ?_)
   replace H := H.h1 (A := osl kPair v34 (out ++ ((runM dg p x19 (ofL ps x19) fuel).1)))
   refine s_1 rfl (s_nil (q_blockN (q_then (c_reg (s_val rfl rfl (r_add (z := ((i + 1 : Nat) : Int)) rfl rfl rfl (by rw [w64 (by omega) (by omega)]; omega)) (s_1 rfl (s_nil ?_)))))))
   replace H := H.p3.p1.k3
   have hl2 : ((out ++ (runM dg p x19 (ofL ps x19) fuel).1).length : Int) = min ((out.length : Int) + ((((runM dg p x19 (ofL ps x19) fuel).1).length : Nat) : Int)) 1099511627776 := by rw [List.length_append]; omega
   replace H : Hd w0 F0 w [osl kPair v34 (out ++ ((runM dg p x19 (ofL ps x19) fuel).1)), osl kStr (.slice A13 ((keysL ps).length) c14) (keysL ps), blk b11 [.int .i64 ((out ++ (runM dg p x19 (ofL ps x19) fuel).1).length : Int), .int .i64 0, .int .i64 0, .int .i64 0, .int .i64 0, .int .i64 0, .int .i64 0, .int .i64 0] 96] [rsl kIns (.slice A1 p.length c2) p, rsl kPair (.slice A6 ps.length c7) ps, gl] := by rw [hl2]; exact H
   have hg2 := (go_on (out := out) hx20 h25 (fun h => by rw [h.2] at h27; cases h27) (by omega)).trans hgo
   have ho2 : (out ++ (runM dg p x19 (ofL ps x19) fuel).1).length ≤ 40 := by rw [List.length_append]; omega
   exact q_round (s := (i, undef, out)) (i + 1, v34, out ++ (runM dg p x19 (ofL ps x19) fuel).1) ⟨rfl, rfl, rfl, rfl, rfl, rfl, rfl, rfl, rfl, trivial⟩ ⟨H, by (try dsimp only); omega, hg2, ho2⟩ (by (try dsimp only); omega)
  refine s_k 5 rfl (s_nil (q_then (c_no rfl (c_seq (c_reg (s_k 2 rfl ?_))))))
  obtain ⟨A35, c36, rfl, hc37, hm38, hp39⟩ := H.fA 4 rfl
  refine s_val rfl rfl (r_lenL rfl un23 rfl) ?_
  replace H := H.p3
  refine sc (tallyAdd_ok b11 (out.length : Int) 0 0 0 0 0 0 0 ((((runM dg p x19 (ofL ps x19) fuel).1).length : Nat) : Int) (by omega) (by omega)) H l0 rfl rfl (e_fn kn58 rfl rfl) ?_
  rintro _ _ w ⟨rfl, rfl⟩ H
  replace H := H.h1 (A := blk b11 [.int .i64 (min ((out.length : Int) + ((((runM dg p x19 (ofL ps x19) fuel).1).length : Nat) : Int)) 1099511627776), .int .i64 0, .int .i64 0, .int .i64 0, .int .i64 0, .int .i64 0, .int .i64 0, .int .i64 0] 96)
  refine s_val rfl rfl (r_gt rfl rfl rfl) (s_1 rfl (s_nil (q_then ?_)))
  refine c_dec rfl (fun h40 => ?_) (fun h40 => ?_)
  ·refine c_seq (c_reg (s_k 2 rfl (s_nil (q_then (c_ret (q_blockR (q_thenR (q_blockR (q_thenR (q_thenR (q_blockR (q_thenR (q_ret2 rfl rfl rfl ?_)))))))))))))
   have e : eachM dg p ps fuel own = ([], 5) := hgo.symm.trans (go_many hx20 h25 (fun h => by rw [h.1] at h26; cases h26) (by omega))
   replace H := H.nil |>.newnil kPair
   exact fin ⟨_, by rw [e] <;> rfl, by rw [e] <;> rfl⟩ H
  refine c_skip (q_blockN (q_then (c_reg (s_k 2 rfl ?_))))
  replace H := H.p2
  refine s_appF (xs := out) (ys := (runM dg p x19 (ofL ps x19) fuel).1) rfl rfl rfl sl23 zr56 rfl (by decide) rfl rfl H (by omega) (fun F hA hR => own_rd F (hA _ (List.mem_of_getElem? (i := 3) rfl))) (fun v41 w H => ?_)
  replace H := H.h1 (A := osl kPair v41 (out ++ ((runM dg p x19 (ofL ps x19) fuel).1)))
  refine s_1 rfl (s_nil (q_blockN (q_then (c_reg (s_val rfl rfl (r_add (z := ((i + 1 : Nat) : Int)) rfl rfl rfl (by rw [w64 (by omega) (by omega)]; omega)) (s_1 rfl (s_nil ?_)))))))
  replace H := H.p3.p1.k3
  have hl2 : ((out ++ (runM dg p x19 (ofL ps x19) fuel).1).length : Int) = min ((out.length : Int) + ((((runM dg p x19 (ofL ps x19) fuel).1).length : Nat) : Int)) 1099511627776 := by rw [List.length_append]; omega
  replace H : Hd w0 F0 w [osl kPair v41 (out ++ ((runM dg p x19 (ofL ps x19) fuel).1)), osl kStr (.slice A13 ((keysL ps).length) c14) (keysL ps), blk b11 [.int .i64 ((out ++ (runM dg p x19 (ofL ps x19) fuel).1).length : Int), .int .i64 0, .int .i64 0, .int .i64 0, .int .i64 0, .int .i64 0, .int .i64 0, .int .i64 0] 96] [rsl kIns (.slice A1 p.length c2) p, rsl kPair (.slice A6 ps.length c7) ps, gl] := by rw [hl2]; exact H
  have hg2 := (go_on (out := out) hx20 h25 (fun h => by rw [h.1] at h26; cases h26) (by omega)).trans hgo
  have ho2 : (out ++ (runM dg p x19 (ofL ps x19) fuel).1).length ≤ 40 := by rw [List.length_append]; omega
  exact q_round (s := (i, undef, out)) (i + 1, v41, out ++ (runM dg p x19 (ofL ps x19) fuel).1) ⟨rfl, rfl, rfl, rfl, rfl, rfl, rfl, rfl, rfl, trivial⟩ ⟨H, by (try dsimp only); omega, hg2, ho2⟩ (by (try dsimp only); omega)
 refine c_exit (q_thenE (q_thenE (q_blockE (q_then (c_seq (c_reg (s_k 3 rfl (s_nil (q_then (c_ret (q_ret2 rfl rfl rfl ?_)))))))))))
 replace H := H.k1
 have e : eachM dg p ps fuel own = (out, 0) := hgo.symm.trans (go_end (by omega))
 replace H := H.h1 (A := osl kPair q out)
 exact fin ⟨_, by rw [e] <;> rfl, by rw [e] <;> rfl⟩ H
theorem foldEach_ok (vp : Value) (p : List Ins) (vps : Value) (ps : List Pair) (fuel : Int) (hpa : ∀ i ∈ p, In64 i.a) (hfu : In64 fuel) (hb : ps.length ≤ 1000000) :
    Cn Tryz.prog 10 [vp, vps, .int .i64 fuel] [] [rsl kIns vp p, rsl kPair vps ps, gl] (fun v Bs => ∃ u, v = .tuple #[u, .int .i64 (eachM dg p ps fuel false).2] ∧ Bs = [osl kPair u (eachM dg p ps fuel false).1]) := by
 intro w0 F0 H
 refine enter Tryz.func10 rfl rfl (Nat.le_of_ble_eq_true rfl) (c_seq (c_reg (s_k 2 rfl (s_nil (q_then (c_seq (c_reg (s_k 3 rfl (sc (each_ok vp p vps ps fuel false hpa hfu hb) H (lR 0 rfl (lR 1 rfl (lR 2 rfl l0))) rfl rfl (e_fn kn32 rfl rfl) ?_)))))))))
 rintro _ _ w ⟨u1, rfl, rfl⟩ H
 refine s_k 4 rfl (s_nil (q_then ?_))
 replace H : Hd _ _ _ [osl kPair u1 ((eachM dg p ps fuel false).1)] [rsl kIns vp p, rsl kPair vps ps, gl] := H
 exact c_ret (q_ret2 rfl rfl rfl (fin ⟨_, rfl, rfl⟩ H))
theorem greatCode_ok (vxs : Value) (xs : List Ins) :
    Cn Tryz.prog 12 [vxs] [] [rsl kIns vxs xs] (fun v Bs => v = .bool (greatC xs) ∧ Bs = []) := by
 intro w0 F0 H
 obtain ⟨A1, c2, rfl, hc3, hm4, hp5⟩ := H.fR 0 rfl
 refine enter Tryz.func12 rfl rfl (Nat.le_of_ble_eq_true rfl) (c_seq (c_reg (s_1 rfl (s_nil (q_then ?_)))))
 replace H : Hd _ _ _ [] [rsl kIns (.slice A1 xs.length c2) xs] := H
 refine c_seq (c_seq (c_reg (s_1 rfl (s_nil (q_then (c_block (c_loop (σ := Nat) (fun k => [(0, .slice A1 xs.length c2), (3, .int .i64 ((k : Nat) : Int))]) (fun k w => (Hd w0 F0 w [] [rsl kIns (.slice A1 xs.length c2) xs]) ∧ (k ≤ xs.length) ∧ (∀ y ∈ xs.take k, y.s.size ≤ 100)) (fun k => xs.length - k) 0 ⟨rfl, rfl, trivial⟩ ⟨H, by omega, by simp⟩ ?_)))))))
 rintro k w ⟨H, hk, hn⟩
 refine c_seq (c_seq (c_reg (s_k 2 rfl (s_val rfl rfl (r_lenL rfl un22 rfl) (s_val rfl rfl (r_lt rfl rfl rfl) (s_1 rfl ?_))))))
 refine s_dec (d := 8) rfl (fun h6 => ?_) (fun h6 => ?_)
 ·refine s_1 rfl (s_val rfl rfl (r_lenL rfl un22 rfl) (s_val rfl rfl (r_le rfl rfl rfl) (s_1 rfl (s_nil (q_then ?_)))))
  refine c_dec rfl (fun h7 => ?_) (fun h7 => ?_)
  ·refine c_skip (q_then (c_seq (c_block (c_seq (c_reg (s_k 2 rfl ?_))))))
   obtain ⟨x8, hx9⟩ : ∃ z9, xs[k]? = some z9 := ⟨_, List.getElem?_eq_getElem (show k < xs.length by omega)⟩
   have th10 := H.thR 0 rfl hx9
   refine s_val rfl rfl (r_iaE (p := oOf A1 + k * 3) rfl sl22 rfl rfl (by omega) (by omega) th10 rfl) (s_val rfl rfl (r_fa rfl fo29_2 rfl) (s_val rfl rfl (r_ld rfl ty9 rfl (H.elR 0 rfl hx9 (q := 2) rfl rfl)) (s_val rfl rfl (r_lenS rfl un9 rfl) (s_val rfl rfl (r_gt rfl rfl rfl) (s_nil (q_then ?_))))))
   refine c_dec rfl (fun h11 => ?_) (fun h11 => ?_)
   ·exact c_seq (c_reg (s_1 rfl (s_nil (q_then (c_ret (q_blockR (q_thenR (q_thenR (q_blockR (q_thenR (q_ret1 rfl rfl (fin ⟨congrArg Value.bool (great_hit hx9 (by omega)), rfl⟩ H))))))))))))
   exact c_skip (q_blockN (q_then (c_reg (s_1 rfl (s_val rfl rfl (r_add (z := ((k + 1 : Nat) : Int)) rfl rfl rfl (by rw [w64 (by omega) (by omega)]; omega)) (s_1 rfl (s_nil (q_round (s := k) (k + 1) ⟨rfl, rfl, trivial⟩ ⟨H, by (try dsimp only); omega, take_small hn hx9 (by omega)⟩ (by (try dsimp only); omega)))))))))
  exact c_exit (q_thenE (q_thenE (q_blockE (q_then (c_seq (c_reg (s_1 rfl (s_val rfl rfl (r_lenL rfl un22 rfl) (s_val rfl rfl (r_gt rfl rfl rfl) (s_1 rfl (s_nil (q_then (c_ret (q_ret1 rfl rfl (fin ⟨congrArg Value.bool (great_end hn (by omega)), rfl⟩ H)))))))))))))))
 exact s_k 4 rfl (s_nil (q_then (c_no rfl (c_exit (q_thenE (q_thenE (q_blockE (q_then (c_seq (c_reg (s_1 rfl (s_val rfl rfl (r_lenL rfl un22 rfl) (s_val rfl rfl (r_gt rfl rfl rfl) (s_1 rfl (s_nil (q_then (c_ret (q_ret1 rfl rfl (fin ⟨congrArg Value.bool (great_end hn (by omega)), rfl⟩ H)))))))))))))))))))
theorem rInt_ok (n : Int) :
    Cn Tryz.prog 142 [.int .i64 n] [] [] (fun v Bs => v = .agg #[.bool false, .int .i64 n, .string ⟨#[]⟩] ∧ Bs = []) := by
 intro w0 F0 H
 refine enter Tryz.func142 rfl rfl (Nat.le_of_ble_eq_true rfl) (c_seq (c_reg (s_alloc rfl rfl rfl zr104 H (fun b1 w H => (s_nil (q_then ?_))))))
 replace H : Hd _ _ _ [blk b1 [.bool false, .int .i64 0, .string ⟨#[]⟩] 104] [] := H
 refine c_seq (c_reg (s_1 rfl (s_val rfl rfl (r_bd (parts := [(1, .tmp 3)]) (vs := [.int .i64 n]) (cs := [.bool false, .int .i64 n, .string ⟨#[]⟩]) rfl bd104 rfl rfl) (s_st rfl rfl rfl ty104 rfl rfl H rfl (Nat.le_of_ble_eq_true rfl) (fun u hu => by simp [Value.cells] at hu; rcases hu with rfl | rfl | rfl <;> rfl) (fun w H => ?_)))))
 replace H := H.h1 (A := blk b1 [.bool false, .int .i64 n, .string ⟨#[]⟩] 104)
 refine s_nil (q_then (c_ret (q_retC (cs := [.bool false, .int .i64 n, .string ⟨#[]⟩]) rfl rfl ty104 rfl (H.cellsI 0 rfl rfl) ?_)))
 replace H := H.nil
 exact fin ⟨rfl, rfl⟩ H
theorem rBytes_ok (s : ByteArray) :
    Cn Tryz.prog 143 [.string s] [] [] (fun v Bs => v = .agg #[.bool true, .int .i64 0, .string s] ∧ Bs = []) := by
 intro w0 F0 H
 refine enter Tryz.func143 rfl rfl (Nat.le_of_ble_eq_true rfl) (c_seq (c_reg (s_alloc rfl rfl rfl zr104 H (fun b1 w H => (s_nil (q_then ?_))))))
 replace H : Hd _ _ _ [blk b1 [.bool false, .int .i64 0, .string ⟨#[]⟩] 104] [] := H
 refine c_seq (c_reg (s_1 rfl (s_val rfl rfl (r_bd (parts := [(0, .const (.bool true)), (2, .tmp 3)]) (vs := [.bool true, .string s]) (cs := [.bool true, .int .i64 0, .string s]) rfl bd104 rfl rfl) (s_st rfl rfl rfl ty104 rfl rfl H rfl (Nat.le_of_ble_eq_true rfl) (fun u hu => by simp [Value.cells] at hu; rcases hu with rfl | rfl | rfl <;> rfl) (fun w H => ?_)))))
 replace H := H.h1 (A := blk b1 [.bool true, .int .i64 0, .string s] 104)
 refine s_nil (q_then (c_ret (q_retC (cs := [.bool true, .int .i64 0, .string s]) rfl rfl ty104 rfl (H.cellsI 0 rfl rfl) ?_)))
 replace H := H.nil
 exact fin ⟨rfl, rfl⟩ H
theorem rFlag_ok (b : Bool) :
    Cn Tryz.prog 144 [.bool b] [] [] (fun v Bs => v = .agg #[.bool false, .int .i64 (if b = true then 1 else 0), .string ⟨#[]⟩] ∧ Bs = []) := by
 intro w0 F0 H
 refine enter Tryz.func144 rfl rfl (Nat.le_of_ble_eq_true rfl) (c_seq (c_reg (s_alloc rfl rfl rfl zr104 H (fun b1 w H => (s_nil (q_then ?_))))))
 replace H : Hd _ _ _ [blk b1 [.bool false, .int .i64 0, .string ⟨#[]⟩] 104] [] := H
 refine c_seq (c_seq (c_reg (s_1 rfl (s_nil (q_then ?_)))))
 refine c_cond (b := b) rfl (fun h2 => ?_) (fun h2 => ?_)
 ·refine c_seq (c_reg (sc (rInt_ok 1) H l0 rfl rfl (e_fn kn142 rfl rfl) ?_))
  rintro _ _ w ⟨rfl, rfl⟩ H
  refine s_st rfl rfl rfl ty104 rfl rfl H rfl (Nat.le_of_ble_eq_true rfl) (fun u hu => by simp [Value.cells] at hu; rcases hu with rfl | rfl | rfl <;> rfl) (fun w H => ?_)
  replace H := H.h1 (A := blk b1 [.bool false, .int .i64 1, .string ⟨#[]⟩] 104)
  refine s_nil (q_then (c_ret (q_thenR (q_retC (cs := [.bool false, .int .i64 1, .string ⟨#[]⟩]) rfl rfl ty104 rfl (H.cellsI 0 rfl rfl) ?_))))
  replace H := H.nil
  exact fin ⟨by simp only [h2]; rfl, rfl⟩ H
 refine c_skip (q_then (c_seq (c_reg (sc (rInt_ok 0) H l0 rfl rfl (e_fn kn142 rfl rfl) ?_))))
 rintro _ _ w ⟨rfl, rfl⟩ H
 refine s_st rfl rfl rfl ty104 rfl rfl H rfl (Nat.le_of_ble_eq_true rfl) (fun u hu => by simp [Value.cells] at hu; rcases hu with rfl | rfl | rfl <;> rfl) (fun w H => (s_nil (q_then (c_ret (q_retC (cs := [.bool false, .int .i64 0, .string ⟨#[]⟩]) rfl rfl ty104 rfl (H.cellsI 0 rfl rfl) ?_)))))
 replace H := H.nil
 exact fin ⟨by simp only [h2]; rfl, rfl⟩ H
theorem rKinds_ok (op : Int) :
    Cn Tryz.prog 133 [.int .i64 op] [] [] (fun v Bs => v = .string (kindsR op) ∧ Bs = []) := by
 intro w0 F0 H
 refine enter Tryz.func133 rfl rfl (Nat.le_of_ble_eq_true rfl) (c_seq (c_reg (s_1 rfl (s_nil (q_then (c_seq (c_seq (c_reg (s_1 rfl (s_nil (q_then (c_block (c_seq (c_seq (c_reg (s_val rfl rfl (r_eq rfl rfl rfl) (s_1 rfl (s_nil (q_then ?_)))))))))))))))))))
 refine c_dec rfl (fun h1 => ?_) (fun h1 => ?_)
 ·refine c_skip (q_then ?_)
  refine c_dec rfl (fun h2 => ?_) (fun h2 => ?_)
  ·exact c_seq (c_reg (s_1 rfl (s_nil (q_then (c_ret (q_blockR (q_thenR (q_ret1 rfl rfl (fin ⟨congrArg Value.string (by unfold kindsR; repeat (first | rw [if_pos (by omega)] | rw [if_neg (by omega)])), rfl⟩ H)))))))))
  exact absurd h1 h2
 refine c_seq (c_reg (s_val rfl rfl (r_eq rfl rfl rfl) (s_1 rfl (s_nil (q_then ?_)))))
 refine c_dec rfl (fun h3 => ?_) (fun h3 => ?_)
 ·refine c_skip (q_then ?_)
  refine c_dec rfl (fun h4 => ?_) (fun h4 => ?_)
  ·exact c_seq (c_reg (s_1 rfl (s_nil (q_then (c_ret (q_blockR (q_thenR (q_ret1 rfl rfl (fin ⟨congrArg Value.string (by unfold kindsR; repeat (first | rw [if_pos (by omega)] | rw [if_neg (by omega)])), rfl⟩ H)))))))))
  exact absurd h3 h4
 refine c_reg (s_val rfl rfl (r_eq rfl rfl rfl) (s_1 rfl (s_nil (q_then ?_))))
 refine c_dec rfl (fun h5 => ?_) (fun h5 => ?_)
 ·exact c_seq (c_reg (s_1 rfl (s_nil (q_then (c_ret (q_blockR (q_thenR (q_ret1 rfl rfl (fin ⟨congrArg Value.string (by unfold kindsR; repeat (first | rw [if_pos (by omega)] | rw [if_neg (by omega)])), rfl⟩ H)))))))))
 refine c_seq (c_seq (c_reg (s_val rfl rfl (r_eq rfl rfl rfl) (s_1 rfl (s_nil (q_then ?_))))))
 refine c_dec rfl (fun h6 => ?_) (fun h6 => ?_)
 ·refine c_skip (q_then ?_)
  refine c_dec rfl (fun h7 => ?_) (fun h7 => ?_)
  ·exact c_seq (c_reg (s_1 rfl (s_nil (q_then (c_ret (q_blockR (q_thenR (q_ret1 rfl rfl (fin ⟨congrArg Value.string (by unfold kindsR; repeat (first | rw [if_pos (by omega)] | rw [if_neg (by omega)])), rfl⟩ H)))))))))
  exact absurd h6 h7
 refine c_reg (s_val rfl rfl (r_eq rfl rfl rfl) (s_1 rfl (s_nil (q_then ?_))))
 refine c_dec rfl (fun h8 => ?_) (fun h8 => ?_)
 ·exact c_seq (c_reg (s_1 rfl (s_nil (q_then (c_ret (q_blockR (q_thenR (q_ret1 rfl rfl (fin ⟨congrArg Value.string (by unfold kindsR; repeat (first | rw [if_pos (by omega)] | rw [if_neg (by omega)])), rfl⟩ H)))))))))
 refine c_seq (c_seq (c_reg (s_val rfl rfl (r_eq rfl rfl rfl) (s_1 rfl (s_nil (q_then ?_))))))
 refine c_dec rfl (fun h9 => ?_) (fun h9 => ?_)
 ·refine c_skip (q_then ?_)
  refine c_dec rfl (fun h10 => ?_) (fun h10 => ?_)
  ·exact c_seq (c_reg (s_1 rfl (s_nil (q_then (c_ret (q_blockR (q_thenR (q_ret1 rfl rfl (fin ⟨congrArg Value.string (by unfold kindsR; repeat (first | rw [if_pos (by omega)] | rw [if_neg (by omega)])), rfl⟩ H)))))))))
  exact absurd h9 h10
 refine c_seq (c_reg (s_val rfl rfl (r_eq rfl rfl rfl) (s_1 rfl (s_nil (q_then ?_)))))
 refine c_dec rfl (fun h11 => ?_) (fun h11 => ?_)
 ·refine c_skip (q_then ?_)
  refine c_dec rfl (fun h12 => ?_) (fun h12 => ?_)
  ·exact c_seq (c_reg (s_1 rfl (s_nil (q_then (c_ret (q_blockR (q_thenR (q_ret1 rfl rfl (fin ⟨congrArg Value.string (by unfold kindsR; repeat (first | rw [if_pos (by omega)] | rw [if_neg (by omega)])), rfl⟩ H)))))))))
  exact absurd h11 h12
 refine c_seq (c_reg (s_val rfl rfl (r_eq rfl rfl rfl) (s_1 rfl (s_nil (q_then ?_)))))
 refine c_dec rfl (fun h13 => ?_) (fun h13 => ?_)
 ·refine c_skip (q_then ?_)
  refine c_dec rfl (fun h14 => ?_) (fun h14 => ?_)
  ·exact c_seq (c_reg (s_1 rfl (s_nil (q_then (c_ret (q_blockR (q_thenR (q_ret1 rfl rfl (fin ⟨congrArg Value.string (by unfold kindsR; repeat (first | rw [if_pos (by omega)] | rw [if_neg (by omega)])), rfl⟩ H)))))))))
  exact absurd h13 h14
 refine c_reg (s_val rfl rfl (r_eq rfl rfl rfl) (s_1 rfl (s_nil (q_then ?_))))
 refine c_dec rfl (fun h15 => ?_) (fun h15 => ?_)
 ·exact c_seq (c_reg (s_1 rfl (s_nil (q_then (c_ret (q_blockR (q_thenR (q_ret1 rfl rfl (fin ⟨congrArg Value.string (by unfold kindsR; repeat (first | rw [if_pos (by omega)] | rw [if_neg (by omega)])), rfl⟩ H)))))))))
 refine c_seq (c_seq (c_reg (s_val rfl rfl (r_eq rfl rfl rfl) (s_1 rfl (s_nil (q_then ?_))))))
 refine c_dec rfl (fun h16 => ?_) (fun h16 => ?_)
 ·refine c_skip (q_then ?_)
  refine c_dec rfl (fun h17 => ?_) (fun h17 => ?_)
  ·exact c_seq (c_reg (s_1 rfl (s_nil (q_then (c_ret (q_blockR (q_thenR (q_ret1 rfl rfl (fin ⟨congrArg Value.string (by unfold kindsR; repeat (first | rw [if_pos (by omega)] | rw [if_neg (by omega)])), rfl⟩ H)))))))))
  exact absurd h16 h17
 refine c_reg (s_val rfl rfl (r_eq rfl rfl rfl) (s_1 rfl (s_nil (q_then ?_))))
 refine c_dec rfl (fun h18 => ?_) (fun h18 => ?_)
 ·exact c_seq (c_reg (s_1 rfl (s_nil (q_then (c_ret (q_blockR (q_thenR (q_ret1 rfl rfl (fin ⟨congrArg Value.string (by unfold kindsR; repeat (first | rw [if_pos (by omega)] | rw [if_neg (by omega)])), rfl⟩ H)))))))))
 refine c_seq (c_seq (c_reg (s_val rfl rfl (r_eq rfl rfl rfl) (s_1 rfl (s_nil (q_then ?_))))))
 refine c_dec rfl (fun h19 => ?_) (fun h19 => ?_)
 ·refine c_skip (q_then ?_)
  refine c_dec rfl (fun h20 => ?_) (fun h20 => ?_)
  ·exact c_seq (c_reg (s_1 rfl (s_nil (q_then (c_ret (q_blockR (q_thenR (q_ret1 rfl rfl (fin ⟨congrArg Value.string (by unfold kindsR; repeat (first | rw [if_pos (by omega)] | rw [if_neg (by omega)])), rfl⟩ H)))))))))
  exact absurd h19 h20
 refine c_reg (s_val rfl rfl (r_eq rfl rfl rfl) (s_1 rfl (s_nil (q_then ?_))))
 refine c_dec rfl (fun h21 => ?_) (fun h21 => ?_)
 ·exact c_seq (c_reg (s_1 rfl (s_nil (q_then (c_ret (q_blockR (q_thenR (q_ret1 rfl rfl (fin ⟨congrArg Value.string (by unfold kindsR; repeat (first | rw [if_pos (by omega)] | rw [if_neg (by omega)])), rfl⟩ H)))))))))
 refine c_seq (c_reg (s_val rfl rfl (r_eq rfl rfl rfl) (s_1 rfl (s_nil (q_then ?_)))))
 refine c_dec rfl (fun h22 => ?_) (fun h22 => ?_)
 ·exact c_seq (c_reg (s_1 rfl (s_nil (q_then (c_ret (q_blockR (q_thenR (q_ret1 rfl rfl (fin ⟨congrArg Value.string (by unfold kindsR; repeat (first | rw [if_pos (by omega)] | rw [if_neg (by omega)])), rfl⟩ H)))))))))
 refine c_seq (c_reg (s_val rfl rfl (r_eq rfl rfl rfl) (s_1 rfl (s_nil (q_then ?_)))))
 refine c_dec rfl (fun h23 => ?_) (fun h23 => ?_)
 ·exact c_seq (c_reg (s_1 rfl (s_nil (q_then (c_ret (q_blockR (q_thenR (q_ret1 rfl rfl (fin ⟨congrArg Value.string (by unfold kindsR; repeat (first | rw [if_pos (by omega)] | rw [if_neg (by omega)])), rfl⟩ H)))))))))
 refine c_seq (c_seq (c_reg (s_val rfl rfl (r_eq rfl rfl rfl) (s_1 rfl (s_nil (q_then ?_))))))
 refine c_dec rfl (fun h24 => ?_) (fun h24 => ?_)
 ·refine c_skip (q_then ?_)
  refine c_dec rfl (fun h25 => ?_) (fun h25 => ?_)
  ·exact c_seq (c_reg (s_1 rfl (s_nil (q_then (c_ret (q_blockR (q_thenR (q_ret1 rfl rfl (fin ⟨congrArg Value.string (by unfold kindsR; repeat (first | rw [if_pos (by omega)] | rw [if_neg (by omega)])), rfl⟩ H)))))))))
  exact absurd h24 h25
 refine c_reg (s_val rfl rfl (r_eq rfl rfl rfl) (s_1 rfl (s_nil (q_then ?_))))
 refine c_dec rfl (fun h26 => ?_) (fun h26 => ?_)
 ·exact c_seq (c_reg (s_1 rfl (s_nil (q_then (c_ret (q_blockR (q_thenR (q_ret1 rfl rfl (fin ⟨congrArg Value.string (by unfold kindsR; repeat (first | rw [if_pos (by omega)] | rw [if_neg (by omega)])), rfl⟩ H)))))))))
 exact c_skip (q_blockN (q_then (c_seq (c_reg (s_1 rfl (s_nil (q_then (c_ret (q_ret1 rfl rfl (fin ⟨congrArg Value.string (by unfold kindsR; repeat (first | rw [if_pos (by omega)] | rw [if_neg (by omega)])), rfl⟩ H))))))))))
theorem rSameV_ok (a : Val) (b : Val) :
    Cn Tryz.prog 145 [.agg #[.bool a.t, .int .i64 a.n, .string a.b], .agg #[.bool b.t, .int .i64 b.n, .string b.b]] [] [] (fun v Bs => v = .bool (sameV a b) ∧ Bs = []) := by
 intro w0 F0 H
 refine enter Tryz.func145 rfl rfl (Nat.le_of_ble_eq_true rfl) (c_seq (c_reg (s_box rfl rfl rfl rfl H (fun b1 w H => (s_box rfl rfl rfl rfl H (fun b2 w H => (s_1 rfl (s_nil (q_then ?_)))))))))
 replace H : Hd _ _ _ [blk b2 [.bool b.t, .int .i64 b.n, .string b.b] 104, blk b1 [.bool a.t, .int .i64 a.n, .string a.b] 104] [] := H
 refine c_seq (c_seq (c_reg (s_val rfl rfl (r_fa rfl fo104_0 rfl) (s_val rfl rfl (r_ld rfl ty4 rfl (H.cellI 1 rfl rfl)) (s_val rfl rfl (r_fa rfl fo104_0 rfl) (s_val rfl rfl (r_ld rfl ty4 rfl (H.cellI 0 rfl rfl)) (s_val rfl rfl (r_bne rfl un4 rfl rfl) (s_nil (q_then ?_)))))))))
 refine c_dec rfl (fun h3 => ?_) (fun h3 => ?_)
 ·refine c_seq (c_reg (s_1 rfl (s_nil (q_then (c_ret (q_thenR (q_ret1 rfl rfl ?_)))))))
  replace H := H.nil
  exact fin ⟨congrArg Value.bool (by unfold sameV; cases ha : a.t <;> cases hb : b.t <;> simp_all), rfl⟩ H
 refine c_skip (q_then (c_seq (c_seq (c_reg (s_val rfl rfl (r_fa rfl fo104_0 rfl) (s_val rfl rfl (r_ld rfl ty4 rfl (H.cellI 1 rfl rfl)) (s_nil (q_then ?_))))))))
 refine c_cond (b := a.t) rfl (fun h4 => ?_) (fun h4 => ?_)
 ·refine c_seq (c_reg (s_val rfl rfl (r_fa rfl fo104_2 rfl) (s_val rfl rfl (r_ld rfl ty9 rfl (H.cellI 1 rfl rfl)) (s_val rfl rfl (r_fa rfl fo104_2 rfl) (s_val rfl rfl (r_ld rfl ty9 rfl (H.cellI 0 rfl rfl)) (s_val rfl rfl (r_eqS rfl rfl rfl) (s_1 rfl (s_nil (q_then (c_ret (q_thenR (q_ret1 rfl rfl ?_))))))))))))
  replace H := H.nil
  exact fin ⟨congrArg Value.bool (by unfold sameV; cases ha : a.t <;> cases hb : b.t <;> simp_all), rfl⟩ H
 refine c_skip (q_then (c_seq (c_reg (s_val rfl rfl (r_fa rfl fo104_1 rfl) (s_val rfl rfl (r_ld rfl ty2 rfl (H.cellI 1 rfl rfl)) (s_val rfl rfl (r_fa rfl fo104_1 rfl) (s_val rfl rfl (r_ld rfl ty2 rfl (H.cellI 0 rfl rfl)) (s_val rfl rfl (r_eq rfl rfl rfl) (s_1 rfl (s_nil (q_then (c_ret (q_ret1 rfl rfl ?_)))))))))))))
 replace H := H.nil
 exact fin ⟨congrArg Value.bool (by unfold sameV; cases ha : a.t <;> cases hb : b.t <;> simp_all), rfl⟩ H
theorem rAt_ok (s : ByteArray) (i : Int) :
    Cn Tryz.prog 146 [.string s, .int .i64 i] [] [] (fun v Bs => v = .int .i64 (atS s i) ∧ Bs = []) := by
 intro w0 F0 H
 refine enter Tryz.func146 rfl rfl (Nat.le_of_ble_eq_true rfl) (c_seq (c_reg (s_1 rfl (s_nil (q_then (c_seq (c_seq (c_reg (s_1 rfl (s_val rfl rfl (r_lt rfl rfl rfl) (s_1 rfl ?_)))))))))))
 refine s_dec (d := 7) rfl (fun h1 => ?_) (fun h1 => ?_)
 ·exact s_k 5 rfl (s_nil (q_then (c_yes rfl (c_seq (c_reg (s_1 rfl (s_nil (q_then (c_ret (q_thenR (q_ret1 rfl rfl (fin ⟨congrArg (Value.int .i64) (if_pos (by omega)).symm, rfl⟩ H))))))))))))
 refine s_k 2 rfl (s_val rfl rfl (r_lenS rfl un9 rfl) (s_val rfl rfl (r_ge rfl rfl rfl) (s_1 rfl (s_nil (q_then ?_)))))
 refine c_dec rfl (fun h2 => ?_) (fun h2 => ?_)
 ·exact c_seq (c_reg (s_1 rfl (s_nil (q_then (c_ret (q_thenR (q_ret1 rfl rfl (fin ⟨congrArg (Value.int .i64) (if_pos (by omega)).symm, rfl⟩ H))))))))
 refine c_skip (q_then (c_seq (c_reg (s_k 2 rfl ?_))))
 obtain ⟨c0, hc0⟩ : ∃ c0, s[i.toNat]? = some c0 := ⟨_, getElem?_pos s i.toNat (by omega)⟩
 exact s_val rfl rfl (r_idxS rfl un9 rfl rfl (by omega) hc0) (s_val rfl rfl (r_i2i (z := ((c0).toNat : Int)) rfl rfl un5 un2 (w64 (by omega) (by have := UInt8.toNat_lt c0; omega))) (s_1 rfl (s_nil (q_then (c_ret (q_ret1 rfl rfl (fin ⟨congrArg (Value.int .i64) (by unfold atS; rw [if_neg (by omega), hc0]; rfl), rfl⟩ H)))))))
theorem rCut_ok (s : ByteArray) (f : Int) (t : Int) :
    Cn Tryz.prog 147 [.string s, .int .i64 f, .int .i64 t] [] [] (fun v Bs => v = .string (cutS s f t) ∧ Bs = []) := by
 intro w0 F0 H
 refine enter Tryz.func147 rfl rfl (Nat.le_of_ble_eq_true rfl) (c_seq (c_reg (s_1 rfl (s_nil (q_then (c_seq (c_reg (s_1 rfl (s_val rfl rfl (r_lenS rfl un9 rfl) (s_1 rfl (s_nil (q_then (c_seq (c_reg (s_1 rfl (s_val rfl rfl (r_max (z := max f 0) rfl rfl rfl rfl) (s_1 rfl (s_val rfl rfl (r_min (z := min (max f 0) ((s.size : Nat) : Int)) rfl rfl rfl rfl) (s_1 rfl (s_val rfl rfl (r_max (z := max t 0) rfl rfl rfl rfl) (s_1 rfl (s_val rfl rfl (r_min (z := min (max t 0) ((s.size : Nat) : Int)) rfl rfl rfl rfl) (s_k 2 rfl (s_nil (q_then (c_seq (c_seq (c_reg (s_k 2 rfl (s_val rfl rfl (r_le rfl rfl rfl) (s_nil (q_then ?_))))))))))))))))))))))))))))))))
 refine c_dec rfl (fun h1 => ?_) (fun h1 => ?_)
 ·exact c_seq (c_reg (s_1 rfl (s_nil (q_then (c_ret (q_thenR (q_ret1 rfl rfl (fin ⟨congrArg Value.string (if_pos h1).symm, rfl⟩ H))))))))
 exact c_skip (q_then (c_seq (c_reg (s_k 3 rfl (s_val rfl rfl (r_cutStr (r := s.extract (min (max f 0) ((s.size : Nat) : Int)).toNat (min (max t 0) ((s.size : Nat) : Int)).toNat) rfl un9 rfl rfl rfl (by omega) (by omega) (by omega) rfl) (s_1 rfl (s_nil (q_then (c_ret (q_ret1 rfl rfl (fin ⟨congrArg Value.string (if_neg h1).symm, rfl⟩ H)))))))))))
theorem rDoes_ok (m : Nat) (sv : Value) (g : Nat → Val) (key : ByteArray) (vv : Value) (k : Nat) (tv : Value) (told : List Pair) (full : List ByteArray) (va : Value) (v : List Val) (i : Ins) (n : Int) (hto : told.length ≤ 40) (hok : (∀ x ∈ v, OkV x) ∧ ∀ j, OkV (g j)) (hi : goodI i n) (hN : v.length = (kindsS i.op).size) (hk : k ≤ full.length) :
    Cn Tryz.prog 134 [.pointer (some ⟨m, 0, none⟩), .agg #[.int .i64 i.op, .int .i64 i.a, .string i.s], va] [blk m (machC sv g key vv ((k : Nat) : Int) tv) 154, osl kPair tv told] [rsl kVal va v, rsl kStr vv full] (fun r Bs => ∃ u tv2, r = .tuple #[u, .int .i64 (refM dg key g full k told i v).why] ∧ Bs = [blk m (machC sv (refM dg key g full k told i v).g key vv (((refM dg key g full k told i v).k : Nat) : Int) tv2) 154, osl kPair tv2 (refM dg key g full k told i v).told, osl kVal u (refM dg key g full k told i v).out]) := by
 intro w0 F0 H
 obtain ⟨A1, c2, rfl, hc3, hm4, hp5⟩ := H.fR 0 rfl
 obtain ⟨A6, c7, rfl, hc8, hm9, hp10⟩ := H.fR 1 rfl
 refine enter Tryz.func134 rfl rfl (Nat.le_of_ble_eq_true rfl) (c_seq (c_reg (s_box rfl rfl rfl rfl H (fun b11 w H => (s_k 2 rfl (s_nil (q_then ?_)))))))
 replace H : Hd _ _ _ [blk b11 [.int .i64 i.op, .int .i64 i.a, .string i.s] 29, blk m (machC sv g key (.slice A6 full.length c7) ((k : Nat) : Int) tv) 154, osl kPair tv told] [rsl kVal (.slice A1 v.length c2) v, rsl kStr (.slice A6 full.length c7) full] := H
 refine c_seq (c_seq (c_reg (s_val rfl rfl (r_fa rfl fo29_0 rfl) (s_val rfl rfl (r_ld rfl ty3 rfl (H.cellI 0 rfl rfl)) (s_nil (q_then (c_block (c_seq (c_reg (s_val rfl rfl (r_eq rfl rfl rfl) (s_1 rfl (s_nil (q_then ?_)))))))))))))
 refine c_dec rfl (fun h12 => ?_) (fun h12 => ?_)
 ·have hks : (kindsS i.op).size = 0 := by rw [h12]; rfl
  refine c_seq (c_reg (s_val rfl rfl (r_fa rfl fo29_1 rfl) (s_val rfl rfl (r_ld rfl ty3 rfl (H.cellI 0 rfl rfl)) (sc (rInt_ok i.a) H l0 rfl rfl (e_fn kn142 rfl rfl) ?_))))
  rintro _ _ w ⟨rfl, rfl⟩ H
  refine s_bsl (parts := [(0, .tmp 14)]) (vs := [.agg #[.bool false, .int .i64 i.a, .string ⟨#[]⟩]]) (cs := [.bool false, .int .i64 i.a, .string ⟨#[]⟩]) rfl rfl rfl sl102 zr104 rfl (by decide) (by decide) rfl rfl H (fun b13 w H => ?_)
  replace H := H.h1 (A := blk b13 [.bool false, .int .i64 i.a, .string ⟨#[]⟩] 104)
  refine s_k 2 rfl (s_nil (q_then (c_ret (q_blockR (q_thenR (q_ret2 rfl rfl rfl ?_))))))
  replace H : Hd w0 F0 w [osl kVal (.slice (some ⟨b13, 0, none⟩) 1 1) [(⟨false, i.a, ⟨#[]⟩⟩ : Val)], blk b11 [.int .i64 i.op, .int .i64 i.a, .string i.s] 29, blk m (machC sv g key (.slice A6 full.length c7) ((k : Nat) : Int) tv) 154, osl kPair tv told] [rsl kVal (.slice A1 v.length c2) v, rsl kStr (.slice A6 full.length c7) full] := H.turn (fun F h => blk_osl h rfl (by decide) rfl)
  replace H := H.p3.p3.k3
  have e : refM dg key g full k told i v = (⟨[(⟨false, i.a, ⟨#[]⟩⟩ : Val)], 0, g, k, told⟩ : Ref) := by
    rw [rf_1 h12] <;> rfl
  replace H : Hd _ _ _ [blk m (machC sv g key (.slice A6 full.length c7) ((k : Nat) : Int) tv) 154, osl kPair tv told, osl kVal (.slice (some ⟨b13, 0, none⟩) 1 1) [(⟨false, i.a, ⟨#[]⟩⟩ : Val)]] [rsl kVal (.slice A1 v.length c2) v, rsl kStr (.slice A6 full.length c7) full] := H
  exact fin ⟨_, _, by rw [e] <;> rfl, by rw [e] <;> rfl⟩ H
 refine c_seq (c_reg (s_val rfl rfl (r_eq rfl rfl rfl) (s_1 rfl (s_nil (q_then ?_)))))
 refine c_dec rfl (fun h14 => ?_) (fun h14 => ?_)
 ·have hks : (kindsS i.op).size = 0 := by rw [h14]; rfl
  refine c_seq (c_reg (s_val rfl rfl (r_fa rfl fo29_2 rfl) (s_val rfl rfl (r_ld rfl ty9 rfl (H.cellI 0 rfl rfl)) (sc (rBytes_ok i.s) H l0 rfl rfl (e_fn kn143 rfl rfl) ?_))))
  rintro _ _ w ⟨rfl, rfl⟩ H
  refine s_bsl (parts := [(0, .tmp 20)]) (vs := [.agg #[.bool true, .int .i64 0, .string i.s]]) (cs := [.bool true, .int .i64 0, .string i.s]) rfl rfl rfl sl102 zr104 rfl (by decide) (by decide) rfl rfl H (fun b15 w H => ?_)
  replace H := H.h1 (A := blk b15 [.bool true, .int .i64 0, .string i.s] 104)
  refine s_k 2 rfl (s_nil (q_then (c_ret (q_blockR (q_thenR (q_ret2 rfl rfl rfl ?_))))))
  replace H : Hd w0 F0 w [osl kVal (.slice (some ⟨b15, 0, none⟩) 1 1) [(⟨true, 0, i.s⟩ : Val)], blk b11 [.int .i64 i.op, .int .i64 i.a, .string i.s] 29, blk m (machC sv g key (.slice A6 full.length c7) ((k : Nat) : Int) tv) 154, osl kPair tv told] [rsl kVal (.slice A1 v.length c2) v, rsl kStr (.slice A6 full.length c7) full] := H.turn (fun F h => blk_osl h rfl (by decide) rfl)
  replace H := H.p3.p3.k3
  have e : refM dg key g full k told i v = (⟨[(⟨true, 0, i.s⟩ : Val)], 0, g, k, told⟩ : Ref) := by
    rw [rf_2 h14] <;> rfl
  replace H : Hd _ _ _ [blk m (machC sv g key (.slice A6 full.length c7) ((k : Nat) : Int) tv) 154, osl kPair tv told, osl kVal (.slice (some ⟨b15, 0, none⟩) 1 1) [(⟨true, 0, i.s⟩ : Val)]] [rsl kVal (.slice A1 v.length c2) v, rsl kStr (.slice A6 full.length c7) full] := H
  exact fin ⟨_, _, by rw [e] <;> rfl, by rw [e] <;> rfl⟩ H
 refine c_seq (c_reg (s_val rfl rfl (r_eq rfl rfl rfl) (s_1 rfl (s_nil (q_then ?_)))))
 refine c_dec rfl (fun h16 => ?_) (fun h16 => ?_)
 ·have hks : (kindsS i.op).size = 1 := by rw [h16]; rfl
  refine c_seq ?_
  obtain ⟨x17, hx18⟩ : ∃ z9, v[0]? = some z9 := ⟨_, List.getElem?_eq_getElem (show 0 < v.length by omega)⟩
  have okx17 := hok.1 _ (at_mem hx18)
  have szx17 := okx17.2
  have inx17 := okx17.1
  refine c_ord (.e 0 (.e 1 (.e 2 (.e 3 (.e 4 (.e 5 (.m 6 (.e 7 (.e 8 .z))))))))) (fun w => ∃ Ar, Hd w0 F0 w (blk b11 [.int .i64 i.op, .int .i64 i.a, .string i.s] 29 :: blk m (machC sv g key (.slice A6 full.length c7) ((k : Nat) : Int) tv) 154 :: osl kPair tv told :: Ar) [rsl kVal (.slice A1 v.length c2) v, rsl kStr (.slice A6 full.length c7) full]) mo (by kernel_rfl) (fun w H => ⟨_, H⟩) H (fun w H => (d_1 rfl ?_))
  have th19 := H.thR 0 rfl hx18
  refine d_val rfl rfl rfl (fun w ⟨Ar, H⟩ => r_iaE (p := oOf A1 + 0 * 3) rfl sl102 rfl rfl (by omega) (by omega) th19 (by omega)) (d_val rfl rfl rfl (fun w ⟨Ar, H⟩ => r_ldA (cs := [.bool x17.t, .int .i64 x17.n, .string x17.b]) rfl ty104 rfl rfl (H.elsR 0 rfl hx18 rfl)) (d_1 rfl ?_))
  have th20 := H.thR 0 rfl hx18
  refine d_val rfl rfl rfl (fun w ⟨Ar, H⟩ => r_iaE (p := oOf A1 + 0 * 3) rfl sl102 rfl rfl (by omega) (by omega) th20 (by omega)) (d_val rfl rfl rfl (fun w ⟨Ar, H⟩ => r_ldA (cs := [.bool x17.t, .int .i64 x17.n, .string x17.b]) rfl ty104 rfl rfl (H.elsR 0 rfl hx18 rfl)) (d_main rfl (s_bsl (parts := [(0, .tmp 26), (1, .tmp 29)]) (vs := [.agg #[.bool x17.t, .int .i64 x17.n, .string x17.b], .agg #[.bool x17.t, .int .i64 x17.n, .string x17.b]]) (cs := [.bool x17.t, .int .i64 x17.n, .string x17.b, .bool x17.t, .int .i64 x17.n, .string x17.b]) rfl rfl rfl sl102 zr104 rfl (by decide) (by decide) rfl rfl H (fun b21 w H => ?_))))
  replace H := H.h1 (A := blk b21 [.bool x17.t, .int .i64 x17.n, .string x17.b, .bool x17.t, .int .i64 x17.n, .string x17.b] 104) |>.p3 |>.p3 |>.p3
  refine d_back ⟨_, H⟩ (d_1 rfl (d_1 rfl (d_nil (q_then (c_ret (q_blockR (q_thenR (q_ret2 rfl rfl rfl ?_))))))))
  replace H := H.p3
  replace H : Hd w0 F0 w [osl kVal (.slice (some ⟨b21, 0, none⟩) 2 2) [x17, x17], blk b11 [.int .i64 i.op, .int .i64 i.a, .string i.s] 29, blk m (machC sv g key (.slice A6 full.length c7) ((k : Nat) : Int) tv) 154, osl kPair tv told] [rsl kVal (.slice A1 v.length c2) v, rsl kStr (.slice A6 full.length c7) full] := H.turn (fun F h => blk_osl h rfl (by decide) rfl)
  replace H := H.p3.p3.k3
  have e : refM dg key g full k told i v = (⟨[x17, x17], 0, g, k, told⟩ : Ref) := by
    rw [rf_3 h16, getD_at hx18] <;> rfl
  replace H : Hd _ _ _ [blk m (machC sv g key (.slice A6 full.length c7) ((k : Nat) : Int) tv) 154, osl kPair tv told, osl kVal (.slice (some ⟨b21, 0, none⟩) 2 2) [x17, x17]] [rsl kVal (.slice A1 v.length c2) v, rsl kStr (.slice A6 full.length c7) full] := H
  exact fin ⟨_, _, by rw [e] <;> rfl, by rw [e] <;> rfl⟩ H
 refine c_seq (c_reg (s_val rfl rfl (r_eq rfl rfl rfl) (s_1 rfl (s_nil (q_then ?_)))))
 refine c_dec rfl (fun h22 => ?_) (fun h22 => ?_)
 ·have hks : (kindsS i.op).size = 2 := by rw [h22]; rfl
  refine c_seq ?_
  obtain ⟨x23, hx24⟩ : ∃ z9, v[0]? = some z9 := ⟨_, List.getElem?_eq_getElem (show 0 < v.length by omega)⟩
  have okx23 := hok.1 _ (at_mem hx24)
  have szx23 := okx23.2
  have inx23 := okx23.1
  obtain ⟨x25, hx26⟩ : ∃ z9, v[1]? = some z9 := ⟨_, List.getElem?_eq_getElem (show 1 < v.length by omega)⟩
  have okx25 := hok.1 _ (at_mem hx26)
  have szx25 := okx25.2
  have inx25 := okx25.1
  refine c_ord (.e 0 (.e 1 (.e 2 (.e 3 (.e 4 (.e 5 (.m 6 (.e 7 (.e 8 .z))))))))) (fun w => ∃ Ar, Hd w0 F0 w (blk b11 [.int .i64 i.op, .int .i64 i.a, .string i.s] 29 :: blk m (machC sv g key (.slice A6 full.length c7) ((k : Nat) : Int) tv) 154 :: osl kPair tv told :: Ar) [rsl kVal (.slice A1 v.length c2) v, rsl kStr (.slice A6 full.length c7) full]) mo (by kernel_rfl) (fun w H => ⟨_, H⟩) H (fun w H => (d_1 rfl ?_))
  have th27 := H.thR 0 rfl hx26
  refine d_val rfl rfl rfl (fun w ⟨Ar, H⟩ => r_iaE (p := oOf A1 + 1 * 3) rfl sl102 rfl rfl (by omega) (by omega) th27 (by omega)) (d_val rfl rfl rfl (fun w ⟨Ar, H⟩ => r_ldA (cs := [.bool x25.t, .int .i64 x25.n, .string x25.b]) rfl ty104 rfl rfl (H.elsR 0 rfl hx26 rfl)) (d_1 rfl ?_))
  have th28 := H.thR 0 rfl hx24
  refine d_val rfl rfl rfl (fun w ⟨Ar, H⟩ => r_iaE (p := oOf A1 + 0 * 3) rfl sl102 rfl rfl (by omega) (by omega) th28 (by omega)) (d_val rfl rfl rfl (fun w ⟨Ar, H⟩ => r_ldA (cs := [.bool x23.t, .int .i64 x23.n, .string x23.b]) rfl ty104 rfl rfl (H.elsR 0 rfl hx24 rfl)) (d_main rfl (s_bsl (parts := [(0, .tmp 35), (1, .tmp 38)]) (vs := [.agg #[.bool x25.t, .int .i64 x25.n, .string x25.b], .agg #[.bool x23.t, .int .i64 x23.n, .string x23.b]]) (cs := [.bool x25.t, .int .i64 x25.n, .string x25.b, .bool x23.t, .int .i64 x23.n, .string x23.b]) rfl rfl rfl sl102 zr104 rfl (by decide) (by decide) rfl rfl H (fun b29 w H => ?_))))
  replace H := H.h1 (A := blk b29 [.bool x25.t, .int .i64 x25.n, .string x25.b, .bool x23.t, .int .i64 x23.n, .string x23.b] 104) |>.p3 |>.p3 |>.p3
  refine d_back ⟨_, H⟩ (d_1 rfl (d_1 rfl (d_nil (q_then (c_ret (q_blockR (q_thenR (q_ret2 rfl rfl rfl ?_))))))))
  replace H := H.p3
  replace H : Hd w0 F0 w [osl kVal (.slice (some ⟨b29, 0, none⟩) 2 2) [x25, x23], blk b11 [.int .i64 i.op, .int .i64 i.a, .string i.s] 29, blk m (machC sv g key (.slice A6 full.length c7) ((k : Nat) : Int) tv) 154, osl kPair tv told] [rsl kVal (.slice A1 v.length c2) v, rsl kStr (.slice A6 full.length c7) full] := H.turn (fun F h => blk_osl h rfl (by decide) rfl)
  replace H := H.p3.p3.k3
  have e : refM dg key g full k told i v = (⟨[x25, x23], 0, g, k, told⟩ : Ref) := by
    rw [rf_5 h22, getD_at hx24, getD_at hx26] <;> rfl
  replace H : Hd _ _ _ [blk m (machC sv g key (.slice A6 full.length c7) ((k : Nat) : Int) tv) 154, osl kPair tv told, osl kVal (.slice (some ⟨b29, 0, none⟩) 2 2) [x25, x23]] [rsl kVal (.slice A1 v.length c2) v, rsl kStr (.slice A6 full.length c7) full] := H
  exact fin ⟨_, _, by rw [e] <;> rfl, by rw [e] <;> rfl⟩ H
 refine c_seq (c_reg (s_val rfl rfl (r_eq rfl rfl rfl) (s_1 rfl (s_nil (q_then ?_)))))
 refine c_dec rfl (fun h30 => ?_) (fun h30 => ?_)
 ·have hks : (kindsS i.op).size = 0 := by rw [h30]; rfl
  refine c_seq (c_reg (s_1 rfl (s_val rfl rfl (r_nilP rfl rfl) (s_val rfl rfl (r_fa rfl fo154_2 rfl) (s_val rfl rfl (r_ld rfl ty9 rfl (H.cellI 1 rfl rfl)) (sc (rBytes_ok key) H l0 rfl rfl (e_fn kn143 rfl rfl) ?_))))))
  rintro _ _ w ⟨rfl, rfl⟩ H
  refine s_bsl (parts := [(0, .tmp 46)]) (vs := [.agg #[.bool true, .int .i64 0, .string key]]) (cs := [.bool true, .int .i64 0, .string key]) rfl rfl rfl sl102 zr104 rfl (by decide) (by decide) rfl rfl H (fun b31 w H => ?_)
  replace H := H.h1 (A := blk b31 [.bool true, .int .i64 0, .string key] 104)
  refine s_k 2 rfl (s_nil (q_then (c_ret (q_blockR (q_thenR (q_ret2 rfl rfl rfl ?_))))))
  replace H : Hd w0 F0 w [osl kVal (.slice (some ⟨b31, 0, none⟩) 1 1) [(⟨true, 0, key⟩ : Val)], blk b11 [.int .i64 i.op, .int .i64 i.a, .string i.s] 29, blk m (machC sv g key (.slice A6 full.length c7) ((k : Nat) : Int) tv) 154, osl kPair tv told] [rsl kVal (.slice A1 v.length c2) v, rsl kStr (.slice A6 full.length c7) full] := H.turn (fun F h => blk_osl h rfl (by decide) rfl)
  replace H := H.p3.p3.k3
  have e : refM dg key g full k told i v = (⟨[(⟨true, 0, key⟩ : Val)], 0, g, k, told⟩ : Ref) := by
    rw [rf_6 h30] <;> rfl
  replace H : Hd _ _ _ [blk m (machC sv g key (.slice A6 full.length c7) ((k : Nat) : Int) tv) 154, osl kPair tv told, osl kVal (.slice (some ⟨b31, 0, none⟩) 1 1) [(⟨true, 0, key⟩ : Val)]] [rsl kVal (.slice A1 v.length c2) v, rsl kStr (.slice A6 full.length c7) full] := H
  exact fin ⟨_, _, by rw [e] <;> rfl, by rw [e] <;> rfl⟩ H
 refine c_seq (c_reg (s_val rfl rfl (r_eq rfl rfl rfl) (s_1 rfl (s_nil (q_then ?_)))))
 refine c_dec rfl (fun h32 => ?_) (fun h32 => ?_)
 ·have hks : (kindsS i.op).size = 0 := by rw [h32]; rfl
  refine c_seq (c_seq (c_draw mo (by kernel_rfl) H (u_1 rfl (u_val rfl rfl (fun w H => r_nilP rfl rfl) (u_val rfl rfl (fun w H => r_fa rfl fo154_4 rfl) (u_val rfl rfl (fun w H => r_ld rfl ty3 rfl (H.cellI 1 rfl rfl)) (u_1 rfl (u_val rfl rfl (fun w H => r_nilP rfl rfl) (u_val rfl rfl (fun w H => r_fa rfl fo154_3 rfl) (u_val rfl rfl (fun w H => r_ld rfl ty75 rfl (H.cellI 1 rfl rfl)) (u_val rfl rfl (fun w H => r_lenL rfl un75 rfl) (u_val rfl rfl (fun w H => r_ge rfl rfl rfl) (u_end (fun w H => (q_then ?_)))))))))))))))
  refine c_dec rfl (fun h33 => ?_) (fun h33 => ?_)
  ·refine c_seq (c_reg (sc (rInt_ok 0) H l0 rfl rfl (e_fn kn142 rfl rfl) ?_))
   rintro _ _ w ⟨rfl, rfl⟩ H
   refine s_bsl (parts := [(0, .tmp 60)]) (vs := [.agg #[.bool false, .int .i64 0, .string ⟨#[]⟩]]) (cs := [.bool false, .int .i64 0, .string ⟨#[]⟩]) rfl rfl rfl sl102 zr104 rfl (by decide) (by decide) rfl rfl H (fun b34 w H => (s_k 2 rfl (s_nil (q_then ?_))))
   replace H : Hd _ _ _ [blk b34 [.bool false, .int .i64 0, .string ⟨#[]⟩] 104, blk b11 [.int .i64 i.op, .int .i64 i.a, .string i.s] 29, blk m (machC sv g key (.slice A6 full.length c7) ((k : Nat) : Int) tv) 154, osl kPair tv told] [rsl kVal (.slice A1 v.length c2) v, rsl kStr (.slice A6 full.length c7) full] := H
   refine c_ret (q_thenR (q_blockR (q_thenR (q_ret2 rfl rfl rfl ?_))))
   replace H : Hd w0 F0 w [osl kVal (.slice (some ⟨b34, 0, none⟩) 1 1) [(⟨false, 0, ⟨#[]⟩⟩ : Val)], blk b11 [.int .i64 i.op, .int .i64 i.a, .string i.s] 29, blk m (machC sv g key (.slice A6 full.length c7) ((k : Nat) : Int) tv) 154, osl kPair tv told] [rsl kVal (.slice A1 v.length c2) v, rsl kStr (.slice A6 full.length c7) full] := H.turn (fun F h => blk_osl h rfl (by decide) rfl)
   replace H := H.p3.p3.k3
   have e : refM dg key g full k told i v = (⟨[(⟨false, 0, ⟨#[]⟩⟩ : Val)], 0, g, k, told⟩ : Ref) := by
     exact rf_7n h32 (by omega)
   replace H : Hd _ _ _ [blk m (machC sv g key (.slice A6 full.length c7) ((k : Nat) : Int) tv) 154, osl kPair tv told, osl kVal (.slice (some ⟨b34, 0, none⟩) 1 1) [(⟨false, 0, ⟨#[]⟩⟩ : Val)]] [rsl kVal (.slice A1 v.length c2) v, rsl kStr (.slice A6 full.length c7) full] := H
   exact fin ⟨_, _, by rw [e] <;> rfl, by rw [e] <;> rfl⟩ H
  refine c_skip (q_then (c_seq (c_reg (s_1 rfl (s_val rfl rfl (r_nilP rfl rfl) (s_val rfl rfl (r_fa rfl fo154_4 rfl) (s_val rfl rfl (r_ld rfl ty3 rfl (H.cellI 1 rfl rfl)) (s_val rfl rfl (r_add (z := ((k + 1 : Nat) : Int)) rfl rfl rfl (by rw [w64 (by omega) (by omega)]; omega)) (s_val rfl rfl (r_nilP rfl rfl) (s_val rfl rfl (r_fa rfl fo154_4 rfl) ?_))))))))))
  replace H := H.p1
  refine s_st rfl rfl rfl ty3 rfl rfl H rfl (Nat.le_of_ble_eq_true rfl) (fun u hu => by simp [Value.cells] at hu; subst hu; rfl) (fun w H => ?_)
  replace H : Hd _ _ _ [blk m (machC sv g key (.slice A6 full.length c7) ((k + 1 : Nat) : Int) tv) 154, blk b11 [.int .i64 i.op, .int .i64 i.a, .string i.s] 29, osl kPair tv told] [rsl kVal (.slice A1 v.length c2) v, rsl kStr (.slice A6 full.length c7) full] := H
  refine s_nil (q_then (c_seq (c_ord (.e 0 (.e 1 (.e 2 (.e 3 (.e 4 (.e 5 (.e 6 (.e 7 (.e 8 (.e 9 (.e 10 (.m 11 (.m 12 (.m 13 (.e 14 (.e 15 .z)))))))))))))))) (fun w => ∃ Ar, Hd w0 F0 w (blk m (machC sv g key (.slice A6 full.length c7) ((k + 1 : Nat) : Int) tv) 154 :: blk b11 [.int .i64 i.op, .int .i64 i.a, .string i.s] 29 :: osl kPair tv told :: Ar) [rsl kVal (.slice A1 v.length c2) v, rsl kStr (.slice A6 full.length c7) full]) mo (by kernel_rfl) (fun w H => ⟨_, H⟩) H (fun w H => (d_1 rfl (d_val rfl rfl rfl (fun w ⟨Ar, H⟩ => r_nilP rfl rfl) (d_val rfl rfl rfl (fun w ⟨Ar, H⟩ => r_fa rfl fo154_3 rfl) (d_val rfl rfl rfl (fun w ⟨Ar, H⟩ => r_ld rfl ty75 rfl (H.cellI 0 rfl rfl)) (d_1 rfl (d_val rfl rfl rfl (fun w ⟨Ar, H⟩ => r_nilP rfl rfl) (d_val rfl rfl rfl (fun w ⟨Ar, H⟩ => r_fa rfl fo154_4 rfl) (d_val rfl rfl rfl (fun w ⟨Ar, H⟩ => r_ld rfl ty3 rfl (H.cellI 0 rfl rfl)) (d_val rfl rfl rfl (fun w ⟨Ar, H⟩ => r_sub (z := ((k : Nat) : Int)) rfl rfl rfl (by rw [w64 (by omega) (by omega)]; omega)) ?_)))))))))))))
  obtain ⟨x35, hx36⟩ : ∃ z9, full[k]? = some z9 := ⟨_, List.getElem?_eq_getElem (show k < full.length by omega)⟩
  have th37 := H.thR 1 rfl hx36
  refine d_val rfl rfl rfl (fun w ⟨Ar, H⟩ => r_iaE (p := oOf A6 + k * 1) rfl sl75 rfl rfl (by omega) (by omega) th37 rfl) (d_val rfl rfl rfl (fun w ⟨Ar, H⟩ => r_ld rfl ty9 rfl (H.elR 1 rfl hx36 (q := 0) rfl rfl)) (d_main rfl (sc (rBytes_ok x35) H l0 rfl rfl (e_fn kn143 rfl rfl) ?_)))
  rintro _ _ w ⟨rfl, rfl⟩ H
  refine d_back ⟨_, H⟩ (d_main rfl (sc (rInt_ok 1) H l0 rfl rfl (e_fn kn142 rfl rfl) ?_))
  rintro _ _ w ⟨rfl, rfl⟩ H
  refine d_back ⟨_, H⟩ (d_main rfl (s_bsl (parts := [(0, .tmp 80), (1, .tmp 81)]) (vs := [.agg #[.bool true, .int .i64 0, .string x35], .agg #[.bool false, .int .i64 1, .string ⟨#[]⟩]]) (cs := [.bool true, .int .i64 0, .string x35, .bool false, .int .i64 1, .string ⟨#[]⟩]) rfl rfl rfl sl102 zr104 rfl (by decide) (by decide) rfl rfl H (fun b38 w H => ?_)))
  replace H := H.h1 (A := blk b38 [.bool true, .int .i64 0, .string x35, .bool false, .int .i64 1, .string ⟨#[]⟩] 104) |>.p3 |>.p3 |>.p3
  refine d_back ⟨_, H⟩ (d_1 rfl (d_1 rfl (d_nil (q_then (c_ret (q_blockR (q_thenR (q_ret2 rfl rfl rfl ?_))))))))
  replace H := H.p3
  replace H : Hd w0 F0 w [osl kVal (.slice (some ⟨b38, 0, none⟩) 2 2) [(⟨true, 0, x35⟩ : Val), (⟨false, 1, ⟨#[]⟩⟩ : Val)], blk m (machC sv g key (.slice A6 full.length c7) ((k + 1 : Nat) : Int) tv) 154, blk b11 [.int .i64 i.op, .int .i64 i.a, .string i.s] 29, osl kPair tv told] [rsl kVal (.slice A1 v.length c2) v, rsl kStr (.slice A6 full.length c7) full] := H.turn (fun F h => blk_osl h rfl (by decide) rfl)
  replace H := H.p3.p2.k3
  have e : refM dg key g full k told i v = (⟨[(⟨true, 0, x35⟩ : Val), (⟨false, 1, ⟨#[]⟩⟩ : Val)], 0, g, k + 1, told⟩ : Ref) := by
    exact rf_7s h32 hx36
  replace H : Hd _ _ _ [blk m (machC sv g key (.slice A6 full.length c7) ((k + 1 : Nat) : Int) tv) 154, osl kPair tv told, osl kVal (.slice (some ⟨b38, 0, none⟩) 2 2) [(⟨true, 0, x35⟩ : Val), (⟨false, 1, ⟨#[]⟩⟩ : Val)]] [rsl kVal (.slice A1 v.length c2) v, rsl kStr (.slice A6 full.length c7) full] := H
  exact fin ⟨_, _, by rw [e] <;> rfl, by rw [e] <;> rfl⟩ H
 refine c_seq (c_reg (s_val rfl rfl (r_eq rfl rfl rfl) (s_1 rfl (s_nil (q_then ?_)))))
 refine c_dec rfl (fun h39 => ?_) (fun h39 => ?_)
 ·have hks : (kindsS i.op).size = 2 := by rw [h39]; rfl
  refine c_seq ?_
  obtain ⟨x40, hx41⟩ : ∃ z9, v[0]? = some z9 := ⟨_, List.getElem?_eq_getElem (show 0 < v.length by omega)⟩
  have okx40 := hok.1 _ (at_mem hx41)
  have szx40 := okx40.2
  have inx40 := okx40.1
  obtain ⟨x42, hx43⟩ : ∃ z9, v[1]? = some z9 := ⟨_, List.getElem?_eq_getElem (show 1 < v.length by omega)⟩
  have okx42 := hok.1 _ (at_mem hx43)
  have szx42 := okx42.2
  have inx42 := okx42.1
  refine c_ord (.e 0 (.e 1 (.e 2 (.e 3 (.e 4 (.e 5 (.e 6 (.e 7 (.e 8 (.m 9 (.m 10 (.e 11 (.e 12 .z))))))))))))) (fun w => ∃ Ar, Hd w0 F0 w (blk b11 [.int .i64 i.op, .int .i64 i.a, .string i.s] 29 :: blk m (machC sv g key (.slice A6 full.length c7) ((k : Nat) : Int) tv) 154 :: osl kPair tv told :: Ar) [rsl kVal (.slice A1 v.length c2) v, rsl kStr (.slice A6 full.length c7) full]) mo (by kernel_rfl) (fun w H => ⟨_, H⟩) H (fun w H => (d_1 rfl ?_))
  have th44 := H.thR 0 rfl hx41
  refine d_val rfl rfl rfl (fun w ⟨Ar, H⟩ => r_iaE (p := oOf A1 + 0 * 3) rfl sl102 rfl rfl (by omega) (by omega) th44 (by omega)) (d_val rfl rfl rfl (fun w ⟨Ar, H⟩ => r_fa rfl fo104_1 rfl) (d_val rfl rfl rfl (fun w ⟨Ar, H⟩ => r_ld rfl ty2 rfl (H.elR 0 rfl hx41 (q := 1) rfl rfl)) (d_1 rfl ?_)))
  have th45 := H.thR 0 rfl hx43
  refine d_val rfl rfl rfl (fun w ⟨Ar, H⟩ => r_iaE (p := oOf A1 + 1 * 3) rfl sl102 rfl rfl (by omega) (by omega) th45 (by omega)) (d_val rfl rfl rfl (fun w ⟨Ar, H⟩ => r_fa rfl fo104_1 rfl) (d_val rfl rfl rfl (fun w ⟨Ar, H⟩ => r_ld rfl ty2 rfl (H.elR 0 rfl hx43 (q := 1) rfl rfl)) (d_val rfl rfl rfl (fun w ⟨Ar, H⟩ => r_add (z := IntKind.i64.wrap (x40.n + x42.n)) rfl rfl rfl rfl) (d_main rfl (sc (rInt_ok (IntKind.i64.wrap (x40.n + x42.n))) H l0 rfl rfl (e_fn kn142 rfl rfl) ?_)))))
  rintro _ _ w ⟨rfl, rfl⟩ H
  refine d_back ⟨_, H⟩ (d_main rfl (s_bsl (parts := [(0, .tmp 94)]) (vs := [.agg #[.bool false, .int .i64 (IntKind.i64.wrap (x40.n + x42.n)), .string ⟨#[]⟩]]) (cs := [.bool false, .int .i64 (IntKind.i64.wrap (x40.n + x42.n)), .string ⟨#[]⟩]) rfl rfl rfl sl102 zr104 rfl (by decide) (by decide) rfl rfl H (fun b46 w H => ?_)))
  replace H := H.h1 (A := blk b46 [.bool false, .int .i64 (IntKind.i64.wrap (x40.n + x42.n)), .string ⟨#[]⟩] 104) |>.p3 |>.p3 |>.p3
  refine d_back ⟨_, H⟩ (d_1 rfl (d_1 rfl (d_nil (q_then (c_ret (q_blockR (q_thenR (q_ret2 rfl rfl rfl ?_))))))))
  replace H := H.p3
  replace H : Hd w0 F0 w [osl kVal (.slice (some ⟨b46, 0, none⟩) 1 1) [(⟨false, IntKind.i64.wrap (x40.n + x42.n), ⟨#[]⟩⟩ : Val)], blk b11 [.int .i64 i.op, .int .i64 i.a, .string i.s] 29, blk m (machC sv g key (.slice A6 full.length c7) ((k : Nat) : Int) tv) 154, osl kPair tv told] [rsl kVal (.slice A1 v.length c2) v, rsl kStr (.slice A6 full.length c7) full] := H.turn (fun F h => blk_osl h rfl (by decide) rfl)
  replace H := H.p3.p3.k3
  have e : refM dg key g full k told i v = (⟨[(⟨false, IntKind.i64.wrap (x40.n + x42.n), ⟨#[]⟩⟩ : Val)], 0, g, k, told⟩ : Ref) := by
    rw [rf_8 (by omega), h39, getD_at hx41, getD_at hx43] <;> rfl
  replace H : Hd _ _ _ [blk m (machC sv g key (.slice A6 full.length c7) ((k : Nat) : Int) tv) 154, osl kPair tv told, osl kVal (.slice (some ⟨b46, 0, none⟩) 1 1) [(⟨false, IntKind.i64.wrap (x40.n + x42.n), ⟨#[]⟩⟩ : Val)]] [rsl kVal (.slice A1 v.length c2) v, rsl kStr (.slice A6 full.length c7) full] := H
  exact fin ⟨_, _, by rw [e] <;> rfl, by rw [e] <;> rfl⟩ H
 refine c_seq (c_reg (s_val rfl rfl (r_eq rfl rfl rfl) (s_1 rfl (s_nil (q_then ?_)))))
 refine c_dec rfl (fun h47 => ?_) (fun h47 => ?_)
 ·have hks : (kindsS i.op).size = 2 := by rw [h47]; rfl
  refine c_seq ?_
  obtain ⟨x48, hx49⟩ : ∃ z9, v[0]? = some z9 := ⟨_, List.getElem?_eq_getElem (show 0 < v.length by omega)⟩
  have okx48 := hok.1 _ (at_mem hx49)
  have szx48 := okx48.2
  have inx48 := okx48.1
  obtain ⟨x50, hx51⟩ : ∃ z9, v[1]? = some z9 := ⟨_, List.getElem?_eq_getElem (show 1 < v.length by omega)⟩
  have okx50 := hok.1 _ (at_mem hx51)
  have szx50 := okx50.2
  have inx50 := okx50.1
  refine c_ord (.e 0 (.e 1 (.e 2 (.e 3 (.e 4 (.e 5 (.e 6 (.e 7 (.e 8 (.m 9 (.m 10 (.e 11 (.e 12 .z))))))))))))) (fun w => ∃ Ar, Hd w0 F0 w (blk b11 [.int .i64 i.op, .int .i64 i.a, .string i.s] 29 :: blk m (machC sv g key (.slice A6 full.length c7) ((k : Nat) : Int) tv) 154 :: osl kPair tv told :: Ar) [rsl kVal (.slice A1 v.length c2) v, rsl kStr (.slice A6 full.length c7) full]) mo (by kernel_rfl) (fun w H => ⟨_, H⟩) H (fun w H => (d_1 rfl ?_))
  have th52 := H.thR 0 rfl hx49
  refine d_val rfl rfl rfl (fun w ⟨Ar, H⟩ => r_iaE (p := oOf A1 + 0 * 3) rfl sl102 rfl rfl (by omega) (by omega) th52 (by omega)) (d_val rfl rfl rfl (fun w ⟨Ar, H⟩ => r_fa rfl fo104_1 rfl) (d_val rfl rfl rfl (fun w ⟨Ar, H⟩ => r_ld rfl ty2 rfl (H.elR 0 rfl hx49 (q := 1) rfl rfl)) (d_1 rfl ?_)))
  have th53 := H.thR 0 rfl hx51
  refine d_val rfl rfl rfl (fun w ⟨Ar, H⟩ => r_iaE (p := oOf A1 + 1 * 3) rfl sl102 rfl rfl (by omega) (by omega) th53 (by omega)) (d_val rfl rfl rfl (fun w ⟨Ar, H⟩ => r_fa rfl fo104_1 rfl) (d_val rfl rfl rfl (fun w ⟨Ar, H⟩ => r_ld rfl ty2 rfl (H.elR 0 rfl hx51 (q := 1) rfl rfl)) (d_val rfl rfl rfl (fun w ⟨Ar, H⟩ => r_sub (z := IntKind.i64.wrap (x48.n - x50.n)) rfl rfl rfl rfl) (d_main rfl (sc (rInt_ok (IntKind.i64.wrap (x48.n - x50.n))) H l0 rfl rfl (e_fn kn142 rfl rfl) ?_)))))
  rintro _ _ w ⟨rfl, rfl⟩ H
  refine d_back ⟨_, H⟩ (d_main rfl (s_bsl (parts := [(0, .tmp 107)]) (vs := [.agg #[.bool false, .int .i64 (IntKind.i64.wrap (x48.n - x50.n)), .string ⟨#[]⟩]]) (cs := [.bool false, .int .i64 (IntKind.i64.wrap (x48.n - x50.n)), .string ⟨#[]⟩]) rfl rfl rfl sl102 zr104 rfl (by decide) (by decide) rfl rfl H (fun b54 w H => ?_)))
  replace H := H.h1 (A := blk b54 [.bool false, .int .i64 (IntKind.i64.wrap (x48.n - x50.n)), .string ⟨#[]⟩] 104) |>.p3 |>.p3 |>.p3
  refine d_back ⟨_, H⟩ (d_1 rfl (d_1 rfl (d_nil (q_then (c_ret (q_blockR (q_thenR (q_ret2 rfl rfl rfl ?_))))))))
  replace H := H.p3
  replace H : Hd w0 F0 w [osl kVal (.slice (some ⟨b54, 0, none⟩) 1 1) [(⟨false, IntKind.i64.wrap (x48.n - x50.n), ⟨#[]⟩⟩ : Val)], blk b11 [.int .i64 i.op, .int .i64 i.a, .string i.s] 29, blk m (machC sv g key (.slice A6 full.length c7) ((k : Nat) : Int) tv) 154, osl kPair tv told] [rsl kVal (.slice A1 v.length c2) v, rsl kStr (.slice A6 full.length c7) full] := H.turn (fun F h => blk_osl h rfl (by decide) rfl)
  replace H := H.p3.p3.k3
  have e : refM dg key g full k told i v = (⟨[(⟨false, IntKind.i64.wrap (x48.n - x50.n), ⟨#[]⟩⟩ : Val)], 0, g, k, told⟩ : Ref) := by
    rw [rf_8 (by omega), h47, getD_at hx49, getD_at hx51] <;> rfl
  replace H : Hd _ _ _ [blk m (machC sv g key (.slice A6 full.length c7) ((k : Nat) : Int) tv) 154, osl kPair tv told, osl kVal (.slice (some ⟨b54, 0, none⟩) 1 1) [(⟨false, IntKind.i64.wrap (x48.n - x50.n), ⟨#[]⟩⟩ : Val)]] [rsl kVal (.slice A1 v.length c2) v, rsl kStr (.slice A6 full.length c7) full] := H
  exact fin ⟨_, _, by rw [e] <;> rfl, by rw [e] <;> rfl⟩ H
 refine c_seq (c_reg (s_val rfl rfl (r_eq rfl rfl rfl) (s_1 rfl (s_nil (q_then ?_)))))
 refine c_dec rfl (fun h55 => ?_) (fun h55 => ?_)
 ·have hks : (kindsS i.op).size = 2 := by rw [h55]; rfl
  refine c_seq ?_
  obtain ⟨x56, hx57⟩ : ∃ z9, v[0]? = some z9 := ⟨_, List.getElem?_eq_getElem (show 0 < v.length by omega)⟩
  have okx56 := hok.1 _ (at_mem hx57)
  have szx56 := okx56.2
  have inx56 := okx56.1
  obtain ⟨x58, hx59⟩ : ∃ z9, v[1]? = some z9 := ⟨_, List.getElem?_eq_getElem (show 1 < v.length by omega)⟩
  have okx58 := hok.1 _ (at_mem hx59)
  have szx58 := okx58.2
  have inx58 := okx58.1
  refine c_ord (.e 0 (.e 1 (.e 2 (.e 3 (.e 4 (.e 5 (.e 6 (.e 7 (.e 8 (.m 9 (.m 10 (.e 11 (.e 12 .z))))))))))))) (fun w => ∃ Ar, Hd w0 F0 w (blk b11 [.int .i64 i.op, .int .i64 i.a, .string i.s] 29 :: blk m (machC sv g key (.slice A6 full.length c7) ((k : Nat) : Int) tv) 154 :: osl kPair tv told :: Ar) [rsl kVal (.slice A1 v.length c2) v, rsl kStr (.slice A6 full.length c7) full]) mo (by kernel_rfl) (fun w H => ⟨_, H⟩) H (fun w H => (d_1 rfl ?_))
  have th60 := H.thR 0 rfl hx57
  refine d_val rfl rfl rfl (fun w ⟨Ar, H⟩ => r_iaE (p := oOf A1 + 0 * 3) rfl sl102 rfl rfl (by omega) (by omega) th60 (by omega)) (d_val rfl rfl rfl (fun w ⟨Ar, H⟩ => r_fa rfl fo104_1 rfl) (d_val rfl rfl rfl (fun w ⟨Ar, H⟩ => r_ld rfl ty2 rfl (H.elR 0 rfl hx57 (q := 1) rfl rfl)) (d_1 rfl ?_)))
  have th61 := H.thR 0 rfl hx59
  refine d_val rfl rfl rfl (fun w ⟨Ar, H⟩ => r_iaE (p := oOf A1 + 1 * 3) rfl sl102 rfl rfl (by omega) (by omega) th61 (by omega)) (d_val rfl rfl rfl (fun w ⟨Ar, H⟩ => r_fa rfl fo104_1 rfl) (d_val rfl rfl rfl (fun w ⟨Ar, H⟩ => r_ld rfl ty2 rfl (H.elR 0 rfl hx59 (q := 1) rfl rfl)) (d_val rfl rfl rfl (fun w ⟨Ar, H⟩ => r_mul (z := IntKind.i64.wrap (x56.n * x58.n)) rfl rfl rfl rfl) (d_main rfl (sc (rInt_ok (IntKind.i64.wrap (x56.n * x58.n))) H l0 rfl rfl (e_fn kn142 rfl rfl) ?_)))))
  rintro _ _ w ⟨rfl, rfl⟩ H
  refine d_back ⟨_, H⟩ (d_main rfl (s_bsl (parts := [(0, .tmp 120)]) (vs := [.agg #[.bool false, .int .i64 (IntKind.i64.wrap (x56.n * x58.n)), .string ⟨#[]⟩]]) (cs := [.bool false, .int .i64 (IntKind.i64.wrap (x56.n * x58.n)), .string ⟨#[]⟩]) rfl rfl rfl sl102 zr104 rfl (by decide) (by decide) rfl rfl H (fun b62 w H => ?_)))
  replace H := H.h1 (A := blk b62 [.bool false, .int .i64 (IntKind.i64.wrap (x56.n * x58.n)), .string ⟨#[]⟩] 104) |>.p3 |>.p3 |>.p3
  refine d_back ⟨_, H⟩ (d_1 rfl (d_1 rfl (d_nil (q_then (c_ret (q_blockR (q_thenR (q_ret2 rfl rfl rfl ?_))))))))
  replace H := H.p3
  replace H : Hd w0 F0 w [osl kVal (.slice (some ⟨b62, 0, none⟩) 1 1) [(⟨false, IntKind.i64.wrap (x56.n * x58.n), ⟨#[]⟩⟩ : Val)], blk b11 [.int .i64 i.op, .int .i64 i.a, .string i.s] 29, blk m (machC sv g key (.slice A6 full.length c7) ((k : Nat) : Int) tv) 154, osl kPair tv told] [rsl kVal (.slice A1 v.length c2) v, rsl kStr (.slice A6 full.length c7) full] := H.turn (fun F h => blk_osl h rfl (by decide) rfl)
  replace H := H.p3.p3.k3
  have e : refM dg key g full k told i v = (⟨[(⟨false, IntKind.i64.wrap (x56.n * x58.n), ⟨#[]⟩⟩ : Val)], 0, g, k, told⟩ : Ref) := by
    rw [rf_8 (by omega), h55, getD_at hx57, getD_at hx59] <;> rfl
  replace H : Hd _ _ _ [blk m (machC sv g key (.slice A6 full.length c7) ((k : Nat) : Int) tv) 154, osl kPair tv told, osl kVal (.slice (some ⟨b62, 0, none⟩) 1 1) [(⟨false, IntKind.i64.wrap (x56.n * x58.n), ⟨#[]⟩⟩ : Val)]] [rsl kVal (.slice A1 v.length c2) v, rsl kStr (.slice A6 full.length c7) full] := H
  exact fin ⟨_, _, by rw [e] <;> rfl, by rw [e] <;> rfl⟩ H
 refine c_seq (c_reg (s_val rfl rfl (r_eq rfl rfl rfl) (s_1 rfl (s_nil (q_then ?_)))))
 refine c_dec rfl (fun h63 => ?_) (fun h63 => ?_)
 ·have hks : (kindsS i.op).size = 2 := by rw [h63]; rfl
  refine c_seq ?_
  obtain ⟨x64, hx65⟩ : ∃ z9, v[0]? = some z9 := ⟨_, List.getElem?_eq_getElem (show 0 < v.length by omega)⟩
  have okx64 := hok.1 _ (at_mem hx65)
  have szx64 := okx64.2
  have inx64 := okx64.1
  obtain ⟨x66, hx67⟩ : ∃ z9, v[1]? = some z9 := ⟨_, List.getElem?_eq_getElem (show 1 < v.length by omega)⟩
  have okx66 := hok.1 _ (at_mem hx67)
  have szx66 := okx66.2
  have inx66 := okx66.1
  refine c_ord (.e 0 (.e 1 (.e 2 (.e 3 (.e 4 (.e 5 (.e 6 (.e 7 (.e 8 (.m 9 (.m 10 (.e 11 (.e 12 .z))))))))))))) (fun w => ∃ Ar, Hd w0 F0 w (blk b11 [.int .i64 i.op, .int .i64 i.a, .string i.s] 29 :: blk m (machC sv g key (.slice A6 full.length c7) ((k : Nat) : Int) tv) 154 :: osl kPair tv told :: Ar) [rsl kVal (.slice A1 v.length c2) v, rsl kStr (.slice A6 full.length c7) full]) mo (by kernel_rfl) (fun w H => ⟨_, H⟩) H (fun w H => (d_1 rfl ?_))
  have th68 := H.thR 0 rfl hx65
  refine d_val rfl rfl rfl (fun w ⟨Ar, H⟩ => r_iaE (p := oOf A1 + 0 * 3) rfl sl102 rfl rfl (by omega) (by omega) th68 (by omega)) (d_val rfl rfl rfl (fun w ⟨Ar, H⟩ => r_fa rfl fo104_1 rfl) (d_val rfl rfl rfl (fun w ⟨Ar, H⟩ => r_ld rfl ty2 rfl (H.elR 0 rfl hx65 (q := 1) rfl rfl)) (d_1 rfl ?_)))
  have th69 := H.thR 0 rfl hx67
  refine d_val rfl rfl rfl (fun w ⟨Ar, H⟩ => r_iaE (p := oOf A1 + 1 * 3) rfl sl102 rfl rfl (by omega) (by omega) th69 (by omega)) (d_val rfl rfl rfl (fun w ⟨Ar, H⟩ => r_fa rfl fo104_1 rfl) (d_val rfl rfl rfl (fun w ⟨Ar, H⟩ => r_ld rfl ty2 rfl (H.elR 0 rfl hx67 (q := 1) rfl rfl)) (d_val rfl rfl rfl (fun w ⟨Ar, H⟩ => r_lt rfl rfl rfl) (d_main rfl (sc (rFlag_ok (decide (x64.n < x66.n))) H l0 rfl rfl (e_fn kn144 rfl rfl) ?_)))))
  rintro _ _ w ⟨rfl, rfl⟩ H
  refine d_back ⟨_, H⟩ (d_main rfl (s_bsl (parts := [(0, .tmp 133)]) (vs := [.agg #[.bool false, .int .i64 (if (decide (x64.n < x66.n)) = true then 1 else 0), .string ⟨#[]⟩]]) (cs := [.bool false, .int .i64 (if (decide (x64.n < x66.n)) = true then 1 else 0), .string ⟨#[]⟩]) rfl rfl rfl sl102 zr104 rfl (by decide) (by decide) rfl rfl H (fun b70 w H => ?_)))
  replace H := H.h1 (A := blk b70 [.bool false, .int .i64 (if (decide (x64.n < x66.n)) = true then 1 else 0), .string ⟨#[]⟩] 104) |>.p3 |>.p3 |>.p3
  refine d_back ⟨_, H⟩ (d_1 rfl (d_1 rfl (d_nil (q_then (c_ret (q_blockR (q_thenR (q_ret2 rfl rfl rfl ?_))))))))
  replace H := H.p3
  replace H : Hd w0 F0 w [osl kVal (.slice (some ⟨b70, 0, none⟩) 1 1) [(⟨false, if (decide (x64.n < x66.n)) = true then 1 else 0, ⟨#[]⟩⟩ : Val)], blk b11 [.int .i64 i.op, .int .i64 i.a, .string i.s] 29, blk m (machC sv g key (.slice A6 full.length c7) ((k : Nat) : Int) tv) 154, osl kPair tv told] [rsl kVal (.slice A1 v.length c2) v, rsl kStr (.slice A6 full.length c7) full] := H.turn (fun F h => blk_osl h rfl (by decide) rfl)
  replace H := H.p3.p3.k3
  have e : refM dg key g full k told i v = (⟨[(⟨false, if (decide (x64.n < x66.n)) = true then 1 else 0, ⟨#[]⟩⟩ : Val)], 0, g, k, told⟩ : Ref) := by
    rw [rf_8 (by omega), h63, getD_at hx65, getD_at hx67]; simp [numM, vint]
  replace H : Hd _ _ _ [blk m (machC sv g key (.slice A6 full.length c7) ((k : Nat) : Int) tv) 154, osl kPair tv told, osl kVal (.slice (some ⟨b70, 0, none⟩) 1 1) [(⟨false, if (decide (x64.n < x66.n)) = true then 1 else 0, ⟨#[]⟩⟩ : Val)]] [rsl kVal (.slice A1 v.length c2) v, rsl kStr (.slice A6 full.length c7) full] := H
  exact fin ⟨_, _, by rw [e] <;> rfl, by rw [e] <;> rfl⟩ H
 refine c_seq (c_reg (s_val rfl rfl (r_eq rfl rfl rfl) (s_1 rfl (s_nil (q_then ?_)))))
 refine c_dec rfl (fun h71 => ?_) (fun h71 => ?_)
 ·have hks : (kindsS i.op).size = 2 := by rw [h71]; rfl
  refine c_seq ?_
  obtain ⟨x72, hx73⟩ : ∃ z9, v[0]? = some z9 := ⟨_, List.getElem?_eq_getElem (show 0 < v.length by omega)⟩
  have okx72 := hok.1 _ (at_mem hx73)
  have szx72 := okx72.2
  have inx72 := okx72.1
  obtain ⟨x74, hx75⟩ : ∃ z9, v[1]? = some z9 := ⟨_, List.getElem?_eq_getElem (show 1 < v.length by omega)⟩
  have okx74 := hok.1 _ (at_mem hx75)
  have szx74 := okx74.2
  have inx74 := okx74.1
  refine c_ord (.e 0 (.e 1 (.e 2 (.e 3 (.e 4 (.e 5 (.m 6 (.m 7 (.m 8 (.e 9 (.e 10 .z))))))))))) (fun w => ∃ Ar, Hd w0 F0 w (blk b11 [.int .i64 i.op, .int .i64 i.a, .string i.s] 29 :: blk m (machC sv g key (.slice A6 full.length c7) ((k : Nat) : Int) tv) 154 :: osl kPair tv told :: Ar) [rsl kVal (.slice A1 v.length c2) v, rsl kStr (.slice A6 full.length c7) full]) mo (by kernel_rfl) (fun w H => ⟨_, H⟩) H (fun w H => (d_1 rfl ?_))
  have th76 := H.thR 0 rfl hx73
  refine d_val rfl rfl rfl (fun w ⟨Ar, H⟩ => r_iaE (p := oOf A1 + 0 * 3) rfl sl102 rfl rfl (by omega) (by omega) th76 (by omega)) (d_val rfl rfl rfl (fun w ⟨Ar, H⟩ => r_ldA (cs := [.bool x72.t, .int .i64 x72.n, .string x72.b]) rfl ty104 rfl rfl (H.elsR 0 rfl hx73 rfl)) (d_1 rfl ?_))
  have th77 := H.thR 0 rfl hx75
  refine d_val rfl rfl rfl (fun w ⟨Ar, H⟩ => r_iaE (p := oOf A1 + 1 * 3) rfl sl102 rfl rfl (by omega) (by omega) th77 (by omega)) (d_val rfl rfl rfl (fun w ⟨Ar, H⟩ => r_ldA (cs := [.bool x74.t, .int .i64 x74.n, .string x74.b]) rfl ty104 rfl rfl (H.elsR 0 rfl hx75 rfl)) (d_main rfl (sc (rSameV_ok x72 x74) H l0 rfl rfl (e_fn kn145 rfl rfl) ?_)))
  rintro _ _ w ⟨rfl, rfl⟩ H
  refine d_back ⟨_, H⟩ (d_main rfl (sc (rFlag_ok (sameV x72 x74)) H l0 rfl rfl (e_fn kn144 rfl rfl) ?_))
  rintro _ _ w ⟨rfl, rfl⟩ H
  refine d_back ⟨_, H⟩ (d_main rfl (s_bsl (parts := [(0, .tmp 144)]) (vs := [.agg #[.bool false, .int .i64 (if (sameV x72 x74) = true then 1 else 0), .string ⟨#[]⟩]]) (cs := [.bool false, .int .i64 (if (sameV x72 x74) = true then 1 else 0), .string ⟨#[]⟩]) rfl rfl rfl sl102 zr104 rfl (by decide) (by decide) rfl rfl H (fun b78 w H => ?_)))
  replace H := H.h1 (A := blk b78 [.bool false, .int .i64 (if (sameV x72 x74) = true then 1 else 0), .string ⟨#[]⟩] 104) |>.p3 |>.p3 |>.p3
  refine d_back ⟨_, H⟩ (d_1 rfl (d_1 rfl (d_nil (q_then (c_ret (q_blockR (q_thenR (q_ret2 rfl rfl rfl ?_))))))))
  replace H := H.p3
  replace H : Hd w0 F0 w [osl kVal (.slice (some ⟨b78, 0, none⟩) 1 1) [(⟨false, if (sameV x72 x74) = true then 1 else 0, ⟨#[]⟩⟩ : Val)], blk b11 [.int .i64 i.op, .int .i64 i.a, .string i.s] 29, blk m (machC sv g key (.slice A6 full.length c7) ((k : Nat) : Int) tv) 154, osl kPair tv told] [rsl kVal (.slice A1 v.length c2) v, rsl kStr (.slice A6 full.length c7) full] := H.turn (fun F h => blk_osl h rfl (by decide) rfl)
  replace H := H.p3.p3.k3
  have e : refM dg key g full k told i v = (⟨[(⟨false, if (sameV x72 x74) = true then 1 else 0, ⟨#[]⟩⟩ : Val)], 0, g, k, told⟩ : Ref) := by
    rw [rf_12 h71, getD_at hx73, getD_at hx75] <;> rfl
  replace H : Hd _ _ _ [blk m (machC sv g key (.slice A6 full.length c7) ((k : Nat) : Int) tv) 154, osl kPair tv told, osl kVal (.slice (some ⟨b78, 0, none⟩) 1 1) [(⟨false, if (sameV x72 x74) = true then 1 else 0, ⟨#[]⟩⟩ : Val)]] [rsl kVal (.slice A1 v.length c2) v, rsl kStr (.slice A6 full.length c7) full] := H
  exact fin ⟨_, _, by rw [e] <;> rfl, by rw [e] <;> rfl⟩ H
 refine c_seq (c_reg (s_val rfl rfl (r_eq rfl rfl rfl) (s_1 rfl (s_nil (q_then ?_)))))
 refine c_dec rfl (fun h79 => ?_) (fun h79 => ?_)
 ·have hks : (kindsS i.op).size = 2 := by rw [h79]; rfl
  refine c_seq ?_
  obtain ⟨x80, hx81⟩ : ∃ z9, v[0]? = some z9 := ⟨_, List.getElem?_eq_getElem (show 0 < v.length by omega)⟩
  have okx80 := hok.1 _ (at_mem hx81)
  have szx80 := okx80.2
  have inx80 := okx80.1
  obtain ⟨x82, hx83⟩ : ∃ z9, v[1]? = some z9 := ⟨_, List.getElem?_eq_getElem (show 1 < v.length by omega)⟩
  have okx82 := hok.1 _ (at_mem hx83)
  have szx82 := okx82.2
  have inx82 := okx82.1
  refine c_ord (.e 0 (.e 1 (.e 2 (.e 3 (.e 4 (.e 5 (.e 6 (.e 7 (.e 8 (.m 9 (.m 10 (.e 11 (.e 12 .z))))))))))))) (fun w => ∃ Ar, Hd w0 F0 w (blk b11 [.int .i64 i.op, .int .i64 i.a, .string i.s] 29 :: blk m (machC sv g key (.slice A6 full.length c7) ((k : Nat) : Int) tv) 154 :: osl kPair tv told :: Ar) [rsl kVal (.slice A1 v.length c2) v, rsl kStr (.slice A6 full.length c7) full]) mo (by kernel_rfl) (fun w H => ⟨_, H⟩) H (fun w H => (d_1 rfl ?_))
  have th84 := H.thR 0 rfl hx81
  refine d_val rfl rfl rfl (fun w ⟨Ar, H⟩ => r_iaE (p := oOf A1 + 0 * 3) rfl sl102 rfl rfl (by omega) (by omega) th84 (by omega)) (d_val rfl rfl rfl (fun w ⟨Ar, H⟩ => r_fa rfl fo104_2 rfl) (d_val rfl rfl rfl (fun w ⟨Ar, H⟩ => r_ld rfl ty9 rfl (H.elR 0 rfl hx81 (q := 2) rfl rfl)) (d_1 rfl ?_)))
  have th85 := H.thR 0 rfl hx83
  refine d_val rfl rfl rfl (fun w ⟨Ar, H⟩ => r_iaE (p := oOf A1 + 1 * 3) rfl sl102 rfl rfl (by omega) (by omega) th85 (by omega)) (d_val rfl rfl rfl (fun w ⟨Ar, H⟩ => r_fa rfl fo104_2 rfl) (d_val rfl rfl rfl (fun w ⟨Ar, H⟩ => r_ld rfl ty9 rfl (H.elR 0 rfl hx83 (q := 2) rfl rfl)) (d_val rfl rfl rfl (fun w ⟨Ar, H⟩ => r_addS rfl rfl rfl (by omega)) (d_main rfl (sc (rBytes_ok (x80.b ++ x82.b)) H l0 rfl rfl (e_fn kn143 rfl rfl) ?_)))))
  rintro _ _ w ⟨rfl, rfl⟩ H
  refine d_back ⟨_, H⟩ (d_main rfl (s_bsl (parts := [(0, .tmp 157)]) (vs := [.agg #[.bool true, .int .i64 0, .string (x80.b ++ x82.b)]]) (cs := [.bool true, .int .i64 0, .string (x80.b ++ x82.b)]) rfl rfl rfl sl102 zr104 rfl (by decide) (by decide) rfl rfl H (fun b86 w H => ?_)))
  replace H := H.h1 (A := blk b86 [.bool true, .int .i64 0, .string (x80.b ++ x82.b)] 104) |>.p3 |>.p3 |>.p3
  refine d_back ⟨_, H⟩ (d_1 rfl (d_1 rfl (d_nil (q_then (c_ret (q_blockR (q_thenR (q_ret2 rfl rfl rfl ?_))))))))
  replace H := H.p3
  replace H : Hd w0 F0 w [osl kVal (.slice (some ⟨b86, 0, none⟩) 1 1) [(⟨true, 0, (x80.b ++ x82.b)⟩ : Val)], blk b11 [.int .i64 i.op, .int .i64 i.a, .string i.s] 29, blk m (machC sv g key (.slice A6 full.length c7) ((k : Nat) : Int) tv) 154, osl kPair tv told] [rsl kVal (.slice A1 v.length c2) v, rsl kStr (.slice A6 full.length c7) full] := H.turn (fun F h => blk_osl h rfl (by decide) rfl)
  replace H := H.p3.p3.k3
  have e : refM dg key g full k told i v = (⟨[(⟨true, 0, (x80.b ++ x82.b)⟩ : Val)], 0, g, k, told⟩ : Ref) := by
    rw [rf_13 h79, getD_at hx81, getD_at hx83] <;> rfl
  replace H : Hd _ _ _ [blk m (machC sv g key (.slice A6 full.length c7) ((k : Nat) : Int) tv) 154, osl kPair tv told, osl kVal (.slice (some ⟨b86, 0, none⟩) 1 1) [(⟨true, 0, (x80.b ++ x82.b)⟩ : Val)]] [rsl kVal (.slice A1 v.length c2) v, rsl kStr (.slice A6 full.length c7) full] := H
  exact fin ⟨_, _, by rw [e] <;> rfl, by rw [e] <;> rfl⟩ H
 refine c_seq (c_reg (s_val rfl rfl (r_eq rfl rfl rfl) (s_1 rfl (s_nil (q_then ?_)))))
 refine c_dec rfl (fun h87 => ?_) (fun h87 => ?_)
 ·have hks : (kindsS i.op).size = 1 := by rw [h87]; rfl
  refine c_seq ?_
  obtain ⟨x88, hx89⟩ : ∃ z9, v[0]? = some z9 := ⟨_, List.getElem?_eq_getElem (show 0 < v.length by omega)⟩
  have okx88 := hok.1 _ (at_mem hx89)
  have szx88 := okx88.2
  have inx88 := okx88.1
  refine c_reg (s_1 rfl ?_)
  have th90 := H.thR 0 rfl hx89
  refine s_val rfl rfl (r_iaE (p := oOf A1 + 0 * 3) rfl sl102 rfl rfl (by omega) (by omega) th90 (by omega)) (s_val rfl rfl (r_fa rfl fo104_2 rfl) (s_val rfl rfl (r_ld rfl ty9 rfl (H.elR 0 rfl hx89 (q := 2) rfl rfl)) (s_val rfl rfl (r_lenS rfl un9 rfl) (sc (rInt_ok ((x88.b.size : Nat) : Int)) H l0 rfl rfl (e_fn kn142 rfl rfl) ?_))))
  rintro _ _ w ⟨rfl, rfl⟩ H
  refine s_bsl (parts := [(0, .tmp 166)]) (vs := [.agg #[.bool false, .int .i64 ((x88.b.size : Nat) : Int), .string ⟨#[]⟩]]) (cs := [.bool false, .int .i64 ((x88.b.size : Nat) : Int), .string ⟨#[]⟩]) rfl rfl rfl sl102 zr104 rfl (by decide) (by decide) rfl rfl H (fun b91 w H => ?_)
  replace H := H.h1 (A := blk b91 [.bool false, .int .i64 ((x88.b.size : Nat) : Int), .string ⟨#[]⟩] 104)
  refine s_k 2 rfl (s_nil (q_then (c_ret (q_blockR (q_thenR (q_ret2 rfl rfl rfl ?_))))))
  replace H : Hd w0 F0 w [osl kVal (.slice (some ⟨b91, 0, none⟩) 1 1) [(⟨false, ((x88.b.size : Nat) : Int), ⟨#[]⟩⟩ : Val)], blk b11 [.int .i64 i.op, .int .i64 i.a, .string i.s] 29, blk m (machC sv g key (.slice A6 full.length c7) ((k : Nat) : Int) tv) 154, osl kPair tv told] [rsl kVal (.slice A1 v.length c2) v, rsl kStr (.slice A6 full.length c7) full] := H.turn (fun F h => blk_osl h rfl (by decide) rfl)
  replace H := H.p3.p3.k3
  have e : refM dg key g full k told i v = (⟨[(⟨false, ((x88.b.size : Nat) : Int), ⟨#[]⟩⟩ : Val)], 0, g, k, told⟩ : Ref) := by
    rw [rf_14 h87, getD_at hx89] <;> rfl
  replace H : Hd _ _ _ [blk m (machC sv g key (.slice A6 full.length c7) ((k : Nat) : Int) tv) 154, osl kPair tv told, osl kVal (.slice (some ⟨b91, 0, none⟩) 1 1) [(⟨false, ((x88.b.size : Nat) : Int), ⟨#[]⟩⟩ : Val)]] [rsl kVal (.slice A1 v.length c2) v, rsl kStr (.slice A6 full.length c7) full] := H
  exact fin ⟨_, _, by rw [e] <;> rfl, by rw [e] <;> rfl⟩ H
 refine c_seq (c_reg (s_val rfl rfl (r_eq rfl rfl rfl) (s_1 rfl (s_nil (q_then ?_)))))
 refine c_dec rfl (fun h92 => ?_) (fun h92 => ?_)
 ·have hks : (kindsS i.op).size = 2 := by rw [h92]; rfl
  refine c_seq ?_
  obtain ⟨x93, hx94⟩ : ∃ z9, v[0]? = some z9 := ⟨_, List.getElem?_eq_getElem (show 0 < v.length by omega)⟩
  have okx93 := hok.1 _ (at_mem hx94)
  have szx93 := okx93.2
  have inx93 := okx93.1
  obtain ⟨x95, hx96⟩ : ∃ z9, v[1]? = some z9 := ⟨_, List.getElem?_eq_getElem (show 1 < v.length by omega)⟩
  have okx95 := hok.1 _ (at_mem hx96)
  have szx95 := okx95.2
  have inx95 := okx95.1
  refine c_ord (.e 0 (.e 1 (.e 2 (.e 3 (.e 4 (.e 5 (.e 6 (.e 7 (.m 8 (.m 9 (.m 10 (.e 11 (.e 12 .z))))))))))))) (fun w => ∃ Ar, Hd w0 F0 w (blk b11 [.int .i64 i.op, .int .i64 i.a, .string i.s] 29 :: blk m (machC sv g key (.slice A6 full.length c7) ((k : Nat) : Int) tv) 154 :: osl kPair tv told :: Ar) [rsl kVal (.slice A1 v.length c2) v, rsl kStr (.slice A6 full.length c7) full]) mo (by kernel_rfl) (fun w H => ⟨_, H⟩) H (fun w H => (d_1 rfl ?_))
  have th97 := H.thR 0 rfl hx94
  refine d_val rfl rfl rfl (fun w ⟨Ar, H⟩ => r_iaE (p := oOf A1 + 0 * 3) rfl sl102 rfl rfl (by omega) (by omega) th97 (by omega)) (d_val rfl rfl rfl (fun w ⟨Ar, H⟩ => r_fa rfl fo104_2 rfl) (d_val rfl rfl rfl (fun w ⟨Ar, H⟩ => r_ld rfl ty9 rfl (H.elR 0 rfl hx94 (q := 2) rfl rfl)) (d_1 rfl ?_)))
  have th98 := H.thR 0 rfl hx96
  refine d_val rfl rfl rfl (fun w ⟨Ar, H⟩ => r_iaE (p := oOf A1 + 1 * 3) rfl sl102 rfl rfl (by omega) (by omega) th98 (by omega)) (d_val rfl rfl rfl (fun w ⟨Ar, H⟩ => r_fa rfl fo104_1 rfl) (d_val rfl rfl rfl (fun w ⟨Ar, H⟩ => r_ld rfl ty2 rfl (H.elR 0 rfl hx96 (q := 1) rfl rfl)) (d_main rfl (sc (rAt_ok x93.b x95.n) H l0 rfl rfl (e_fn kn146 rfl rfl) ?_))))
  rintro _ _ w ⟨rfl, rfl⟩ H
  refine d_back ⟨_, H⟩ (d_main rfl (sc (rInt_ok (atS x93.b x95.n)) H l0 rfl rfl (e_fn kn142 rfl rfl) ?_))
  rintro _ _ w ⟨rfl, rfl⟩ H
  refine d_back ⟨_, H⟩ (d_main rfl (s_bsl (parts := [(0, .tmp 179)]) (vs := [.agg #[.bool false, .int .i64 (atS x93.b x95.n), .string ⟨#[]⟩]]) (cs := [.bool false, .int .i64 (atS x93.b x95.n), .string ⟨#[]⟩]) rfl rfl rfl sl102 zr104 rfl (by decide) (by decide) rfl rfl H (fun b99 w H => ?_)))
  replace H := H.h1 (A := blk b99 [.bool false, .int .i64 (atS x93.b x95.n), .string ⟨#[]⟩] 104) |>.p3 |>.p3 |>.p3
  refine d_back ⟨_, H⟩ (d_1 rfl (d_1 rfl (d_nil (q_then (c_ret (q_blockR (q_thenR (q_ret2 rfl rfl rfl ?_))))))))
  replace H := H.p3
  replace H : Hd w0 F0 w [osl kVal (.slice (some ⟨b99, 0, none⟩) 1 1) [(⟨false, atS x93.b x95.n, ⟨#[]⟩⟩ : Val)], blk b11 [.int .i64 i.op, .int .i64 i.a, .string i.s] 29, blk m (machC sv g key (.slice A6 full.length c7) ((k : Nat) : Int) tv) 154, osl kPair tv told] [rsl kVal (.slice A1 v.length c2) v, rsl kStr (.slice A6 full.length c7) full] := H.turn (fun F h => blk_osl h rfl (by decide) rfl)
  replace H := H.p3.p3.k3
  have e : refM dg key g full k told i v = (⟨[(⟨false, atS x93.b x95.n, ⟨#[]⟩⟩ : Val)], 0, g, k, told⟩ : Ref) := by
    rw [rf_15 h92, getD_at hx94, getD_at hx96] <;> rfl
  replace H : Hd _ _ _ [blk m (machC sv g key (.slice A6 full.length c7) ((k : Nat) : Int) tv) 154, osl kPair tv told, osl kVal (.slice (some ⟨b99, 0, none⟩) 1 1) [(⟨false, atS x93.b x95.n, ⟨#[]⟩⟩ : Val)]] [rsl kVal (.slice A1 v.length c2) v, rsl kStr (.slice A6 full.length c7) full] := H
  exact fin ⟨_, _, by rw [e] <;> rfl, by rw [e] <;> rfl⟩ H
 refine c_seq (c_reg (s_val rfl rfl (r_eq rfl rfl rfl) (s_1 rfl (s_nil (q_then ?_)))))
 refine c_dec rfl (fun h100 => ?_) (fun h100 => ?_)
 ·have hks : (kindsS i.op).size = 3 := by rw [h100]; rfl
  refine c_seq ?_
  obtain ⟨x101, hx102⟩ : ∃ z9, v[0]? = some z9 := ⟨_, List.getElem?_eq_getElem (show 0 < v.length by omega)⟩
  have okx101 := hok.1 _ (at_mem hx102)
  have szx101 := okx101.2
  have inx101 := okx101.1
  obtain ⟨x103, hx104⟩ : ∃ z9, v[1]? = some z9 := ⟨_, List.getElem?_eq_getElem (show 1 < v.length by omega)⟩
  have okx103 := hok.1 _ (at_mem hx104)
  have szx103 := okx103.2
  have inx103 := okx103.1
  obtain ⟨x105, hx106⟩ : ∃ z9, v[2]? = some z9 := ⟨_, List.getElem?_eq_getElem (show 2 < v.length by omega)⟩
  have okx105 := hok.1 _ (at_mem hx106)
  have szx105 := okx105.2
  have inx105 := okx105.1
  refine c_ord (.e 0 (.e 1 (.e 2 (.e 3 (.e 4 (.e 5 (.e 6 (.e 7 (.e 8 (.e 9 (.e 10 (.e 11 (.m 12 (.m 13 (.m 14 (.e 15 (.e 16 .z))))))))))))))))) (fun w => ∃ Ar, Hd w0 F0 w (blk b11 [.int .i64 i.op, .int .i64 i.a, .string i.s] 29 :: blk m (machC sv g key (.slice A6 full.length c7) ((k : Nat) : Int) tv) 154 :: osl kPair tv told :: Ar) [rsl kVal (.slice A1 v.length c2) v, rsl kStr (.slice A6 full.length c7) full]) mo (by kernel_rfl) (fun w H => ⟨_, H⟩) H (fun w H => (d_1 rfl ?_))
  have th107 := H.thR 0 rfl hx102
  refine d_val rfl rfl rfl (fun w ⟨Ar, H⟩ => r_iaE (p := oOf A1 + 0 * 3) rfl sl102 rfl rfl (by omega) (by omega) th107 (by omega)) (d_val rfl rfl rfl (fun w ⟨Ar, H⟩ => r_fa rfl fo104_2 rfl) (d_val rfl rfl rfl (fun w ⟨Ar, H⟩ => r_ld rfl ty9 rfl (H.elR 0 rfl hx102 (q := 2) rfl rfl)) (d_1 rfl ?_)))
  have th108 := H.thR 0 rfl hx104
  refine d_val rfl rfl rfl (fun w ⟨Ar, H⟩ => r_iaE (p := oOf A1 + 1 * 3) rfl sl102 rfl rfl (by omega) (by omega) th108 (by omega)) (d_val rfl rfl rfl (fun w ⟨Ar, H⟩ => r_fa rfl fo104_1 rfl) (d_val rfl rfl rfl (fun w ⟨Ar, H⟩ => r_ld rfl ty2 rfl (H.elR 0 rfl hx104 (q := 1) rfl rfl)) (d_1 rfl ?_)))
  have th109 := H.thR 0 rfl hx106
  refine d_val rfl rfl rfl (fun w ⟨Ar, H⟩ => r_iaE (p := oOf A1 + 2 * 3) rfl sl102 rfl rfl (by omega) (by omega) th109 (by omega)) (d_val rfl rfl rfl (fun w ⟨Ar, H⟩ => r_fa rfl fo104_1 rfl) (d_val rfl rfl rfl (fun w ⟨Ar, H⟩ => r_ld rfl ty2 rfl (H.elR 0 rfl hx106 (q := 1) rfl rfl)) (d_main rfl (sc (rCut_ok x101.b x103.n x105.n) H l0 rfl rfl (e_fn kn147 rfl rfl) ?_))))
  rintro _ _ w ⟨rfl, rfl⟩ H
  refine d_back ⟨_, H⟩ (d_main rfl (sc (rBytes_ok (cutS x101.b x103.n x105.n)) H l0 rfl rfl (e_fn kn143 rfl rfl) ?_))
  rintro _ _ w ⟨rfl, rfl⟩ H
  refine d_back ⟨_, H⟩ (d_main rfl (s_bsl (parts := [(0, .tmp 196)]) (vs := [.agg #[.bool true, .int .i64 0, .string (cutS x101.b x103.n x105.n)]]) (cs := [.bool true, .int .i64 0, .string (cutS x101.b x103.n x105.n)]) rfl rfl rfl sl102 zr104 rfl (by decide) (by decide) rfl rfl H (fun b110 w H => ?_)))
  replace H := H.h1 (A := blk b110 [.bool true, .int .i64 0, .string (cutS x101.b x103.n x105.n)] 104) |>.p3 |>.p3 |>.p3
  refine d_back ⟨_, H⟩ (d_1 rfl (d_1 rfl (d_nil (q_then (c_ret (q_blockR (q_thenR (q_ret2 rfl rfl rfl ?_))))))))
  replace H := H.p3
  replace H : Hd w0 F0 w [osl kVal (.slice (some ⟨b110, 0, none⟩) 1 1) [(⟨true, 0, (cutS x101.b x103.n x105.n)⟩ : Val)], blk b11 [.int .i64 i.op, .int .i64 i.a, .string i.s] 29, blk m (machC sv g key (.slice A6 full.length c7) ((k : Nat) : Int) tv) 154, osl kPair tv told] [rsl kVal (.slice A1 v.length c2) v, rsl kStr (.slice A6 full.length c7) full] := H.turn (fun F h => blk_osl h rfl (by decide) rfl)
  replace H := H.p3.p3.k3
  have e : refM dg key g full k told i v = (⟨[(⟨true, 0, (cutS x101.b x103.n x105.n)⟩ : Val)], 0, g, k, told⟩ : Ref) := by
    rw [rf_16 h100, getD_at hx102, getD_at hx104, getD_at hx106] <;> rfl
  replace H : Hd _ _ _ [blk m (machC sv g key (.slice A6 full.length c7) ((k : Nat) : Int) tv) 154, osl kPair tv told, osl kVal (.slice (some ⟨b110, 0, none⟩) 1 1) [(⟨true, 0, (cutS x101.b x103.n x105.n)⟩ : Val)]] [rsl kVal (.slice A1 v.length c2) v, rsl kStr (.slice A6 full.length c7) full] := H
  exact fin ⟨_, _, by rw [e] <;> rfl, by rw [e] <;> rfl⟩ H
 refine c_seq (c_reg (s_val rfl rfl (r_eq rfl rfl rfl) (s_1 rfl (s_nil (q_then ?_)))))
 refine c_dec rfl (fun h111 => ?_) (fun h111 => ?_)
 ·have hks : (kindsS i.op).size = 1 := by rw [h111]; rfl
  refine c_seq ?_
  obtain ⟨x112, hx113⟩ : ∃ z9, v[0]? = some z9 := ⟨_, List.getElem?_eq_getElem (show 0 < v.length by omega)⟩
  have okx112 := hok.1 _ (at_mem hx113)
  have szx112 := okx112.2
  have inx112 := okx112.1
  refine c_reg (s_1 rfl ?_)
  have th114 := H.thR 0 rfl hx113
  refine s_val rfl rfl (r_iaE (p := oOf A1 + 0 * 3) rfl sl102 rfl rfl (by omega) (by omega) th114 (by omega)) (s_val rfl rfl (r_fa rfl fo104_1 rfl) (s_val rfl rfl (r_ld rfl ty2 rfl (H.elR 0 rfl hx113 (q := 1) rfl rfl)) (sc (rDigits_ok x112.n (by assumption)) H l0 rfl rfl (e_fn kn148 rfl rfl) ?_)))
  rintro _ _ w ⟨rfl, rfl⟩ H
  refine sc (rBytes_ok (dg.dig x112.n)) H l0 rfl rfl (e_fn kn143 rfl rfl) ?_
  rintro _ _ w ⟨rfl, rfl⟩ H
  refine s_bsl (parts := [(0, .tmp 205)]) (vs := [.agg #[.bool true, .int .i64 0, .string (dg.dig x112.n)]]) (cs := [.bool true, .int .i64 0, .string (dg.dig x112.n)]) rfl rfl rfl sl102 zr104 rfl (by decide) (by decide) rfl rfl H (fun b115 w H => ?_)
  replace H := H.h1 (A := blk b115 [.bool true, .int .i64 0, .string (dg.dig x112.n)] 104)
  refine s_k 2 rfl (s_nil (q_then (c_ret (q_blockR (q_thenR (q_ret2 rfl rfl rfl ?_))))))
  replace H : Hd w0 F0 w [osl kVal (.slice (some ⟨b115, 0, none⟩) 1 1) [(⟨true, 0, (dg.dig x112.n)⟩ : Val)], blk b11 [.int .i64 i.op, .int .i64 i.a, .string i.s] 29, blk m (machC sv g key (.slice A6 full.length c7) ((k : Nat) : Int) tv) 154, osl kPair tv told] [rsl kVal (.slice A1 v.length c2) v, rsl kStr (.slice A6 full.length c7) full] := H.turn (fun F h => blk_osl h rfl (by decide) rfl)
  replace H := H.p3.p3.k3
  have e : refM dg key g full k told i v = (⟨[(⟨true, 0, (dg.dig x112.n)⟩ : Val)], 0, g, k, told⟩ : Ref) := by
    rw [rf_17 h111, getD_at hx113] <;> rfl
  replace H : Hd _ _ _ [blk m (machC sv g key (.slice A6 full.length c7) ((k : Nat) : Int) tv) 154, osl kPair tv told, osl kVal (.slice (some ⟨b115, 0, none⟩) 1 1) [(⟨true, 0, (dg.dig x112.n)⟩ : Val)]] [rsl kVal (.slice A1 v.length c2) v, rsl kStr (.slice A6 full.length c7) full] := H
  exact fin ⟨_, _, by rw [e] <;> rfl, by rw [e] <;> rfl⟩ H
 refine c_seq (c_reg (s_val rfl rfl (r_eq rfl rfl rfl) (s_1 rfl (s_nil (q_then ?_)))))
 refine c_dec rfl (fun h116 => ?_) (fun h116 => ?_)
 ·have hks : (kindsS i.op).size = 1 := by rw [h116]; rfl
  refine c_seq ?_
  obtain ⟨x117, hx118⟩ : ∃ z9, v[0]? = some z9 := ⟨_, List.getElem?_eq_getElem (show 0 < v.length by omega)⟩
  have okx117 := hok.1 _ (at_mem hx118)
  have szx117 := okx117.2
  have inx117 := okx117.1
  refine c_reg (s_1 rfl ?_)
  have th119 := H.thR 0 rfl hx118
  refine s_val rfl rfl (r_iaE (p := oOf A1 + 0 * 3) rfl sl102 rfl rfl (by omega) (by omega) th119 (by omega)) (s_val rfl rfl (r_fa rfl fo104_2 rfl) (s_val rfl rfl (r_ld rfl ty9 rfl (H.elR 0 rfl hx118 (q := 2) rfl rfl)) (sc (rNumber_ok x117.b (by first | omega | decide)) H l0 rfl rfl (e_fn kn149 rfl rfl) ?_)))
  rintro _ _ w ⟨rfl, rfl⟩ H
  refine sc (rInt_ok (dg.num x117.b)) H l0 rfl rfl (e_fn kn142 rfl rfl) ?_
  rintro _ _ w ⟨rfl, rfl⟩ H
  refine s_bsl (parts := [(0, .tmp 214)]) (vs := [.agg #[.bool false, .int .i64 (dg.num x117.b), .string ⟨#[]⟩]]) (cs := [.bool false, .int .i64 (dg.num x117.b), .string ⟨#[]⟩]) rfl rfl rfl sl102 zr104 rfl (by decide) (by decide) rfl rfl H (fun b120 w H => ?_)
  replace H := H.h1 (A := blk b120 [.bool false, .int .i64 (dg.num x117.b), .string ⟨#[]⟩] 104)
  refine s_k 2 rfl (s_nil (q_then (c_ret (q_blockR (q_thenR (q_ret2 rfl rfl rfl ?_))))))
  replace H : Hd w0 F0 w [osl kVal (.slice (some ⟨b120, 0, none⟩) 1 1) [(⟨false, dg.num x117.b, ⟨#[]⟩⟩ : Val)], blk b11 [.int .i64 i.op, .int .i64 i.a, .string i.s] 29, blk m (machC sv g key (.slice A6 full.length c7) ((k : Nat) : Int) tv) 154, osl kPair tv told] [rsl kVal (.slice A1 v.length c2) v, rsl kStr (.slice A6 full.length c7) full] := H.turn (fun F h => blk_osl h rfl (by decide) rfl)
  replace H := H.p3.p3.k3
  have e : refM dg key g full k told i v = (⟨[(⟨false, dg.num x117.b, ⟨#[]⟩⟩ : Val)], 0, g, k, told⟩ : Ref) := by
    rw [rf_18 h116, getD_at hx118] <;> rfl
  replace H : Hd _ _ _ [blk m (machC sv g key (.slice A6 full.length c7) ((k : Nat) : Int) tv) 154, osl kPair tv told, osl kVal (.slice (some ⟨b120, 0, none⟩) 1 1) [(⟨false, dg.num x117.b, ⟨#[]⟩⟩ : Val)]] [rsl kVal (.slice A1 v.length c2) v, rsl kStr (.slice A6 full.length c7) full] := H
  exact fin ⟨_, _, by rw [e] <;> rfl, by rw [e] <;> rfl⟩ H
 refine c_seq (c_reg (s_val rfl rfl (r_eq rfl rfl rfl) (s_1 rfl (s_nil (q_then ?_)))))
 refine c_dec rfl (fun h121 => ?_) (fun h121 => ?_)
 ·have hks : (kindsS i.op).size = 0 := by rw [h121]; rfl
  refine c_seq ?_
  have hia := hi.2.2.2.2.2.1 (by omega)
  obtain ⟨gk, hgk⟩ : ∃ z, z = g (i.a).toNat := ⟨_, rfl⟩
  refine c_ord (.e 0 (.e 1 (.e 2 (.e 3 (.e 4 (.e 5 (.e 6 (.m 7 (.e 8 (.e 9 .z)))))))))) (fun w => ∃ Ar, Hd w0 F0 w (blk b11 [.int .i64 i.op, .int .i64 i.a, .string i.s] 29 :: blk m (machC sv g key (.slice A6 full.length c7) ((k : Nat) : Int) tv) 154 :: osl kPair tv told :: Ar) [rsl kVal (.slice A1 v.length c2) v, rsl kStr (.slice A6 full.length c7) full]) mo (by kernel_rfl) (fun w H => ⟨_, H⟩) H (fun w H => (d_1 rfl (d_val rfl rfl rfl (fun w ⟨Ar, H⟩ => r_fa rfl fo29_1 rfl) (d_val rfl rfl rfl (fun w ⟨Ar, H⟩ => r_ld rfl ty3 rfl (H.cellI 0 rfl rfl)) (d_val rfl rfl rfl (fun w ⟨Ar, H⟩ => r_nilP rfl rfl) (d_val rfl rfl rfl (fun w ⟨Ar, H⟩ => r_fa rfl fo154_1 rfl) (d_val rfl rfl rfl (fun w ⟨Ar, H⟩ => r_iaB (p := 1 + (i.a).toNat * 3) rfl un105 is104 rfl rfl (by omega) (by omega) (by omega)) (d_val rfl rfl rfl (fun w ⟨Ar, H⟩ => r_ldA (cs := [.bool gk.t, .int .i64 gk.n, .string gk.b]) rfl ty104 rfl rfl (H.cellsI 1 rfl (by rw [hgk]; exact machC_reg (by omega)))) ?_))))))))
  refine d_main rfl (s_bsl (parts := [(0, .tmp 224)]) (vs := [.agg #[.bool gk.t, .int .i64 gk.n, .string gk.b]]) (cs := [.bool gk.t, .int .i64 gk.n, .string gk.b]) rfl rfl rfl sl102 zr104 rfl (by decide) (by decide) rfl rfl H (fun b122 w H => ?_))
  replace H : Hd _ _ _ [blk b122 [.bool gk.t, .int .i64 gk.n, .string gk.b] 104, blk b11 [.int .i64 i.op, .int .i64 i.a, .string i.s] 29, blk m (machC sv g key (.slice A6 full.length c7) ((k : Nat) : Int) tv) 154, osl kPair tv told] [rsl kVal (.slice A1 v.length c2) v, rsl kStr (.slice A6 full.length c7) full] := H
  replace H := H.p3.p3.p3
  refine d_back ⟨_, H⟩ (d_1 rfl (d_1 rfl (d_nil (q_then (c_ret (q_blockR (q_thenR (q_ret2 rfl rfl rfl ?_))))))))
  replace H := H.p3
  replace H : Hd w0 F0 w [osl kVal (.slice (some ⟨b122, 0, none⟩) 1 1) [gk], blk b11 [.int .i64 i.op, .int .i64 i.a, .string i.s] 29, blk m (machC sv g key (.slice A6 full.length c7) ((k : Nat) : Int) tv) 154, osl kPair tv told] [rsl kVal (.slice A1 v.length c2) v, rsl kStr (.slice A6 full.length c7) full] := H.turn (fun F h => blk_osl h rfl (by decide) rfl)
  replace H := H.p3.p3.k3
  have e : refM dg key g full k told i v = (⟨[gk], 0, g, k, told⟩ : Ref) := by
    rw [rf_21 h121, hgk]
  replace H : Hd _ _ _ [blk m (machC sv g key (.slice A6 full.length c7) ((k : Nat) : Int) tv) 154, osl kPair tv told, osl kVal (.slice (some ⟨b122, 0, none⟩) 1 1) [gk]] [rsl kVal (.slice A1 v.length c2) v, rsl kStr (.slice A6 full.length c7) full] := H
  exact fin ⟨_, _, by rw [e] <;> rfl, by rw [e] <;> rfl⟩ H
 refine c_seq (c_reg (s_val rfl rfl (r_eq rfl rfl rfl) (s_1 rfl (s_nil (q_then ?_)))))
 refine c_dec rfl (fun h123 => ?_) (fun h123 => ?_)
 ·have hks : (kindsS i.op).size = 1 := by rw [h123]; rfl
  have hia := hi.2.2.2.2.2.1 (by omega)
  obtain ⟨x124, hx125⟩ : ∃ z9, v[0]? = some z9 := ⟨_, List.getElem?_eq_getElem (show 0 < v.length by omega)⟩
  have okx124 := hok.1 _ (at_mem hx125)
  have szx124 := okx124.2
  have inx124 := okx124.1
  replace H := H.p2.p1
  refine c_ord (.e 0 (.e 1 (.e 2 (.e 3 (.e 4 (.e 5 (.e 6 (.e 7 (.e 8 (.m 9 .z)))))))))) (fun w => ∃ Ar, Hd w0 F0 w (blk b11 [.int .i64 i.op, .int .i64 i.a, .string i.s] 29 :: osl kPair tv told :: Ar) [rsl kVal (.slice A1 v.length c2) v, rsl kStr (.slice A6 full.length c7) full]) mo (by kernel_rfl) (fun w H => ⟨_, H⟩) H (fun w H => (d_1 rfl (d_val rfl rfl rfl (fun w ⟨Ar, H⟩ => r_fa rfl fo29_1 rfl) (d_val rfl rfl rfl (fun w ⟨Ar, H⟩ => r_ld rfl ty3 rfl (H.cellI 0 rfl rfl)) (d_1 rfl ?_)))))
  have th126 := H.thR 0 rfl hx125
  refine d_val rfl rfl rfl (fun w ⟨Ar, H⟩ => r_iaE (p := oOf A1 + 0 * 3) rfl sl102 rfl rfl (by omega) (by omega) th126 (by omega)) (d_val rfl rfl rfl (fun w ⟨Ar, H⟩ => r_ldA (cs := [.bool x124.t, .int .i64 x124.n, .string x124.b]) rfl ty104 rfl rfl (H.elsR 0 rfl hx125 rfl)) (d_val rfl rfl rfl (fun w ⟨Ar, H⟩ => r_nilP rfl rfl) (d_val rfl rfl rfl (fun w ⟨Ar, H⟩ => r_fa rfl fo154_1 rfl) (d_val rfl rfl rfl (fun w ⟨Ar, H⟩ => r_iaB (p := 1 + (i.a).toNat * 3) rfl un105 is104 rfl rfl (by omega) (by omega) (by omega)) (d_main rfl ?_)))))
  replace H := H.p2
  refine s_st rfl rfl rfl ty104 rfl rfl H rfl (by show 1 + (i.a).toNat * 3 + 3 ≤ 29; omega) (fun u hu => by simp [Value.cells] at hu; rcases hu with rfl | rfl | rfl <;> rfl) (fun w H => ?_)
  replace H : Hd w0 F0 w [blk m (machC sv (setG g i.a.toNat x124) key (.slice A6 full.length c7) ((k : Nat) : Int) tv) 154, blk b11 [.int .i64 i.op, .int .i64 i.a, .string i.s] 29, osl kPair tv told] [rsl kVal (.slice A1 v.length c2) v, rsl kStr (.slice A6 full.length c7) full] := by rw [← machC_set (show i.a.toNat < 8 by omega) x124]; exact H
  replace H := H.p2.p2
  refine d_back ⟨_, H⟩ (d_nil (q_blockN (q_then (c_seq (c_reg (s_k 2 rfl (s_nil (q_then (c_ret (q_ret2 rfl rfl rfl ?_))))))))))
  replace H := H.p1.p2.k2.newnil kVal |>.p2 |>.p2
  have e : refM dg key g full k told i v = (⟨[], 0, setG g i.a.toNat x124, k, told⟩ : Ref) := by
    rw [rf_22 h123, getD_at hx125] <;> rfl
  replace H : Hd _ _ _ [blk m (machC sv (setG g i.a.toNat x124) key (.slice A6 full.length c7) ((k : Nat) : Int) tv) 154, osl kPair tv told, osl kVal (.slice none 0 0) []] [rsl kVal (.slice A1 v.length c2) v, rsl kStr (.slice A6 full.length c7) full] := H
  exact fin ⟨_, _, by rw [e] <;> rfl, by rw [e] <;> rfl⟩ H
 refine c_seq (c_reg (s_val rfl rfl (r_eq rfl rfl rfl) (s_1 rfl (s_nil (q_then ?_)))))
 refine c_dec rfl (fun h127 => ?_) (fun h127 => ?_)
 ·have hks : (kindsS i.op).size = 2 := by rw [h127]; rfl
  refine c_seq (c_seq ?_)
  obtain ⟨x128, hx129⟩ : ∃ z9, v[0]? = some z9 := ⟨_, List.getElem?_eq_getElem (show 0 < v.length by omega)⟩
  have okx128 := hok.1 _ (at_mem hx129)
  have szx128 := okx128.2
  have inx128 := okx128.1
  obtain ⟨x130, hx131⟩ : ∃ z9, v[1]? = some z9 := ⟨_, List.getElem?_eq_getElem (show 1 < v.length by omega)⟩
  have okx130 := hok.1 _ (at_mem hx131)
  have szx130 := okx130.2
  have inx130 := okx130.1
  refine c_reg (s_1 rfl ?_)
  have th132 := H.thR 0 rfl hx129
  refine s_val rfl rfl (r_iaE (p := oOf A1 + 0 * 3) rfl sl102 rfl rfl (by omega) (by omega) th132 (by omega)) (s_val rfl rfl (r_fa rfl fo104_2 rfl) (s_val rfl rfl (r_ld rfl ty9 rfl (H.elR 0 rfl hx129 (q := 2) rfl rfl)) (s_val rfl rfl (r_lenS rfl un9 rfl) (s_val rfl rfl (r_gt rfl rfl rfl) (s_nil (q_then ?_))))))
  refine c_dec rfl (fun h133 => ?_) (fun h133 => ?_)
  ·refine c_seq (c_reg (s_k 2 rfl (s_nil (q_then (c_ret (q_thenR (q_blockR (q_thenR (q_ret2 rfl rfl rfl ?_)))))))))
   replace H := H.p2.p2.k2.newnil kVal |>.p2 |>.p2
   have e : refM dg key g full k told i v = (⟨[], 4, g, k, told⟩ : Ref) := by
     rw [rf_23 h127, getD_at hx129, getD_at hx131]
     rw [emit_big h133]
   replace H : Hd _ _ _ [blk m (machC sv g key (.slice A6 full.length c7) ((k : Nat) : Int) tv) 154, osl kPair tv told, osl kVal (.slice none 0 0) []] [rsl kVal (.slice A1 v.length c2) v, rsl kStr (.slice A6 full.length c7) full] := H
   exact fin ⟨_, _, by rw [e] <;> rfl, by rw [e] <;> rfl⟩ H
  refine c_skip (q_then (c_seq (c_seq (c_reg (s_1 rfl (s_val rfl rfl (r_nilP rfl rfl) (s_val rfl rfl (r_fa rfl fo154_5 rfl) (s_val rfl rfl (r_ld rfl ty23 rfl (H.cellI 1 rfl rfl)) ?_))))))))
  obtain ⟨A134, c135, rfl, hc136, hm137, hp138⟩ := H.fA 2 rfl
  refine s_val rfl rfl (r_lenL rfl un23 rfl) (s_val rfl rfl (r_ge rfl rfl rfl) (s_nil (q_then ?_)))
  refine c_dec rfl (fun h139 => ?_) (fun h139 => ?_)
  ·refine c_seq (c_reg (s_k 2 rfl (s_nil (q_then (c_ret (q_thenR (q_blockR (q_thenR (q_ret2 rfl rfl rfl ?_)))))))))
   replace H := H.p2.p2.k2.newnil kVal |>.p2 |>.p2
   have e : refM dg key g full k told i v = (⟨[], 5, g, k, told⟩ : Ref) := by
     rw [rf_23 h127, getD_at hx129, getD_at hx131]
     rw [emit_many h133 (by omega)]
   replace H : Hd _ _ _ [blk m (machC sv g key (.slice A6 full.length c7) ((k : Nat) : Int) (.slice A134 told.length c135)) 154, osl kPair (.slice A134 told.length c135) told, osl kVal (.slice none 0 0) []] [rsl kVal (.slice A1 v.length c2) v, rsl kStr (.slice A6 full.length c7) full] := H
   exact fin ⟨_, _, by rw [e] <;> rfl, by rw [e] <;> rfl⟩ H
  refine c_skip (q_then (c_ord (.e 0 (.e 1 (.e 2 (.e 3 (.e 5 (.e 6 (.e 7 (.e 8 (.e 9 (.e 10 (.e 11 (.e 12 (.e 13 (.b 4 14 (.m 14 (.m 15 (.e 16 (.e 17 (.m 18 .z))))) (.m 4 (.m 15 (.e 16 (.e 17 (.m 18 .z))))))))))))))))))) (fun w => ∃ Ar, Hd w0 F0 w (blk b11 [.int .i64 i.op, .int .i64 i.a, .string i.s] 29 :: Ar) [rsl kVal (.slice A1 v.length c2) v, rsl kStr (.slice A6 full.length c7) full]) mo (by kernel_rfl) (fun w H => ⟨_, H⟩) H (fun w H => (d_1 rfl (d_1 rfl (d_val rfl rfl rfl (fun w ⟨Ar, H⟩ => r_nilP rfl rfl) (d_val rfl rfl rfl (fun w ⟨Ar, H⟩ => r_fa rfl fo154_5 rfl) (d_1 rfl ?_))))))))
  have th140 := H.thR 0 rfl hx129
  refine d_val rfl rfl rfl (fun w ⟨Ar, H⟩ => r_iaE (p := oOf A1 + 0 * 3) rfl sl102 rfl rfl (by omega) (by omega) th140 (by omega)) (d_val rfl rfl rfl (fun w ⟨Ar, H⟩ => r_fa rfl fo104_2 rfl) (d_val rfl rfl rfl (fun w ⟨Ar, H⟩ => r_ld rfl ty9 rfl (H.elR 0 rfl hx129 (q := 2) rfl rfl)) (d_1 rfl ?_)))
  have th141 := H.thR 0 rfl hx131
  refine d_val rfl rfl rfl (fun w ⟨Ar, H⟩ => r_iaE (p := oOf A1 + 1 * 3) rfl sl102 rfl rfl (by omega) (by omega) th141 (by omega)) (d_val rfl rfl rfl (fun w ⟨Ar, H⟩ => r_fa rfl fo104_2 rfl) (d_val rfl rfl rfl (fun w ⟨Ar, H⟩ => r_ld rfl ty9 rfl (H.elR 0 rfl hx131 (q := 2) rfl rfl)) (d_val rfl rfl rfl (fun w ⟨Ar, H⟩ => r_bd (parts := [(0, .tmp 259), (1, .tmp 263)]) (vs := [.string x128.b, .string x130.b]) (cs := [.string x128.b, .string x130.b]) rfl bd56 rfl rfl) ?_)))
  refine d_both rfl rfl ?_ ?_
  ·refine s_val rfl rfl (r_ld rfl ty23 rfl (H.cellI 1 rfl rfl)) (d_back ⟨_, H⟩ (d_main rfl (s_bsl (parts := [(0, .tmp 264)]) (vs := [.agg #[.string x128.b, .string x130.b]]) (cs := [.string x128.b, .string x130.b]) rfl rfl rfl sl23 zr56 rfl (by decide) (by decide) rfl rfl H (fun b142 w H => ?_))))
   replace H := H.h1 (A := blk b142 [.string x128.b, .string x130.b] 56) |>.p1
   refine d_back ⟨_, H⟩ (d_main rfl ?_)
   replace H := H.p3
   refine s_appF (xs := told) (ys := [(⟨x128.b, x130.b⟩ : Pair)]) rfl rfl rfl sl23 zr56 rfl (by decide) rfl rfl H (by first | omega | (simp only [List.length_cons, List.length_nil]; omega)) (fun F hA hR => blk_rsl (hA _ (List.mem_of_getElem? (i := 1) rfl)) rfl (by decide) (RepsR.flat_eq.2 rfl)) (fun v143 w H => ?_)
   replace H := H.h1 (A := osl kPair v143 (told ++ [(⟨x128.b, x130.b⟩ : Pair)])) |>.p1
   refine d_back ⟨_, H⟩ (d_val rfl rfl rfl (fun w ⟨Ar, H⟩ => r_nilP rfl rfl) (d_val rfl rfl rfl (fun w ⟨Ar, H⟩ => r_fa rfl fo154_5 rfl) (d_main rfl ?_)))
   obtain ⟨A144, c145, rfl, hc146, hm147, hp148⟩ := H.fA 1 rfl
   replace H := H.p3
   refine s_st rfl rfl rfl ty23 rfl rfl H rfl (Nat.le_of_ble_eq_true rfl) (fun u hu => by simp [Value.cells] at hu; subst hu; rfl) (fun w H => ?_)
   replace H : Hd _ _ _ [blk m (machC sv g key (.slice A6 full.length c7) ((k : Nat) : Int) (.slice A144 ((told ++ [(⟨x128.b, x130.b⟩ : Pair)]).length) c145)) 154, blk b11 [.int .i64 i.op, .int .i64 i.a, .string i.s] 29, osl kPair (.slice A144 ((told ++ [(⟨x128.b, x130.b⟩ : Pair)]).length) c145) (told ++ [(⟨x128.b, x130.b⟩ : Pair)]), blk b142 [.string x128.b, .string x130.b] 56] [rsl kVal (.slice A1 v.length c2) v, rsl kStr (.slice A6 full.length c7) full] := H
   replace H := H.p1
   refine d_back ⟨_, H⟩ (d_nil (q_blockN (q_then (c_seq (c_reg (s_k 2 rfl (s_nil (q_then (c_ret (q_ret2 rfl rfl rfl ?_))))))))))
   replace H := H.p2.p2.k2.newnil kVal |>.p2 |>.p2
   have e : refM dg key g full k told i v = (⟨[], 0, g, k, told ++ [(⟨x128.b, x130.b⟩ : Pair)]⟩ : Ref) := by
     rw [rf_23 h127, getD_at hx129, getD_at hx131]
     rw [emit_fine h133 (by omega)]
   replace H : Hd _ _ _ [blk m (machC sv g key (.slice A6 full.length c7) ((k : Nat) : Int) (.slice A144 ((told ++ [(⟨x128.b, x130.b⟩ : Pair)]).length) c145)) 154, osl kPair (.slice A144 ((told ++ [(⟨x128.b, x130.b⟩ : Pair)]).length) c145) (told ++ [(⟨x128.b, x130.b⟩ : Pair)]), osl kVal (.slice none 0 0) []] [rsl kVal (.slice A1 v.length c2) v, rsl kStr (.slice A6 full.length c7) full] := H
   exact fin ⟨_, _, by rw [e] <;> rfl, by rw [e] <;> rfl⟩ H
  refine s_bsl (parts := [(0, .tmp 264)]) (vs := [.agg #[.string x128.b, .string x130.b]]) (cs := [.string x128.b, .string x130.b]) rfl rfl rfl sl23 zr56 rfl (by decide) (by decide) rfl rfl H (fun b149 w H => ?_)
  replace H := H.h1 (A := blk b149 [.string x128.b, .string x130.b] 56) |>.p1
  refine d_back ⟨_, H⟩ (d_main rfl (s_val rfl rfl (r_ld rfl ty23 rfl (H.cellI 2 rfl rfl)) (d_back ⟨_, H⟩ (d_main rfl ?_))))
  replace H := H.p3
  refine s_appF (xs := told) (ys := [(⟨x128.b, x130.b⟩ : Pair)]) rfl rfl rfl sl23 zr56 rfl (by decide) rfl rfl H (by first | omega | (simp only [List.length_cons, List.length_nil]; omega)) (fun F hA hR => blk_rsl (hA _ (List.mem_of_getElem? (i := 1) rfl)) rfl (by decide) (RepsR.flat_eq.2 rfl)) (fun v150 w H => ?_)
  replace H := H.h1 (A := osl kPair v150 (told ++ [(⟨x128.b, x130.b⟩ : Pair)])) |>.p1
  refine d_back ⟨_, H⟩ (d_val rfl rfl rfl (fun w ⟨Ar, H⟩ => r_nilP rfl rfl) (d_val rfl rfl rfl (fun w ⟨Ar, H⟩ => r_fa rfl fo154_5 rfl) (d_main rfl ?_)))
  obtain ⟨A151, c152, rfl, hc153, hm154, hp155⟩ := H.fA 1 rfl
  replace H := H.p3
  refine s_st rfl rfl rfl ty23 rfl rfl H rfl (Nat.le_of_ble_eq_true rfl) (fun u hu => by simp [Value.cells] at hu; subst hu; rfl) (fun w H => ?_)
  replace H : Hd _ _ _ [blk m (machC sv g key (.slice A6 full.length c7) ((k : Nat) : Int) (.slice A151 ((told ++ [(⟨x128.b, x130.b⟩ : Pair)]).length) c152)) 154, blk b11 [.int .i64 i.op, .int .i64 i.a, .string i.s] 29, osl kPair (.slice A151 ((told ++ [(⟨x128.b, x130.b⟩ : Pair)]).length) c152) (told ++ [(⟨x128.b, x130.b⟩ : Pair)]), blk b149 [.string x128.b, .string x130.b] 56] [rsl kVal (.slice A1 v.length c2) v, rsl kStr (.slice A6 full.length c7) full] := H
  replace H := H.p1
  refine d_back ⟨_, H⟩ (d_nil (q_blockN (q_then (c_seq (c_reg (s_k 2 rfl (s_nil (q_then (c_ret (q_ret2 rfl rfl rfl ?_))))))))))
  replace H := H.p2.p2.k2.newnil kVal |>.p2 |>.p2
  have e : refM dg key g full k told i v = (⟨[], 0, g, k, told ++ [(⟨x128.b, x130.b⟩ : Pair)]⟩ : Ref) := by
    rw [rf_23 h127, getD_at hx129, getD_at hx131]
    rw [emit_fine h133 (by omega)]
  replace H : Hd _ _ _ [blk m (machC sv g key (.slice A6 full.length c7) ((k : Nat) : Int) (.slice A151 ((told ++ [(⟨x128.b, x130.b⟩ : Pair)]).length) c152)) 154, osl kPair (.slice A151 ((told ++ [(⟨x128.b, x130.b⟩ : Pair)]).length) c152) (told ++ [(⟨x128.b, x130.b⟩ : Pair)]), osl kVal (.slice none 0 0) []] [rsl kVal (.slice A1 v.length c2) v, rsl kStr (.slice A6 full.length c7) full] := H
  exact fin ⟨_, _, by rw [e] <;> rfl, by rw [e] <;> rfl⟩ H
 refine c_skip (q_blockN (q_then (c_seq (c_reg (s_k 2 rfl (s_nil (q_then (c_ret (q_ret2 rfl rfl rfl ?_)))))))))
 replace H := H.p2.p2.k2.newnil kVal |>.p2 |>.p2
 have e : refM dg key g full k told i v = (⟨[], 0, g, k, told⟩ : Ref) := by
   exact rf_no (by have := hi.1; have := hi.2.1; omega)
 replace H : Hd _ _ _ [blk m (machC sv g key (.slice A6 full.length c7) ((k : Nat) : Int) tv) 154, osl kPair tv told, osl kVal (.slice none 0 0) []] [rsl kVal (.slice A1 v.length c2) v, rsl kStr (.slice A6 full.length c7) full] := H
 exact fin ⟨_, _, by rw [e] <;> rfl, by rw [e] <;> rfl⟩ H
theorem fitR_eq (c : UInt8) (v : Val) : fitR c v = !((decide ((c.toNat : Int) = 110) && v.t) || (decide ((c.toNat : Int) = 116) && !v.t)) := by
 have h : ∀ d : UInt8, (c == d) = decide ((c.toNat : Int) = (d.toNat : Int)) := by
  intro d
  rw [Bool.eq_iff_iff, beq_iff_eq, decide_eq_true_eq]
  constructor
  ·intro e; rw [e]
  ·intro e; exact UInt8.toNat_inj.1 (by omega)
 unfold fitR
 rw [h 110, h 116]
 rfl
theorem kinds_len (op : Int) : (kindsR op).size ≤ 3 := by
 unfold kindsR
 repeat (first | (exact Nat.le_of_ble_eq_true rfl) | split)
theorem fitsR_go {ks : List UInt8} {xs : List Val} {i : Nat} {c : UInt8} {x : Val} (hk : ks[i]? = some c) (hx : xs[i]? = some x) (hb : fitR c x = true) : fitsR (ks.drop (i + 1)) (xs.drop (i + 1)) = fitsR (ks.drop i) (xs.drop i) := by
 rw [drop_at hk, drop_at hx]
 simp [fitsR, hb]
theorem fitsR_no {ks : List UInt8} {xs : List Val} {i : Nat} {c : UInt8} {x : Val} (hk : ks[i]? = some c) (hx : xs[i]? = some x) (hb : fitR c x = false) : fitsR (ks.drop i) (xs.drop i) = false := by
 rw [drop_at hk, drop_at hx]
 simp [fitsR, hb]
theorem fitsR_end {ks : List UInt8} {xs : List Val} {i : Nat} (h : xs.length ≤ i) : fitsR (ks.drop i) (xs.drop i) = true := by
 rw [List.drop_eq_nil_of_le h]
 cases ks.drop i <;> rfl
section
variable {D : Dig} {key : ByteArray} {pos : Int} {stk : List Val} {g : Nat → Val} {told : List Pair} {full : List ByteArray} {k : Nat} {i : Ins}
def stepD (D : Dig) (key : ByteArray) (pos : Int) (stk : List Val) (g : Nat → Val) (told : List Pair) (full : List ByteArray) (k : Nat) (i : Ins) : VM × Int := doesM D key ⟨pos, false, stk, g, told, full.drop k⟩ i
theorem st_under (h : stk.length < (kindsR i.op).size) : (stepD D key pos stk g told full k i).2 = 1 := by
 rw [kinds_size] at h
 have e := needs_under h
 unfold stepD
 rw [does_fail (m := ⟨pos, false, stk, g, told, full.drop k⟩) (by show (needsM i.op stk).1 ≠ 0; rw [e]; exact (show ¬ (1 : Int) = 0 by decide))]
 show (needsM i.op stk).1 = 1
 rw [e]
theorem st_type (h : ¬ stk.length < (kindsR i.op).size) (h2 : fitsR (kindsR i.op).data.toList (stk.drop (stk.length - (kindsR i.op).size)) = false) : (stepD D key pos stk g told full k i).2 = 2 := by
 rw [kinds_size] at h h2
 rw [fits_same] at h2
 have e := needs_type h h2
 unfold stepD
 rw [does_fail (m := ⟨pos, false, stk, g, told, full.drop k⟩) (by show (needsM i.op stk).1 ≠ 0; rw [e]; exact (show ¬ (2 : Int) = 0 by decide))]
 show (needsM i.op stk).1 = 2
 rw [e]
theorem st_act (h : ¬ stk.length < (kindsR i.op).size) (h2 : fitsR (kindsR i.op).data.toList (stk.drop (stk.length - (kindsR i.op).size)) = true) :
  stepD D key pos stk g told full k i = actM D key ⟨pos, false, stk.take (stk.length - (kindsR i.op).size), g, told, full.drop k⟩ i (stk.drop (stk.length - (kindsR i.op).size)) := by
 rw [kinds_size] at h h2 ⊢
 rw [fits_same] at h2
 have e := needs_fine h h2
 unfold stepD
 rw [does_act (m := ⟨pos, false, stk, g, told, full.drop k⟩) (by show ¬ (needsM i.op stk).1 ≠ 0; rw [e]; exact fun h => h rfl)]
 show actM D key ⟨pos, false, (needsM i.op stk).2.1, g, told, full.drop k⟩ i (needsM i.op stk).2.2 = _
 rw [e]
def StepOk (r : VM × Int) (pos to : Int) (stk : List Val) (g : Nat → Val) (told : List Pair) (full : List ByteArray) (k : Nat) : Prop :=
 r = (⟨if 0 ≤ to then to else pos, false, stk, g, told, full.drop k⟩, 0)
theorem st_jump {rest v : List Val} {n : Int} (hi : goodI i n) (h : stepD D key pos stk g told full k i = actM D key ⟨pos, false, rest, g, told, full.drop k⟩ i v) (hop : i.op = 19 ∨ (i.op = 20 ∧ (v.getD 0 val0).n ≠ 0)) :
  StepOk (stepD D key pos stk g told full k i) pos i.a rest g told full k := by
 unfold StepOk
 rw [h]
 rcases hop with e | ⟨e, hn⟩
 ·rw [act_19 e, if_pos (hi.2.2.2.2.1 (.inl e)).1]
 ·rw [act_20 e, if_pos hn, if_pos (hi.2.2.2.2.1 (.inr e)).1]
section
variable {rest v : List Val} {n : Int} (hl : rest.length ≤ 16) (hi : goodI i n) (h : stepD D key pos stk g told full k i = actM D key ⟨pos, false, rest, g, told, full.drop k⟩ i v) (h0 : i.op ≠ 0) (h19 : ¬ i.op = 19) (h20 : i.op = 20 → ¬ (v.getD 0 val0).n ≠ 0)
include hl hi h h0 h19 h20
theorem st_why (hw : (refM D key g full k told i v).why ≠ 0) : (stepD D key pos stk g told full k i).2 = (refM D key g full k told i v).why := by
 rw [h]; exact (ref_act (D := D) (key := key) (pos := pos) hl hi h0 h19 h20).1 hw
theorem st_push (hw : ¬ (refM D key g full k told i v).why ≠ 0) :
  stepD D key pos stk g told full k i = (⟨pos, false, (pushM rest (refM D key g full k told i v).out).2, (refM D key g full k told i v).g, (refM D key g full k told i v).told, full.drop (refM D key g full k told i v).k⟩, (pushM rest (refM D key g full k told i v).out).1) := by
 rw [h]; exact (ref_act (D := D) (key := key) (pos := pos) hl hi h0 h19 h20).2 (Classical.not_not.1 hw)
theorem st_big {j : Nat} {x : Val} (hw : ¬ (refM D key g full k told i v).why ≠ 0) (hx : (refM D key g full k told i v).out[j]? = some x) (hb : bigV x = true) : (stepD D key pos stk g told full k i).2 = 4 := by
 rw [st_push hl hi h h0 h19 h20 hw]
 show (pushM rest _).1 = 4
 rw [push_big hx hb]
theorem st_full (hw : ¬ (refM D key g full k told i v).why ≠ 0) (hn : ∀ y ∈ (refM D key g full k told i v).out, bigV y = false) (h16 : 16 < rest.length + (refM D key g full k told i v).out.length) : (stepD D key pos stk g told full k i).2 = 1 := by
 rw [st_push hl hi h h0 h19 h20 hw]
 show (pushM rest _).1 = 1
 rw [push_full hn h16]
theorem st_fine (hw : ¬ (refM D key g full k told i v).why ≠ 0) (hn : ∀ y ∈ (refM D key g full k told i v).out, bigV y = false) (h16 : ¬ 16 < rest.length + (refM D key g full k told i v).out.length) :
  StepOk (stepD D key pos stk g told full k i) pos (-1) (rest ++ (refM D key g full k told i v).out) (refM D key g full k told i v).g (refM D key g full k told i v).told full (refM D key g full k told i v).k := by
 unfold StepOk
 rw [st_push hl hi h h0 h19 h20 hw, push_fine hn h16, if_neg (by decide)]
end
theorem ite_k {c : Prop} [Decidable c] {x y : Ref} {n : Nat} (hx : x.k ≤ n) (hy : y.k ≤ n) : (if c then x else y).k ≤ n := by
 split
 ·exact hx
 ·exact hy
theorem ref_k {v : List Val} (hk : k ≤ full.length) : (refM D key g full k told i v).k ≤ full.length := by
 by_cases h7 : i.op = 7
 ·rcases Nat.lt_or_ge k full.length with h | h
  ·rw [rf_7s h7 (List.getElem?_eq_getElem h)]; exact h
  ·rw [rf_7n h7 h]; exact hk
 ·unfold refM
  dsimp only
  rw [if_neg h7]
  repeat (first | exact hk | refine ite_k hk ?_)
theorem fitsB_nil (xs : List Val) : fitsB [] xs = true := by cases xs <;> rfl
theorem ite_o {c : Prop} [Decidable c] {x y : Ref} {n : Nat} (hx : x.out.length ≤ n) (hy : y.out.length ≤ n) : (if c then x else y).out.length ≤ n := by
 split
 ·exact hx
 ·exact hy
theorem ref_out (v : List Val) : (refM D key g full k told i v).out.length ≤ 2 := by
 by_cases h7 : i.op = 7
 ·rcases Nat.lt_or_ge k full.length with h | h
  ·rw [rf_7s h7 (List.getElem?_eq_getElem h)]; exact Nat.le_refl _
  ·rw [rf_7n h7 h]; exact Nat.le_of_ble_eq_true rfl
 ·unfold refM
  dsimp only
  rw [if_neg h7]
  repeat (first | exact Nat.le_of_ble_eq_true rfl | refine ite_o (Nat.le_of_ble_eq_true rfl) ?_)
end
section
variable {D : Dig} {p : List Ins} {key : ByteArray} {m : VM} {i : Ins}
theorem play_halt {k : Nat} (h : m.pos < p.length ∧ m.halted = false) (hi : p[m.pos.toNat]? = some i) (h0 : i.op = 0) : playM D p key (k + 1) m = (⟨m.pos + 1, true, m.stk, m.g, m.told, m.vals⟩, 0) := by
 have e : doesM D key {m with pos := m.pos + 1} i = (⟨m.pos + 1, true, m.stk, m.g, m.told, m.vals⟩, 0) := by
  have hz : (kindsS i.op).size = 0 := by rw [h0]; rfl
  have hz2 : (kindsS i.op).data.toList = [] := by rw [h0]; rfl
  have en := needs_fine (op := i.op) (stk := m.stk) (by rw [hz]; omega) (by rw [hz2, fitsB_nil])
  rw [hz, Nat.sub_zero, List.take_length, List.drop_length] at en
  rw [does_act (m := {m with pos := m.pos + 1}) (by show ¬ (needsM i.op m.stk).1 ≠ 0; rw [en]; exact fun h => h rfl), act_0 h0]
  show (({pos := m.pos + 1, halted := true, stk := (needsM i.op m.stk).2.1, g := m.g, told := m.told, vals := m.vals} : VM), (0 : Int)) = _
  rw [en]
 rw [play_go h hi (by rw [e]; exact fun h => h rfl), e]
 exact play_stop _ (fun h => by have := h.2; cases this)
end
theorem step_is {D : Dig} {key : ByteArray} {m : VM} {i : Ins} {full : List ByteArray} {k : Nat} (h : m.halted = false ∧ m.vals = full.drop k) : doesM D key {m with pos := m.pos + 1} i = stepD D key (m.pos + 1) m.stk m.g m.told full k i := by
 obtain ⟨h1, h2⟩ := h
 cases m
 simp only at h1 h2
 subst h1 h2
 rfl
theorem step_does {D : Dig} {key : ByteArray} {m : VM} {i : Ins} {full : List ByteArray} {k k2 : Nat} {to P : Int} {stk : List Val} {g : Nat → Val} {told : List Pair} (h : m.halted = false ∧ m.vals = full.drop k)
  (hs : StepOk (stepD D key (m.pos + 1) m.stk m.g m.told full k i) (m.pos + 1) to stk g told full k2) (hP : (if 0 ≤ to then to else m.pos + 1) = P) : doesM D key {m with pos := m.pos + 1} i = ((⟨P, false, stk, g, told, full.drop k2⟩ : VM), 0) := by
 rw [step_is h, ← hP]; exact hs
theorem key_all {k : ByteArray} {l : List Pair} (h : ∀ y ∈ l, y.key = k) (h2 : otherKey k l = true) : False := by
 obtain ⟨x, hx, h3⟩ := List.any_eq_true.1 h2
 exact (of_decide_eq_true h3) (h x hx)
theorem key_one {k : ByteArray} {l : List Pair} {i : Nat} {x : Pair} (hx : l[i]? = some x) (h : x.key ≠ k) : otherKey k l = true := List.any_eq_true.2 ⟨x, List.mem_of_getElem? hx, decide_eq_true h⟩
theorem rStep_ok (m : Nat) (sv : Value) (g : Nat → Val) (key : ByteArray) (vv : Value) (k : Nat) (tv : Value) (stk : List Val) (told : List Pair) (full : List ByteArray) (i : Ins) (n pos : Int) (hst : stk.length ≤ 16) (hto : told.length ≤ 40) (hok : (∀ x ∈ stk, OkV x) ∧ ∀ j, OkV (g j)) (hi : goodI i n) (h0 : i.op ≠ 0) (hk : k ≤ full.length) :
    Cn Tryz.prog 120 [.pointer (some ⟨m, 0, none⟩), .agg #[.int .i64 i.op, .int .i64 i.a, .string i.s]] [blk m (machC sv g key vv ((k : Nat) : Int) tv) 154, osl kVal sv stk, osl kPair tv told] [rsl kStr vv full] (fun r Bs => ∃ (to : Int) (sv2 tv2 : Value) (stk2 : List Val) (g2 : Nat → Val) (k2 : Nat) (told2 : List Pair), r = .tuple #[.int .i64 (stepD dg key pos stk g told full k i).2, .int .i64 to] ∧ Bs = [blk m (machC sv2 g2 key vv ((k2 : Nat) : Int) tv2) 154, osl kVal sv2 stk2, osl kPair tv2 told2] ∧ k2 ≤ full.length ∧ ((stepD dg key pos stk g told full k i).2 = 0 → StepOk (stepD dg key pos stk g told full k i) pos to stk2 g2 told2 full k2)) := by
 intro w0 F0 H
 obtain ⟨A1, c2, rfl, hc3, hm4, hp5⟩ := H.fA 1 rfl
 refine enter Tryz.func120 rfl rfl (Nat.le_of_ble_eq_true rfl) (c_seq (c_reg (s_box rfl rfl rfl rfl H (fun b6 w H => (s_k 2 rfl (s_nil (q_then ?_)))))))
 replace H : Hd _ _ _ [blk b6 [.int .i64 i.op, .int .i64 i.a, .string i.s] 29, blk m (machC (.slice A1 stk.length c2) g key vv ((k : Nat) : Int) tv) 154, osl kVal (.slice A1 stk.length c2) stk, osl kPair tv told] [rsl kStr vv full] := H
 refine c_seq (c_reg (s_val rfl rfl (r_fa rfl fo29_0 rfl) (s_val rfl rfl (r_ld rfl ty3 rfl (H.cellI 0 rfl rfl)) (sc (rKinds_ok i.op) H l0 rfl rfl (e_fn kn133 rfl rfl) ?_))))
 rintro _ _ w ⟨rfl, rfl⟩ H
 refine s_1 rfl (s_nil (q_then (c_seq ?_)))
 have hkz : (kindsR i.op).size ≤ 3 := kinds_len i.op
 refine c_reg (s_1 rfl (s_val rfl rfl (r_nilP rfl rfl) (s_val rfl rfl (r_fa rfl fo154_0 rfl) (s_val rfl rfl (r_ld rfl ty102 rfl (H.cellI 1 rfl rfl)) (s_val rfl rfl (r_lenL rfl un102 rfl) (s_1 rfl (s_val rfl rfl (r_lenS rfl un9 rfl) (s_val rfl rfl (r_sub (z := ((stk.length : Nat) : Int) - (((kindsR i.op).size : Nat) : Int)) rfl rfl rfl (w64 (by omega) (by omega))) (s_1 rfl (s_nil (q_then (c_seq (c_seq (c_reg (s_1 rfl (s_val rfl rfl (r_lt rfl rfl rfl) (s_nil (q_then ?_))))))))))))))))))
 refine c_dec rfl (fun h7 => ?_) (fun h7 => ?_)
 ·refine c_seq (c_reg (s_k 2 rfl (s_nil (q_then (c_ret (q_thenR (q_ret2 rfl rfl rfl ?_)))))))
  replace H := H.sel 4 [1, 2, 3] [0] rfl (by kernel_rfl)
  replace H : Hd _ _ _ [blk m (machC (.slice A1 stk.length c2) g key vv ((k : Nat) : Int) tv) 154, osl kVal (.slice A1 stk.length c2) stk, osl kPair tv told] [rsl kStr vv full] := H
  have e := st_under (D := dg) (key := key) (pos := pos) (g := g) (told := told) (full := full) (k := k) (i := i) (stk := stk) (by omega)
  exact fin ⟨-1, _, _, _, _, _, _, by rw [e] <;> rfl, rfl, hk, fun h => by rw [e] at h; exact absurd h (by decide)⟩ H
 refine c_skip (q_then (c_seq ?_))
 have hlo : ((stk.length : Nat) : Int) - (((kindsR i.op).size : Nat) : Int) = ((stk.length - (kindsR i.op).size : Nat) : Int) := by omega
 rw [hlo]
 have hdl : (stk.drop (stk.length - (kindsR i.op).size)).length = (kindsR i.op).size := by rw [List.length_drop]; omega
 have htl : (stk.take (stk.length - (kindsR i.op).size)).length = stk.length - (kindsR i.op).size := by rw [List.length_take]; omega
 refine c_reg (s_1 rfl (s_val rfl rfl (r_nilP rfl rfl) (s_val rfl rfl (r_fa rfl fo154_0 rfl) (s_val rfl rfl (r_ld rfl ty102 rfl (H.cellI 1 rfl rfl)) (s_1 rfl (s_val rfl rfl (r_cutS rfl sl102 rfl rfl (by omega) (by omega) rfl) ?_))))))
 replace H := H.newnil kVal
 refine s_appF (xs := []) (ys := stk.drop (stk.length - (kindsR i.op).size)) rfl rfl rfl sl102 zr104 rfl (by decide) rfl rfl H (by first | omega | (simp only [List.length_nil]; omega)) (fun F hA hR => rsl_suf (own_rd F (hA _ (List.mem_of_getElem? (i := 2) rfl))) (i := stk.length - (kindsR i.op).size) (by omega)) (fun v8 w H => (s_1 rfl (s_nil (q_then ?_))))
 replace H : Hd _ _ _ [osl kVal v8 ([] ++ (stk.drop (stk.length - (kindsR i.op).size))), blk b6 [.int .i64 i.op, .int .i64 i.a, .string i.s] 29, blk m (machC (.slice A1 stk.length c2) g key vv ((k : Nat) : Int) tv) 154, osl kVal (.slice A1 stk.length c2) stk, osl kPair tv told] [rsl kStr vv full] := H
 refine c_seq (c_seq (c_reg (s_1 rfl (s_nil (q_then (c_block ?_))))))
 replace H := H.h1 (A := osl kVal v8 (stk.drop (stk.length - (kindsR i.op).size))) |>.p4 |>.p4 |>.p2 |>.p4
 refine c_loop (σ := Nat) (fun j => [(0, .pointer (some ⟨m, 0, none⟩)), (3, .pointer (some ⟨b6, 0, none⟩)), (6, .string (kindsR i.op)), (7, .int .i64 ((stk.length - (kindsR i.op).size : Nat) : Int)), (8, v8), (9, .int .i64 ((j : Nat) : Int))]) (fun j w => (Hd w0 F0 w [blk m (machC (.slice A1 stk.length c2) g key vv ((k : Nat) : Int) tv) 154, osl kVal v8 (stk.drop (stk.length - (kindsR i.op).size)), osl kVal (.slice A1 stk.length c2) stk, osl kPair tv told, blk b6 [.int .i64 i.op, .int .i64 i.a, .string i.s] 29] [rsl kStr vv full]) ∧ (j ≤ (kindsR i.op).size) ∧ (fitsR ((kindsR i.op).data.toList.drop j) ((stk.drop (stk.length - (kindsR i.op).size)).drop j) = fitsR (kindsR i.op).data.toList (stk.drop (stk.length - (kindsR i.op).size)))) (fun j => (kindsR i.op).size - j) 0 ⟨rfl, rfl, rfl, rfl, rfl, rfl, trivial⟩ ⟨H, Nat.zero_le _, rfl⟩ ?_
 rintro j w ⟨H, hj, hf⟩
 refine c_seq (c_seq (c_reg (s_k 2 rfl ?_)))
 obtain ⟨A9, c10, rfl, hc11, hm12, hp13⟩ := H.fA 1 rfl
 refine s_val rfl rfl (r_lenL rfl un102 rfl) (s_val rfl rfl (r_lt rfl rfl rfl) (s_nil (q_then ?_)))
 refine c_dec rfl (fun h14 => ?_) (fun h14 => ?_)
 ·refine c_skip (q_then (c_seq (c_block (c_seq ?_))))
  obtain ⟨x15, hx16⟩ : ∃ z9, (stk.drop (stk.length - (kindsR i.op).size))[j]? = some z9 := ⟨_, List.getElem?_eq_getElem (show j < (stk.drop (stk.length - (kindsR i.op).size)).length by omega)⟩
  refine c_reg (s_k 2 rfl ?_)
  obtain ⟨c17, hb18⟩ : ∃ c0, (kindsR i.op)[j]? = some c0 := ⟨_, getElem?_pos (kindsR i.op) j (by omega)⟩
  refine s_val rfl rfl (r_idxS rfl un9 rfl rfl (by omega) hb18) (s_val rfl rfl (r_eq rfl rfl rfl) (s_1 rfl ?_))
  refine s_dec (d := 43) rfl (fun h19 => ?_) (fun h19 => ?_)
  ·refine s_k 2 rfl ?_
   have th20 := H.thA 1 rfl hx16
   refine s_val rfl rfl (r_iaE (p := oOf A9 + j * 3) rfl sl102 rfl rfl (by omega) (by omega) th20 rfl) (s_val rfl rfl (r_fa rfl fo104_0 rfl) (s_val rfl rfl (r_ld rfl ty4 rfl (H.elA 1 rfl hx16 (q := 0) rfl rfl)) (s_k 2 rfl ?_)))
   refine s_boo (d := 50) (b := x15.t) rfl (fun h21 => ?_) (fun h21 => ?_)
   ·refine s_k 12 rfl (s_1 rfl (s_nil (q_then (c_yes rfl (c_seq (c_reg (s_k 2 rfl (s_nil (q_then (c_ret (q_blockR (q_thenR (q_thenR (q_blockR (q_thenR (q_ret2 rfl rfl rfl ?_))))))))))))))))
    replace H := H.p3.p3.p2.k3
    have hfit : fitR c17 x15 = false := by rw [fitR_eq]; simp_all
    have e := st_type (D := dg) (key := key) (pos := pos) (g := g) (told := told) (full := full) (k := k) (i := i) (stk := stk) (by omega) (hf.symm.trans (fitsR_no (bytes_get hb18) hx16 hfit))
    exact fin ⟨-1, _, _, _, _, _, _, by rw [e] <;> rfl, rfl, hk, fun h => by rw [e] at h; exact absurd h (by decide)⟩ H
   refine s_k 2 rfl (s_val rfl rfl (r_idxS rfl un9 rfl rfl (by omega) hb18) (s_val rfl rfl (r_eq rfl rfl rfl) (s_1 rfl ?_)))
   refine s_dec (d := 55) rfl (fun h22 => ?_) (fun h22 => ?_)
   ·refine s_k 2 rfl ?_
    have th23 := H.thA 1 rfl hx16
    refine s_val rfl rfl (r_iaE (p := oOf A9 + j * 3) rfl sl102 rfl rfl (by omega) (by omega) th23 rfl) (s_val rfl rfl (r_fa rfl fo104_0 rfl) (s_val rfl rfl (r_ld rfl ty4 rfl (H.elA 1 rfl hx16 (q := 0) rfl rfl)) (s_val rfl rfl (r_not rfl rfl rfl) (s_k 2 rfl (s_nil (q_then ?_))))))
    refine c_cond (b := !x15.t) rfl (fun h24 => ?_) (fun h24 => ?_)
    ·refine c_seq (c_reg (s_k 2 rfl (s_nil (q_then (c_ret (q_blockR (q_thenR (q_thenR (q_blockR (q_thenR (q_ret2 rfl rfl rfl ?_)))))))))))
     replace H := H.p3.p3.p2.k3
     have hfit : fitR c17 x15 = false := by rw [fitR_eq]; simp_all
     have e := st_type (D := dg) (key := key) (pos := pos) (g := g) (told := told) (full := full) (k := k) (i := i) (stk := stk) (by omega) (hf.symm.trans (fitsR_no (bytes_get hb18) hx16 hfit))
     exact fin ⟨-1, _, _, _, _, _, _, by rw [e] <;> rfl, rfl, hk, fun h => by rw [e] at h; exact absurd h (by decide)⟩ H
    refine c_skip (q_blockN (q_then (c_reg (s_1 rfl (s_val rfl rfl (r_add (z := ((j + 1 : Nat) : Int)) rfl rfl rfl (by rw [w64 (by omega) (by omega)]; omega)) (s_1 rfl (s_nil ?_)))))))
    have hfit : fitR c17 x15 = true := by rw [fitR_eq]; simp_all
    have hf2 := (fitsR_go (bytes_get hb18) hx16 hfit).trans hf
    exact q_round (s := j) (j + 1) ⟨rfl, rfl, rfl, rfl, rfl, rfl, trivial⟩ ⟨H, by (try dsimp only); omega, hf2⟩ (by (try dsimp only); omega)
   refine s_k 8 rfl (s_nil (q_then (c_no rfl (c_skip (q_blockN (q_then (c_reg (s_1 rfl (s_val rfl rfl (r_add (z := ((j + 1 : Nat) : Int)) rfl rfl rfl (by rw [w64 (by omega) (by omega)]; omega)) (s_1 rfl (s_nil ?_)))))))))))
   have hfit : fitR c17 x15 = true := by rw [fitR_eq]; simp_all
   have hf2 := (fitsR_go (bytes_get hb18) hx16 hfit).trans hf
   exact q_round (s := j) (j + 1) ⟨rfl, rfl, rfl, rfl, rfl, rfl, trivial⟩ ⟨H, by (try dsimp only); omega, hf2⟩ (by (try dsimp only); omega)
  refine s_k 9 rfl (s_val rfl rfl (r_idxS rfl un9 rfl rfl (by omega) hb18) (s_val rfl rfl (r_eq rfl rfl rfl) (s_1 rfl ?_)))
  refine s_dec (d := 55) rfl (fun h25 => ?_) (fun h25 => ?_)
  ·refine s_k 2 rfl ?_
   have th26 := H.thA 1 rfl hx16
   refine s_val rfl rfl (r_iaE (p := oOf A9 + j * 3) rfl sl102 rfl rfl (by omega) (by omega) th26 rfl) (s_val rfl rfl (r_fa rfl fo104_0 rfl) (s_val rfl rfl (r_ld rfl ty4 rfl (H.elA 1 rfl hx16 (q := 0) rfl rfl)) (s_val rfl rfl (r_not rfl rfl rfl) (s_k 2 rfl (s_nil (q_then ?_))))))
   refine c_cond (b := !x15.t) rfl (fun h27 => ?_) (fun h27 => ?_)
   ·refine c_seq (c_reg (s_k 2 rfl (s_nil (q_then (c_ret (q_blockR (q_thenR (q_thenR (q_blockR (q_thenR (q_ret2 rfl rfl rfl ?_)))))))))))
    replace H := H.p3.p3.p2.k3
    have hfit : fitR c17 x15 = false := by rw [fitR_eq]; simp_all
    have e := st_type (D := dg) (key := key) (pos := pos) (g := g) (told := told) (full := full) (k := k) (i := i) (stk := stk) (by omega) (hf.symm.trans (fitsR_no (bytes_get hb18) hx16 hfit))
    exact fin ⟨-1, _, _, _, _, _, _, by rw [e] <;> rfl, rfl, hk, fun h => by rw [e] at h; exact absurd h (by decide)⟩ H
   refine c_skip (q_blockN (q_then (c_reg (s_1 rfl (s_val rfl rfl (r_add (z := ((j + 1 : Nat) : Int)) rfl rfl rfl (by rw [w64 (by omega) (by omega)]; omega)) (s_1 rfl (s_nil ?_)))))))
   have hfit : fitR c17 x15 = true := by rw [fitR_eq]; simp_all
   have hf2 := (fitsR_go (bytes_get hb18) hx16 hfit).trans hf
   exact q_round (s := j) (j + 1) ⟨rfl, rfl, rfl, rfl, rfl, rfl, trivial⟩ ⟨H, by (try dsimp only); omega, hf2⟩ (by (try dsimp only); omega)
  refine s_k 8 rfl (s_nil (q_then (c_no rfl (c_skip (q_blockN (q_then (c_reg (s_1 rfl (s_val rfl rfl (r_add (z := ((j + 1 : Nat) : Int)) rfl rfl rfl (by rw [w64 (by omega) (by omega)]; omega)) (s_1 rfl (s_nil ?_)))))))))))
  have hfit : fitR c17 x15 = true := by rw [fitR_eq]; simp_all
  have hf2 := (fitsR_go (bytes_get hb18) hx16 hfit).trans hf
  exact q_round (s := j) (j + 1) ⟨rfl, rfl, rfl, rfl, rfl, rfl, trivial⟩ ⟨H, by (try dsimp only); omega, hf2⟩ (by (try dsimp only); omega)
 refine c_exit (q_thenE (q_thenE (q_blockE (q_then (c_seq ?_)))))
 have hact := st_act (D := dg) (key := key) (pos := pos) (g := g) (told := told) (full := full) (k := k) (i := i) (stk := stk) (by omega) (hf.symm.trans (fitsR_end (by omega)))
 refine c_reg (s_k 2 rfl (s_val rfl rfl (r_nilP rfl rfl) (s_val rfl rfl (r_fa rfl fo154_0 rfl) (s_val rfl rfl (r_ld rfl ty102 rfl (H.cellI 0 rfl rfl)) (s_1 rfl (s_val rfl rfl (r_cutP rfl sl102 rfl rfl (by omega) (by omega) rfl) ?_))))))
 replace H := H.newnil kVal
 refine s_appF (xs := []) (ys := stk.take (stk.length - (kindsR i.op).size)) rfl rfl rfl sl102 zr104 rfl (by decide) rfl rfl H (by first | omega | (simp only [List.length_nil]; omega)) (fun F hA hR => rsl_pre (own_rd F (hA _ (List.mem_of_getElem? (i := 2) rfl))) (i := stk.length - (kindsR i.op).size) (by omega)) (fun v28 w H => (s_val rfl rfl (r_nilP rfl rfl) (s_val rfl rfl (r_fa rfl fo154_0 rfl) ?_)))
 obtain ⟨A29, c30, rfl, hc31, hm32, hp33⟩ := H.fA 0 rfl
 replace H := H.p1
 refine s_st rfl rfl rfl ty102 rfl rfl H rfl (Nat.le_of_ble_eq_true rfl) (fun u hu => by simp [Value.cells] at hu; subst hu; rfl) (fun w H => ?_)
 replace H : Hd _ _ _ [blk m (machC (.slice A29 (([] ++ (stk.take (stk.length - (kindsR i.op).size))).length) c30) g key vv ((k : Nat) : Int) tv) 154, osl kVal (.slice A29 (([] ++ (stk.take (stk.length - (kindsR i.op).size))).length) c30) ([] ++ (stk.take (stk.length - (kindsR i.op).size))), osl kVal (.slice A9 ((stk.drop (stk.length - (kindsR i.op).size)).length) c10) (stk.drop (stk.length - (kindsR i.op).size)), osl kVal (.slice A1 stk.length c2) stk, osl kPair tv told, blk b6 [.int .i64 i.op, .int .i64 i.a, .string i.s] 29] [rsl kStr vv full] := H
 refine s_nil (q_then (c_seq (c_seq (c_reg (s_val rfl rfl (r_fa rfl fo29_0 rfl) (s_val rfl rfl (r_ld rfl ty3 rfl (H.cellI 5 rfl rfl)) (s_val rfl rfl (r_eq rfl rfl rfl) (s_1 rfl ?_))))))))
 refine s_dec (d := 77) rfl (fun h34 => ?_) (fun h34 => ?_)
 ·refine s_k 11 rfl (s_nil (q_then (c_yes rfl (c_seq (c_draw mo (by kernel_rfl) H (u_val rfl rfl (fun w H => r_fa rfl fo29_1 rfl) (u_val rfl rfl (fun w H => r_ld rfl ty3 rfl (H.cellI 5 rfl rfl)) (u_k 2 rfl (u_end (fun w H => (q_then (c_ret (q_thenR (q_ret2 rfl rfl rfl ?_))))))))))))))
  replace H := H.sel 6 [0, 1, 4] [2, 3, 5] rfl (by kernel_rfl)
  replace H : Hd _ _ _ [blk m (machC (.slice A29 (([] ++ (stk.take (stk.length - (kindsR i.op).size))).length) c30) g key vv ((k : Nat) : Int) tv) 154, osl kVal (.slice A29 (([] ++ (stk.take (stk.length - (kindsR i.op).size))).length) c30) ([] ++ (stk.take (stk.length - (kindsR i.op).size))), osl kPair tv told] [rsl kStr vv full] := H
  have e := st_jump hi hact (.inl h34)
  exact fin ⟨i.a, _, _, _, _, _, _, by rw [e] <;> rfl, rfl, hk, fun _ => e⟩ H
 refine s_val rfl rfl (r_fa rfl fo29_0 rfl) (s_val rfl rfl (r_ld rfl ty3 rfl (H.cellI 5 rfl rfl)) (s_val rfl rfl (r_eq rfl rfl rfl) (s_1 rfl ?_)))
 refine s_dec (d := 81) rfl (fun h35 => ?_) (fun h35 => ?_)
 ·have hks : (kindsR i.op).size = 1 := by rw [h35]; rfl
  refine s_1 rfl ?_
  obtain ⟨x36, hx37⟩ : ∃ z9, (stk.drop (stk.length - (kindsR i.op).size))[0]? = some z9 := ⟨_, List.getElem?_eq_getElem (show 0 < (stk.drop (stk.length - (kindsR i.op).size)).length by omega)⟩
  have th38 := H.thA 2 rfl hx37
  refine s_val rfl rfl (r_iaE (p := oOf A9 + 0 * 3) rfl sl102 rfl rfl (by omega) (by omega) th38 (by omega)) (s_val rfl rfl (r_fa rfl fo104_1 rfl) (s_val rfl rfl (r_ld rfl ty2 rfl (H.elA 2 rfl hx37 (q := 1) rfl rfl)) (s_val rfl rfl (r_ne rfl rfl rfl) (s_k 2 rfl (s_nil (q_then ?_))))))
  refine c_dec rfl (fun h39 => ?_) (fun h39 => ?_)
  ·refine c_seq (c_draw mo (by kernel_rfl) H (u_val rfl rfl (fun w H => r_fa rfl fo29_1 rfl) (u_val rfl rfl (fun w H => r_ld rfl ty3 rfl (H.cellI 5 rfl rfl)) (u_k 2 rfl (u_end (fun w H => (q_then (c_ret (q_thenR (q_ret2 rfl rfl rfl ?_))))))))))
   replace H := H.sel 6 [0, 1, 4] [2, 3, 5] rfl (by kernel_rfl)
   replace H : Hd _ _ _ [blk m (machC (.slice A29 (([] ++ (stk.take (stk.length - (kindsR i.op).size))).length) c30) g key vv ((k : Nat) : Int) tv) 154, osl kVal (.slice A29 (([] ++ (stk.take (stk.length - (kindsR i.op).size))).length) c30) ([] ++ (stk.take (stk.length - (kindsR i.op).size))), osl kPair tv told] [rsl kStr vv full] := H
   have e := st_jump hi hact (.inr ⟨h35, by rw [getD_at hx37]; exact h39⟩)
   exact fin ⟨i.a, _, _, _, _, _, _, by rw [e] <;> rfl, rfl, hk, fun _ => e⟩ H
  refine c_skip (q_then (c_seq (c_reg (s_1 rfl (s_val rfl rfl (r_ldA (cs := [.int .i64 i.op, .int .i64 i.a, .string i.s]) rfl ty29 rfl rfl (H.cellsI 5 rfl rfl)) (s_1 rfl ?_))))))
  replace H := H.p4.p1
  have hav : (∀ x ∈ stk.drop (stk.length - (kindsR i.op).size), OkV x) ∧ ∀ j, OkV (g j) := ⟨fun x hx => hok.1 x (List.mem_of_mem_drop hx), hok.2⟩
  have hrl : (stk.take (stk.length - (kindsR i.op).size)).length ≤ 16 := by omega
  have h20 : i.op = 20 → ¬ ((stk.drop (stk.length - (kindsR i.op).size)).getD 0 val0).n ≠ 0 := fun _ => by rw [getD_at hx37]; exact h39
  have hro := ref_out (D := dg) (key := key) (g := g) (told := told) (full := full) (k := k) (i := i) (stk.drop (stk.length - (kindsR i.op).size))
  have hrl0 : ([] ++ (stk.take (stk.length - (kindsR i.op).size))).length = (stk.take (stk.length - (kindsR i.op).size)).length := rfl
  refine sc (rDoes_ok m (.slice A29 (([] ++ (stk.take (stk.length - (kindsR i.op).size))).length) c30) g key vv k tv told full (.slice A9 ((stk.drop (stk.length - (kindsR i.op).size)).length) c10) (stk.drop (stk.length - (kindsR i.op).size)) i n hto hav hi (by rw [hdl]; exact kinds_size _) hk) H (lA 1 rfl own_rd (lR 0 rfl l0)) rfl rfl (e_fn kn134 rfl rfl) ?_
  rintro _ _ w ⟨u40, t41, rfl, rfl⟩ H
  replace H := H.h3 (A := blk m (machC (.slice A29 (([] ++ (stk.take (stk.length - (kindsR i.op).size))).length) c30) ((refM dg key g full k told i (stk.drop (stk.length - (kindsR i.op).size))).g) key vv (((refM dg key g full k told i (stk.drop (stk.length - (kindsR i.op).size))).k : Nat) : Int) t41) 154) (B := osl kPair t41 ((refM dg key g full k told i (stk.drop (stk.length - (kindsR i.op).size))).told)) (C := osl kVal u40 ((refM dg key g full k told i (stk.drop (stk.length - (kindsR i.op).size))).out))
  refine s_k 5 rfl (s_nil (q_then (c_seq (c_seq (c_reg (s_1 rfl (s_val rfl rfl (r_ne rfl rfl rfl) (s_nil (q_then ?_)))))))))
  refine c_dec rfl (fun h42 => ?_) (fun h42 => ?_)
  ·refine c_seq (c_reg (s_k 3 rfl (s_nil (q_then (c_ret (q_thenR (q_ret2 rfl rfl rfl ?_)))))))
   replace H := H.p3.p1.k3
   have e := st_why hrl hi hact h0 h34 h20 h42
   exact fin ⟨-1, _, _, _, _, _, _, by rw [e] <;> rfl, rfl, ref_k hk, fun h => absurd (e.symm.trans h) h42⟩ H
  refine c_skip (q_then (c_seq (c_seq (c_reg (s_1 rfl (s_nil (q_then (c_block ?_))))))))
  obtain ⟨A43, c44, rfl, hc45, hm46, hp47⟩ := H.fA 2 rfl
  replace H := H.p3.p1.k4
  refine c_loop (σ := Nat) (fun j => [(0, .pointer (some ⟨m, 0, none⟩)), (10, .slice A43 (((refM dg key g full k told i (stk.drop (stk.length - (kindsR i.op).size))).out).length) c44), (12, .int .i64 ((j : Nat) : Int))]) (fun j w => (Hd w0 F0 w [blk m (machC (.slice A29 (([] ++ (stk.take (stk.length - (kindsR i.op).size))).length) c30) ((refM dg key g full k told i (stk.drop (stk.length - (kindsR i.op).size))).g) key vv (((refM dg key g full k told i (stk.drop (stk.length - (kindsR i.op).size))).k : Nat) : Int) t41) 154, osl kVal (.slice A29 (([] ++ (stk.take (stk.length - (kindsR i.op).size))).length) c30) ([] ++ (stk.take (stk.length - (kindsR i.op).size))), osl kPair t41 ((refM dg key g full k told i (stk.drop (stk.length - (kindsR i.op).size))).told), osl kVal (.slice A43 (((refM dg key g full k told i (stk.drop (stk.length - (kindsR i.op).size))).out).length) c44) ((refM dg key g full k told i (stk.drop (stk.length - (kindsR i.op).size))).out)] [rsl kStr vv full]) ∧ (j ≤ (refM dg key g full k told i (stk.drop (stk.length - (kindsR i.op).size))).out.length) ∧ (∀ y ∈ ((refM dg key g full k told i (stk.drop (stk.length - (kindsR i.op).size))).out).take j, bigV y = false)) (fun j => (refM dg key g full k told i (stk.drop (stk.length - (kindsR i.op).size))).out.length - j) 0 ⟨rfl, rfl, rfl, trivial⟩ ⟨H, Nat.zero_le _, by (try dsimp only); simp⟩ ?_
  rintro j w ⟨H, hj, hn⟩
  refine c_seq (c_seq (c_reg (s_k 2 rfl (s_val rfl rfl (r_lenL rfl un102 rfl) (s_val rfl rfl (r_lt rfl rfl rfl) (s_nil (q_then ?_)))))))
  refine c_dec rfl (fun h48 => ?_) (fun h48 => ?_)
  ·refine c_skip (q_then (c_seq (c_block (c_seq (c_reg (s_k 2 rfl ?_))))))
   obtain ⟨x49, hx50⟩ : ∃ z9, ((refM dg key g full k told i (stk.drop (stk.length - (kindsR i.op).size))).out)[j]? = some z9 := ⟨_, List.getElem?_eq_getElem (show j < ((refM dg key g full k told i (stk.drop (stk.length - (kindsR i.op).size))).out).length by omega)⟩
   have th51 := H.thA 3 rfl hx50
   refine s_val rfl rfl (r_iaE (p := oOf A43 + j * 3) rfl sl102 rfl rfl (by omega) (by omega) th51 rfl) (s_val rfl rfl (r_fa rfl fo104_0 rfl) (s_val rfl rfl (r_ld rfl ty4 rfl (H.elA 3 rfl hx50 (q := 0) rfl rfl)) (s_1 rfl ?_)))
   refine s_boo (d := 112) (b := x49.t) rfl (fun h52 => ?_) (fun h52 => ?_)
   ·refine s_k 2 rfl ?_
    have th53 := H.thA 3 rfl hx50
    refine s_val rfl rfl (r_iaE (p := oOf A43 + j * 3) rfl sl102 rfl rfl (by omega) (by omega) th53 rfl) (s_val rfl rfl (r_fa rfl fo104_2 rfl) (s_val rfl rfl (r_ld rfl ty9 rfl (H.elA 3 rfl hx50 (q := 2) rfl rfl)) (s_val rfl rfl (r_lenS rfl un9 rfl) (s_val rfl rfl (r_gt rfl rfl rfl) (s_1 rfl (s_nil (q_then ?_)))))))
    refine c_dec rfl (fun h54 => ?_) (fun h54 => ?_)
    ·refine c_seq (c_reg (s_k 2 rfl (s_nil (q_then (c_ret (q_blockR (q_thenR (q_thenR (q_blockR (q_thenR (q_ret2 rfl rfl rfl ?_)))))))))))
     replace H := H.k3
     have e := st_big hrl hi hact h0 h34 h20 h42 hx50 (big_yes h52 h54)
     exact fin ⟨-1, _, _, _, _, _, _, by rw [e] <;> rfl, rfl, ref_k hk, fun h => by rw [e] at h; exact absurd h (by decide)⟩ H
    exact c_skip (q_blockN (q_then (c_reg (s_1 rfl (s_val rfl rfl (r_add (z := ((j + 1 : Nat) : Int)) rfl rfl rfl (by rw [w64 (by omega) (by omega)]; omega)) (s_1 rfl (s_nil (q_round (s := j) (j + 1) ⟨rfl, rfl, rfl, trivial⟩ ⟨H, by (try dsimp only); omega, take_prop hn hx50 (big_no (.inr h54))⟩ (by (try dsimp only); omega)))))))))
   exact s_k 8 rfl (s_nil (q_then (c_no rfl (c_skip (q_blockN (q_then (c_reg (s_1 rfl (s_val rfl rfl (r_add (z := ((j + 1 : Nat) : Int)) rfl rfl rfl (by rw [w64 (by omega) (by omega)]; omega)) (s_1 rfl (s_nil (q_round (s := j) (j + 1) ⟨rfl, rfl, rfl, trivial⟩ ⟨H, by (try dsimp only); omega, take_prop hn hx50 (big_no (.inl h52))⟩ (by (try dsimp only); omega)))))))))))))
  refine c_exit (q_thenE (q_thenE (q_blockE (q_then (c_seq (c_seq (c_reg (s_1 rfl (s_val rfl rfl (r_nilP rfl rfl) (s_val rfl rfl (r_fa rfl fo154_0 rfl) (s_val rfl rfl (r_ld rfl ty102 rfl (H.cellI 0 rfl rfl)) (s_val rfl rfl (r_lenL rfl un102 rfl) (s_1 rfl (s_val rfl rfl (r_lenL rfl un102 rfl) (s_val rfl rfl (r_add (z := (((([] ++ (stk.take (stk.length - (kindsR i.op).size))).length) + (((refM dg key g full k told i (stk.drop (stk.length - (kindsR i.op).size))).out).length) : Nat) : Int)) rfl rfl rfl (by rw [w64 (by omega) (by omega)]; omega)) (s_val rfl rfl (r_gt rfl rfl rfl) (s_nil (q_then ?_))))))))))))))))))
  refine c_dec rfl (fun h55 => ?_) (fun h55 => ?_)
  ·refine c_seq (c_reg (s_k 2 rfl (s_nil (q_then (c_ret (q_thenR (q_ret2 rfl rfl rfl ?_)))))))
   replace H := H.k3
   have e := st_full hrl hi hact h0 h34 h20 h42 (by rw [List.take_of_length_le (by omega)] at hn; exact hn) (by omega)
   exact fin ⟨-1, _, _, _, _, _, _, by rw [e] <;> rfl, rfl, ref_k hk, fun h => by rw [e] at h; exact absurd h (by decide)⟩ H
  refine c_skip (q_then (c_seq (c_reg (s_k 2 rfl (s_val rfl rfl (r_nilP rfl rfl) (s_val rfl rfl (r_fa rfl fo154_0 rfl) (s_val rfl rfl (r_ld rfl ty102 rfl (H.cellI 0 rfl rfl)) (s_1 rfl ?_))))))))
  replace H := H.p1
  refine s_appF (xs := [] ++ (stk.take (stk.length - (kindsR i.op).size))) (ys := (refM dg key g full k told i (stk.drop (stk.length - (kindsR i.op).size))).out) rfl rfl rfl sl102 zr104 rfl (by decide) rfl rfl H (by first | omega | (simp only [List.length_nil]; omega)) (fun F hA hR => own_rd F (hA _ (List.mem_of_getElem? (i := 2) rfl))) (fun v56 w H => (s_val rfl rfl (r_nilP rfl rfl) (s_val rfl rfl (r_fa rfl fo154_0 rfl) ?_)))
  obtain ⟨A57, c58, rfl, hc59, hm60, hp61⟩ := H.fA 0 rfl
  replace H := H.p1
  refine s_st rfl rfl rfl ty102 rfl rfl H rfl (Nat.le_of_ble_eq_true rfl) (fun u hu => by simp [Value.cells] at hu; subst hu; rfl) (fun w H => ?_)
  replace H : Hd _ _ _ [blk m (machC (.slice A57 ((([] ++ (stk.take (stk.length - (kindsR i.op).size))) ++ ((refM dg key g full k told i (stk.drop (stk.length - (kindsR i.op).size))).out)).length) c58) ((refM dg key g full k told i (stk.drop (stk.length - (kindsR i.op).size))).g) key vv (((refM dg key g full k told i (stk.drop (stk.length - (kindsR i.op).size))).k : Nat) : Int) t41) 154, osl kVal (.slice A57 ((([] ++ (stk.take (stk.length - (kindsR i.op).size))) ++ ((refM dg key g full k told i (stk.drop (stk.length - (kindsR i.op).size))).out)).length) c58) (([] ++ (stk.take (stk.length - (kindsR i.op).size))) ++ ((refM dg key g full k told i (stk.drop (stk.length - (kindsR i.op).size))).out)), osl kPair t41 ((refM dg key g full k told i (stk.drop (stk.length - (kindsR i.op).size))).told), osl kVal (.slice A43 (((refM dg key g full k told i (stk.drop (stk.length - (kindsR i.op).size))).out).length) c44) ((refM dg key g full k told i (stk.drop (stk.length - (kindsR i.op).size))).out)] [rsl kStr vv full] := H
  refine s_nil (q_then (c_seq (c_reg (s_k 2 rfl (s_nil (q_then (c_ret (q_ret2 rfl rfl rfl ?_))))))))
  replace H := H.k3
  have e := st_fine hrl hi hact h0 h34 h20 h42 (by rw [List.take_of_length_le (by omega)] at hn; exact hn) (by omega)
  exact fin ⟨-1, _, _, _, _, _, _, by rw [e] <;> rfl, rfl, ref_k hk, fun _ => e⟩ H
 refine s_k 7 rfl (s_nil (q_then (c_no rfl (c_skip (q_then (c_seq (c_reg (s_1 rfl (s_val rfl rfl (r_ldA (cs := [.int .i64 i.op, .int .i64 i.a, .string i.s]) rfl ty29 rfl rfl (H.cellsI 5 rfl rfl)) (s_1 rfl ?_))))))))))
 replace H := H.p4.p1
 have hav : (∀ x ∈ stk.drop (stk.length - (kindsR i.op).size), OkV x) ∧ ∀ j, OkV (g j) := ⟨fun x hx => hok.1 x (List.mem_of_mem_drop hx), hok.2⟩
 have hrl : (stk.take (stk.length - (kindsR i.op).size)).length ≤ 16 := by omega
 have h20 : i.op = 20 → ¬ ((stk.drop (stk.length - (kindsR i.op).size)).getD 0 val0).n ≠ 0 := fun h => absurd h h35
 have hro := ref_out (D := dg) (key := key) (g := g) (told := told) (full := full) (k := k) (i := i) (stk.drop (stk.length - (kindsR i.op).size))
 have hrl0 : ([] ++ (stk.take (stk.length - (kindsR i.op).size))).length = (stk.take (stk.length - (kindsR i.op).size)).length := rfl
 refine sc (rDoes_ok m (.slice A29 (([] ++ (stk.take (stk.length - (kindsR i.op).size))).length) c30) g key vv k tv told full (.slice A9 ((stk.drop (stk.length - (kindsR i.op).size)).length) c10) (stk.drop (stk.length - (kindsR i.op).size)) i n hto hav hi (by rw [hdl]; exact kinds_size _) hk) H (lA 1 rfl own_rd (lR 0 rfl l0)) rfl rfl (e_fn kn134 rfl rfl) ?_
 rintro _ _ w ⟨u62, t63, rfl, rfl⟩ H
 replace H := H.h3 (A := blk m (machC (.slice A29 (([] ++ (stk.take (stk.length - (kindsR i.op).size))).length) c30) ((refM dg key g full k told i (stk.drop (stk.length - (kindsR i.op).size))).g) key vv (((refM dg key g full k told i (stk.drop (stk.length - (kindsR i.op).size))).k : Nat) : Int) t63) 154) (B := osl kPair t63 ((refM dg key g full k told i (stk.drop (stk.length - (kindsR i.op).size))).told)) (C := osl kVal u62 ((refM dg key g full k told i (stk.drop (stk.length - (kindsR i.op).size))).out))
 refine s_k 5 rfl (s_nil (q_then (c_seq (c_seq (c_reg (s_1 rfl (s_val rfl rfl (r_ne rfl rfl rfl) (s_nil (q_then ?_)))))))))
 refine c_dec rfl (fun h64 => ?_) (fun h64 => ?_)
 ·refine c_seq (c_reg (s_k 3 rfl (s_nil (q_then (c_ret (q_thenR (q_ret2 rfl rfl rfl ?_)))))))
  replace H := H.p3.p1.k3
  have e := st_why hrl hi hact h0 h34 h20 h64
  exact fin ⟨-1, _, _, _, _, _, _, by rw [e] <;> rfl, rfl, ref_k hk, fun h => absurd (e.symm.trans h) h64⟩ H
 refine c_skip (q_then (c_seq (c_seq (c_reg (s_1 rfl (s_nil (q_then (c_block ?_))))))))
 obtain ⟨A65, c66, rfl, hc67, hm68, hp69⟩ := H.fA 2 rfl
 replace H := H.p3.p1.k4
 refine c_loop (σ := Nat) (fun j => [(0, .pointer (some ⟨m, 0, none⟩)), (10, .slice A65 (((refM dg key g full k told i (stk.drop (stk.length - (kindsR i.op).size))).out).length) c66), (12, .int .i64 ((j : Nat) : Int))]) (fun j w => (Hd w0 F0 w [blk m (machC (.slice A29 (([] ++ (stk.take (stk.length - (kindsR i.op).size))).length) c30) ((refM dg key g full k told i (stk.drop (stk.length - (kindsR i.op).size))).g) key vv (((refM dg key g full k told i (stk.drop (stk.length - (kindsR i.op).size))).k : Nat) : Int) t63) 154, osl kVal (.slice A29 (([] ++ (stk.take (stk.length - (kindsR i.op).size))).length) c30) ([] ++ (stk.take (stk.length - (kindsR i.op).size))), osl kPair t63 ((refM dg key g full k told i (stk.drop (stk.length - (kindsR i.op).size))).told), osl kVal (.slice A65 (((refM dg key g full k told i (stk.drop (stk.length - (kindsR i.op).size))).out).length) c66) ((refM dg key g full k told i (stk.drop (stk.length - (kindsR i.op).size))).out)] [rsl kStr vv full]) ∧ (j ≤ (refM dg key g full k told i (stk.drop (stk.length - (kindsR i.op).size))).out.length) ∧ (∀ y ∈ ((refM dg key g full k told i (stk.drop (stk.length - (kindsR i.op).size))).out).take j, bigV y = false)) (fun j => (refM dg key g full k told i (stk.drop (stk.length - (kindsR i.op).size))).out.length - j) 0 ⟨rfl, rfl, rfl, trivial⟩ ⟨H, Nat.zero_le _, by (try dsimp only); simp⟩ ?_
 rintro j w ⟨H, hj, hn⟩
 refine c_seq (c_seq (c_reg (s_k 2 rfl (s_val rfl rfl (r_lenL rfl un102 rfl) (s_val rfl rfl (r_lt rfl rfl rfl) (s_nil (q_then ?_)))))))
 refine c_dec rfl (fun h70 => ?_) (fun h70 => ?_)
 ·refine c_skip (q_then (c_seq (c_block (c_seq (c_reg (s_k 2 rfl ?_))))))
  obtain ⟨x71, hx72⟩ : ∃ z9, ((refM dg key g full k told i (stk.drop (stk.length - (kindsR i.op).size))).out)[j]? = some z9 := ⟨_, List.getElem?_eq_getElem (show j < ((refM dg key g full k told i (stk.drop (stk.length - (kindsR i.op).size))).out).length by omega)⟩
  have th73 := H.thA 3 rfl hx72
  refine s_val rfl rfl (r_iaE (p := oOf A65 + j * 3) rfl sl102 rfl rfl (by omega) (by omega) th73 rfl) (s_val rfl rfl (r_fa rfl fo104_0 rfl) (s_val rfl rfl (r_ld rfl ty4 rfl (H.elA 3 rfl hx72 (q := 0) rfl rfl)) (s_1 rfl ?_)))
  refine s_boo (d := 112) (b := x71.t) rfl (fun h74 => ?_) (fun h74 => ?_)
  ·refine s_k 2 rfl ?_
   have th75 := H.thA 3 rfl hx72
   refine s_val rfl rfl (r_iaE (p := oOf A65 + j * 3) rfl sl102 rfl rfl (by omega) (by omega) th75 rfl) (s_val rfl rfl (r_fa rfl fo104_2 rfl) (s_val rfl rfl (r_ld rfl ty9 rfl (H.elA 3 rfl hx72 (q := 2) rfl rfl)) (s_val rfl rfl (r_lenS rfl un9 rfl) (s_val rfl rfl (r_gt rfl rfl rfl) (s_1 rfl (s_nil (q_then ?_)))))))
   refine c_dec rfl (fun h76 => ?_) (fun h76 => ?_)
   ·refine c_seq (c_reg (s_k 2 rfl (s_nil (q_then (c_ret (q_blockR (q_thenR (q_thenR (q_blockR (q_thenR (q_ret2 rfl rfl rfl ?_)))))))))))
    replace H := H.k3
    have e := st_big hrl hi hact h0 h34 h20 h64 hx72 (big_yes h74 h76)
    exact fin ⟨-1, _, _, _, _, _, _, by rw [e] <;> rfl, rfl, ref_k hk, fun h => by rw [e] at h; exact absurd h (by decide)⟩ H
   exact c_skip (q_blockN (q_then (c_reg (s_1 rfl (s_val rfl rfl (r_add (z := ((j + 1 : Nat) : Int)) rfl rfl rfl (by rw [w64 (by omega) (by omega)]; omega)) (s_1 rfl (s_nil (q_round (s := j) (j + 1) ⟨rfl, rfl, rfl, trivial⟩ ⟨H, by (try dsimp only); omega, take_prop hn hx72 (big_no (.inr h76))⟩ (by (try dsimp only); omega)))))))))
  exact s_k 8 rfl (s_nil (q_then (c_no rfl (c_skip (q_blockN (q_then (c_reg (s_1 rfl (s_val rfl rfl (r_add (z := ((j + 1 : Nat) : Int)) rfl rfl rfl (by rw [w64 (by omega) (by omega)]; omega)) (s_1 rfl (s_nil (q_round (s := j) (j + 1) ⟨rfl, rfl, rfl, trivial⟩ ⟨H, by (try dsimp only); omega, take_prop hn hx72 (big_no (.inl h74))⟩ (by (try dsimp only); omega)))))))))))))
 refine c_exit (q_thenE (q_thenE (q_blockE (q_then (c_seq (c_seq (c_reg (s_1 rfl (s_val rfl rfl (r_nilP rfl rfl) (s_val rfl rfl (r_fa rfl fo154_0 rfl) (s_val rfl rfl (r_ld rfl ty102 rfl (H.cellI 0 rfl rfl)) (s_val rfl rfl (r_lenL rfl un102 rfl) (s_1 rfl (s_val rfl rfl (r_lenL rfl un102 rfl) (s_val rfl rfl (r_add (z := (((([] ++ (stk.take (stk.length - (kindsR i.op).size))).length) + (((refM dg key g full k told i (stk.drop (stk.length - (kindsR i.op).size))).out).length) : Nat) : Int)) rfl rfl rfl (by rw [w64 (by omega) (by omega)]; omega)) (s_val rfl rfl (r_gt rfl rfl rfl) (s_nil (q_then ?_))))))))))))))))))
 refine c_dec rfl (fun h77 => ?_) (fun h77 => ?_)
 ·refine c_seq (c_reg (s_k 2 rfl (s_nil (q_then (c_ret (q_thenR (q_ret2 rfl rfl rfl ?_)))))))
  replace H := H.k3
  have e := st_full hrl hi hact h0 h34 h20 h64 (by rw [List.take_of_length_le (by omega)] at hn; exact hn) (by omega)
  exact fin ⟨-1, _, _, _, _, _, _, by rw [e] <;> rfl, rfl, ref_k hk, fun h => by rw [e] at h; exact absurd h (by decide)⟩ H
 refine c_skip (q_then (c_seq (c_reg (s_k 2 rfl (s_val rfl rfl (r_nilP rfl rfl) (s_val rfl rfl (r_fa rfl fo154_0 rfl) (s_val rfl rfl (r_ld rfl ty102 rfl (H.cellI 0 rfl rfl)) (s_1 rfl ?_))))))))
 replace H := H.p1
 refine s_appF (xs := [] ++ (stk.take (stk.length - (kindsR i.op).size))) (ys := (refM dg key g full k told i (stk.drop (stk.length - (kindsR i.op).size))).out) rfl rfl rfl sl102 zr104 rfl (by decide) rfl rfl H (by first | omega | (simp only [List.length_nil]; omega)) (fun F hA hR => own_rd F (hA _ (List.mem_of_getElem? (i := 2) rfl))) (fun v78 w H => (s_val rfl rfl (r_nilP rfl rfl) (s_val rfl rfl (r_fa rfl fo154_0 rfl) ?_)))
 obtain ⟨A79, c80, rfl, hc81, hm82, hp83⟩ := H.fA 0 rfl
 replace H := H.p1
 refine s_st rfl rfl rfl ty102 rfl rfl H rfl (Nat.le_of_ble_eq_true rfl) (fun u hu => by simp [Value.cells] at hu; subst hu; rfl) (fun w H => ?_)
 replace H : Hd _ _ _ [blk m (machC (.slice A79 ((([] ++ (stk.take (stk.length - (kindsR i.op).size))) ++ ((refM dg key g full k told i (stk.drop (stk.length - (kindsR i.op).size))).out)).length) c80) ((refM dg key g full k told i (stk.drop (stk.length - (kindsR i.op).size))).g) key vv (((refM dg key g full k told i (stk.drop (stk.length - (kindsR i.op).size))).k : Nat) : Int) t63) 154, osl kVal (.slice A79 ((([] ++ (stk.take (stk.length - (kindsR i.op).size))) ++ ((refM dg key g full k told i (stk.drop (stk.length - (kindsR i.op).size))).out)).length) c80) (([] ++ (stk.take (stk.length - (kindsR i.op).size))) ++ ((refM dg key g full k told i (stk.drop (stk.length - (kindsR i.op).size))).out)), osl kPair t63 ((refM dg key g full k told i (stk.drop (stk.length - (kindsR i.op).size))).told), osl kVal (.slice A65 (((refM dg key g full k told i (stk.drop (stk.length - (kindsR i.op).size))).out).length) c66) ((refM dg key g full k told i (stk.drop (stk.length - (kindsR i.op).size))).out)] [rsl kStr vv full] := H
 refine s_nil (q_then (c_seq (c_reg (s_k 2 rfl (s_nil (q_then (c_ret (q_ret2 rfl rfl rfl ?_))))))))
 replace H := H.k3
 have e := st_fine hrl hi hact h0 h34 h20 h64 (by rw [List.take_of_length_le (by omega)] at hn; exact hn) (by omega)
 exact fin ⟨-1, _, _, _, _, _, _, by rw [e] <;> rfl, rfl, ref_k hk, fun _ => e⟩ H
theorem rRun0_ok (vp : Value) (p : List Ins) (key : ByteArray) (vv : Value) (vals : List ByteArray) (fuel : Int) (hpa : ∀ i ∈ p, In64 i.a) (hfu : In64 fuel) :
    Cn Tryz.prog 91 [vp, .string key, vv, .int .i64 fuel] [] [rsl kIns vp p, rsl kStr vv vals] (fun v Bs => ∃ u : Value, ∃ dn : Int, v = .tuple #[u, .int .i64 ((runM dg p key vals fuel).2), .int .i64 dn] ∧ Bs = [osl kPair u ((runM dg p key vals fuel).1)]) := by
 intro w0 F0 H
 obtain ⟨A1, c2, rfl, hc3, hm4, hp5⟩ := H.fR 0 rfl
 obtain ⟨A6, c7, rfl, hc8, hm9, hp10⟩ := H.fR 1 rfl
 refine enter Tryz.func91 rfl rfl (Nat.le_of_ble_eq_true rfl) (c_seq (c_reg (s_k 3 rfl (s_nil (q_then ?_)))))
 replace H : Hd _ _ _ [] [rsl kIns (.slice A1 p.length c2) p, rsl kStr (.slice A6 vals.length c7) vals] := H
 refine c_seq (c_seq (c_reg (s_1 rfl (sc (rbad_ok (.slice A1 p.length c2) p) H (lR 0 rfl l0) rfl rfl (e_fn kn119 rfl rfl) ?_))))
 rintro _ _ w ⟨rfl, rfl⟩ H
 refine s_val rfl rfl (r_ge rfl rfl rfl) (s_1 rfl ?_)
 refine s_dec (d := 19) rfl (fun h11 => ?_) (fun h11 => ?_)
 ·refine s_k 3 rfl (s_nil (q_then (c_yes rfl (c_seq (c_reg (s_k 3 rfl (s_nil (q_then (c_ret (q_thenR (q_ret3 rfl rfl rfl rfl ?_)))))))))))
  have e : runM dg p key vals fuel = ([], 2) := if_pos (by omega)
  replace H := H.newnil kPair
  replace H : Hd _ _ _ [osl kPair (.slice none 0 0) []] [rsl kIns (.slice A1 p.length c2) p, rsl kStr (.slice A6 vals.length c7) vals] := H
  exact fin ⟨(.slice none 0 0), 0, by rw [e] <;> rfl, by rw [e] <;> rfl⟩ H
 refine s_1 rfl (s_val rfl rfl (r_lt rfl rfl rfl) (s_1 rfl (s_nil (q_then ?_))))
 refine c_dec rfl (fun h12 => ?_) (fun h12 => ?_)
 ·refine c_seq (c_reg (s_k 3 rfl (s_nil (q_then (c_ret (q_thenR (q_ret3 rfl rfl rfl rfl ?_)))))))
  have e : runM dg p key vals fuel = ([], 2) := if_pos (by omega)
  replace H := H.newnil kPair
  replace H : Hd _ _ _ [osl kPair (.slice none 0 0) []] [rsl kIns (.slice A1 p.length c2) p, rsl kStr (.slice A6 vals.length c7) vals] := H
  exact fin ⟨(.slice none 0 0), 0, by rw [e] <;> rfl, by rw [e] <;> rfl⟩ H
 refine c_skip (q_then (c_seq ?_))
 have hbad : badI p < 0 := by omega
 have hgood := may_all hbad
 have hnb : ¬ (¬ badI p < 0 ∨ fuel < 0) := by omega
 refine c_reg (s_k 2 rfl (s_val rfl rfl (r_bd (parts := [(2, .tmp 23), (3, .tmp 24)]) (vs := [.string key, .slice A6 vals.length c7]) (cs := [.slice none 0 0, .bool false, .int .i64 0, .string ⟨#[]⟩, .bool false, .int .i64 0, .string ⟨#[]⟩, .bool false, .int .i64 0, .string ⟨#[]⟩, .bool false, .int .i64 0, .string ⟨#[]⟩, .bool false, .int .i64 0, .string ⟨#[]⟩, .bool false, .int .i64 0, .string ⟨#[]⟩, .bool false, .int .i64 0, .string ⟨#[]⟩, .bool false, .int .i64 0, .string ⟨#[]⟩, .string key, .slice A6 vals.length c7, .int .i64 0, .slice none 0 0]) rfl bd154 rfl rfl) (s_alloc rfl rfl rfl zr154 H (fun b13 w H => (s_st rfl rfl rfl ty154 rfl rfl H rfl (Nat.le_of_ble_eq_true rfl) (fun u hu => by simp [Value.cells] at hu; rcases hu with rfl | rfl | rfl | rfl | rfl | rfl | rfl | rfl | rfl | rfl | rfl | rfl | rfl | rfl | rfl | rfl | rfl | rfl | rfl | rfl | rfl | rfl | rfl | rfl | rfl | rfl | rfl | rfl | rfl <;> rfl) (fun w H => ?_))))))
 replace H : Hd _ _ _ [blk b13 [.slice none 0 0, .bool false, .int .i64 0, .string ⟨#[]⟩, .bool false, .int .i64 0, .string ⟨#[]⟩, .bool false, .int .i64 0, .string ⟨#[]⟩, .bool false, .int .i64 0, .string ⟨#[]⟩, .bool false, .int .i64 0, .string ⟨#[]⟩, .bool false, .int .i64 0, .string ⟨#[]⟩, .bool false, .int .i64 0, .string ⟨#[]⟩, .bool false, .int .i64 0, .string ⟨#[]⟩, .string key, .slice A6 vals.length c7, .int .i64 0, .slice none 0 0] 154] [rsl kIns (.slice A1 p.length c2) p, rsl kStr (.slice A6 vals.length c7) vals] := H
 refine s_nil (q_then (c_seq (c_reg (s_k 2 rfl (s_nil (q_then (c_seq (c_block ?_))))))))
 replace H := (H.newnil kPair).newnil kVal
 replace H := (H.pick 2 rfl)
 replace H := H.h3 (A := blk b13 (machC (.slice none 0 0) (fun _ => val0) key (.slice A6 vals.length c7) ((0 : Nat) : Int) (.slice none 0 0)) 154) (B := osl kVal (.slice none 0 0) []) (C := osl kPair (.slice none 0 0) [])
 refine c_loop (σ := Nat × VM × Nat × Value × Value) (fun (d, m, k, sv, tv) => [(0, .slice A1 p.length c2), (3, .int .i64 fuel), (11, .pointer (some ⟨b13, 0, none⟩)), (12, .int .i64 m.pos), (13, .int .i64 ((d : Nat) : Int))]) (fun (d, m, k, sv, tv) w => (Hd w0 F0 w [blk b13 (machC sv m.g key (.slice A6 vals.length c7) ((k : Nat) : Int) tv) 154, osl kVal sv m.stk, osl kPair tv m.told] [rsl kIns (.slice A1 p.length c2) p, rsl kStr (.slice A6 vals.length c7) vals]) ∧ ((d : Int) ≤ min fuel 2000) ∧ (Inv p.length m) ∧ (playM dg p key ((min fuel 2000).toNat - d) m = playM dg p key (min fuel 2000).toNat (vm0 vals)) ∧ (m.halted = false ∧ m.vals = vals.drop k) ∧ (k ≤ vals.length)) (fun (d, m, k, sv, tv) => (min fuel 2000).toNat - d) (0, vm0 vals, 0, .slice none 0 0, .slice none 0 0) ⟨rfl, rfl, rfl, rfl, rfl, trivial⟩ ⟨H, by (try dsimp only); omega, inv0 _ _, rfl, ⟨rfl, rfl⟩, Nat.zero_le _⟩ ?_
 rintro ⟨d, m, k, sv, tv⟩ w ⟨H, hd, hinv, hpl, hmv, hkf⟩
 have hps := hinv.pos
 refine c_seq (c_seq (c_reg (s_k 2 rfl (s_val rfl rfl (r_lenL rfl un22 rfl) (s_val rfl rfl (r_lt rfl rfl rfl) (s_nil (q_then ?_)))))))
 refine c_dec rfl (fun h14 => ?_) (fun h14 => ?_)
 ·have hrun : m.pos < (p.length : Int) ∧ m.halted = false := ⟨h14, hmv.1⟩
  refine c_skip (q_then (c_block (c_seq (c_seq (c_reg (s_k 2 rfl (s_val rfl rfl (r_min (z := min fuel 2000) rfl rfl rfl rfl) (s_val rfl rfl (r_ge rfl rfl rfl) (s_nil (q_then ?_))))))))))
  refine c_dec rfl (fun h15 => ?_) (fun h15 => ?_)
  ·refine c_seq (c_reg (s_k 4 rfl (s_nil (q_then (c_ret (q_thenR (q_blockR (q_thenR (q_blockR (q_thenR (q_ret3 rfl rfl rfl rfl ?_)))))))))))
   have ep : playM dg p key (min fuel 2000).toNat (vm0 vals) = (m, 3) := by rw [← hpl, show (min fuel 2000).toNat - d = 0 by omega]; exact play_dry hrun
   have e : runM dg p key vals fuel = ([], 3) := by unfold runM; rw [if_neg hnb, ep, if_pos (by exact (by decide : (3 : Int) ≠ 0))]
   replace H := H.newnil kPair |>.k1
   exact fin ⟨(.slice none 0 0), ((d : Nat) : Int), by rw [e] <;> rfl, by rw [e] <;> rfl⟩ H
  refine c_skip (q_then (c_seq (c_reg (s_1 rfl (s_val rfl rfl (r_add (z := ((d + 1 : Nat) : Int)) rfl rfl rfl (by rw [w64 (by omega) (by omega)]; omega)) (s_1 rfl (s_nil (q_then (c_seq (c_seq (c_reg (s_k 2 rfl ?_))))))))))))
  obtain ⟨x16, hx17⟩ : ∃ z9, p[(m.pos).toNat]? = some z9 := ⟨_, List.getElem?_eq_getElem (show (m.pos).toNat < p.length by omega)⟩
  have th18 := H.thR 0 rfl hx17
  refine s_val rfl rfl (r_iaE (p := oOf A1 + ((m.pos).toNat) * 3) rfl sl22 rfl rfl (by omega) (by omega) th18 (by omega)) (s_val rfl rfl (r_fa rfl fo29_0 rfl) (s_val rfl rfl (r_ld rfl ty3 rfl (H.elR 0 rfl hx17 (q := 0) rfl rfl)) (s_val rfl rfl (r_eq rfl rfl rfl) (s_nil (q_then ?_)))))
  refine c_dec rfl (fun h19 => ?_) (fun h19 => ?_)
  ·refine c_exit (q_thenE (q_blockE' (by decide) (q_thenE (q_blockE (q_then (c_seq (c_reg (s_val rfl rfl (r_fa rfl fo154_5 rfl) (s_val rfl rfl (r_ld rfl ty23 rfl (H.cellI 0 rfl rfl)) (s_k 4 rfl (s_nil (q_then (c_ret (q_ret3 rfl rfl rfl rfl ?_))))))))))))))
   have ep : playM dg p key (min fuel 2000).toNat (vm0 vals) = (⟨m.pos + 1, true, m.stk, m.g, m.told, m.vals⟩, 0) := by rw [← hpl, show (min fuel 2000).toNat - d = ((min fuel 2000).toNat - (d + 1)) + 1 by omega]; exact play_halt hrun hx17 h19
   have e : runM dg p key vals fuel = (m.told, 0) := by unfold runM; rw [if_neg hnb, ep, if_neg (by exact fun h => h rfl)]
   replace H := H.p2.k1.h1 (A := osl kPair tv m.told)
   exact fin ⟨tv, ((d + 1 : Nat) : Int), by rw [e] <;> rfl, by rw [e] <;> rfl⟩ H
  refine c_skip (q_then (c_seq (c_reg (s_k 2 rfl ?_))))
  have th20 := H.thR 0 rfl hx17
  refine s_val rfl rfl (r_iaE (p := oOf A1 + ((m.pos).toNat) * 3) rfl sl22 rfl rfl (by omega) (by omega) th20 (by omega)) (s_val rfl rfl (r_ldA (cs := [.int .i64 x16.op, .int .i64 x16.a, .string x16.s]) rfl ty29 rfl rfl (H.elsR 0 rfl hx17 rfl)) (sc (rStep_ok b13 sv m.g key (.slice A6 vals.length c7) k tv m.stk m.told vals x16 (p.length : Int) (m.pos + 1) hinv.len hinv.told hinv.ok (hgood _ (at_mem hx17)) h19 hkf) H (lR 1 rfl l0) rfl rfl (e_fn kn120 rfl rfl) ?_))
  rintro _ _ w ⟨to21, sv22, tv23, stk24, g25, k26, told27, rfl, rfl, hf28, hf29⟩ H
  replace H := H.h3 (A := blk b13 (machC sv22 g25 key (.slice A6 vals.length c7) ((k26 : Nat) : Int) tv23) 154) (B := osl kVal sv22 stk24) (C := osl kPair tv23 told27)
  refine s_k 5 rfl (s_nil (q_then (c_seq (c_seq (c_reg (s_1 rfl (s_val rfl rfl (r_ne rfl rfl rfl) (s_nil (q_then ?_)))))))))
  refine c_dec rfl (fun h30 => ?_) (fun h30 => ?_)
  ·refine c_seq (c_reg (s_k 5 rfl (s_nil (q_then (c_ret (q_thenR (q_blockR (q_thenR (q_blockR (q_thenR (q_ret3 rfl rfl rfl rfl ?_)))))))))))
   have ep : playM dg p key (min fuel 2000).toNat (vm0 vals) = doesM dg key {m with pos := m.pos + 1} x16 := by rw [← hpl, show (min fuel 2000).toNat - d = ((min fuel 2000).toNat - (d + 1)) + 1 by omega]; exact play_fail hrun hx17 (by rw [step_is hmv]; exact h30)
   have e : runM dg p key vals fuel = ([], (stepD dg key (m.pos + 1) m.stk m.g m.told vals k x16).2) := by unfold runM; rw [if_neg hnb, ep, step_is hmv, if_pos h30]
   replace H := H.newnil kPair |>.k1
   exact fin ⟨(.slice none 0 0), ((d + 1 : Nat) : Int), by rw [e] <;> rfl, by rw [e] <;> rfl⟩ H
  have h30z := Classical.not_not.1 h30
  refine c_skip (q_then (c_seq (c_reg (s_1 rfl (s_val rfl rfl (r_add (z := m.pos + 1) rfl rfl rfl (w64 (by omega) (by omega))) (s_1 rfl (s_nil (q_then (c_seq (c_reg (s_1 rfl (s_val rfl rfl (r_ge rfl rfl rfl) (s_nil (q_then ?_))))))))))))))
  refine c_dec rfl (fun h31 => ?_) (fun h31 => ?_)
  ·refine c_reg (s_k 2 rfl (s_nil (q_blockN ?_)))
   have ed : doesM dg key {m with pos := m.pos + 1} x16 = ((⟨to21, false, stk24, g25, told27, vals.drop k26⟩ : VM), 0) := step_does hmv (hf29 h30z) (if_pos h31)
   have hj : (min fuel 2000).toNat - d = ((min fuel 2000).toNat - (d + 1)) + 1 := by omega
   have hpl2 : playM dg p key ((min fuel 2000).toNat - (d + 1)) ⟨to21, false, stk24, g25, told27, vals.drop k26⟩ = playM dg p key (min fuel 2000).toNat (vm0 vals) := by rw [← hpl, hj, play_go (m := m) hrun hx17 (by rw [ed]; exact fun h => h rfl), ed]
   have hinv2 : Inv p.length (⟨to21, false, stk24, g25, told27, vals.drop k26⟩ : VM) := by have h := inv_does num_in (inv_next hinv hrun.1) (hgood _ (at_mem hx17)) (hpa _ (at_mem hx17)) (by rw [ed]); rw [ed] at h; exact h
   exact q_round (s := (d, m, k, undef, undef)) (d + 1, ⟨to21, false, stk24, g25, told27, vals.drop k26⟩, k26, sv22, tv23) ⟨rfl, rfl, rfl, rfl, rfl, trivial⟩ ⟨H, by (try dsimp only); omega, hinv2, hpl2, ⟨rfl, rfl⟩, hf28⟩ (by (try dsimp only); omega)
  refine c_skip (q_blockN ?_)
  have ed : doesM dg key {m with pos := m.pos + 1} x16 = ((⟨m.pos + 1, false, stk24, g25, told27, vals.drop k26⟩ : VM), 0) := step_does hmv (hf29 h30z) (if_neg h31)
  have hj : (min fuel 2000).toNat - d = ((min fuel 2000).toNat - (d + 1)) + 1 := by omega
  have hpl2 : playM dg p key ((min fuel 2000).toNat - (d + 1)) ⟨m.pos + 1, false, stk24, g25, told27, vals.drop k26⟩ = playM dg p key (min fuel 2000).toNat (vm0 vals) := by rw [← hpl, hj, play_go (m := m) hrun hx17 (by rw [ed]; exact fun h => h rfl), ed]
  have hinv2 : Inv p.length (⟨m.pos + 1, false, stk24, g25, told27, vals.drop k26⟩ : VM) := by have h := inv_does num_in (inv_next hinv hrun.1) (hgood _ (at_mem hx17)) (hpa _ (at_mem hx17)) (by rw [ed]); rw [ed] at h; exact h
  exact q_round (s := (d, m, k, undef, undef)) (d + 1, ⟨m.pos + 1, false, stk24, g25, told27, vals.drop k26⟩, k26, sv22, tv23) ⟨rfl, rfl, rfl, rfl, rfl, trivial⟩ ⟨H, by (try dsimp only); omega, hinv2, hpl2, ⟨rfl, rfl⟩, hf28⟩ (by (try dsimp only); omega)
 refine c_exit (q_thenE (q_thenE (q_blockE (q_then (c_seq (c_reg (s_val rfl rfl (r_fa rfl fo154_5 rfl) (s_val rfl rfl (r_ld rfl ty23 rfl (H.cellI 0 rfl rfl)) (s_k 4 rfl (s_nil (q_then (c_ret (q_ret3 rfl rfl rfl rfl ?_)))))))))))))
 have ep : playM dg p key (min fuel 2000).toNat (vm0 vals) = (m, 0) := by rw [← hpl]; exact play_stop _ (fun h => h14 h.1)
 have e : runM dg p key vals fuel = (m.told, 0) := by unfold runM; rw [if_neg hnb, ep, if_neg (by exact fun h => h rfl)]
 replace H := H.p2.k1.h1 (A := osl kPair tv m.told)
 exact fin ⟨tv, ((d : Nat) : Int), by rw [e] <;> rfl, by rw [e] <;> rfl⟩ H
end Go.Proofs.YtlpgdkbokakniaaGreatDoor.X
