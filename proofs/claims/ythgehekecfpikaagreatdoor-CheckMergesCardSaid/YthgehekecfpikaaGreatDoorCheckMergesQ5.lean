/- CheckMerges: texts J4, N3, N4, XOrd, N5, XRedL, XWin, XCode, XMpr, XRedR, XOkR, XRecO, XRedO, XFeed, XMerg, XStP, XF2, MG1, N6, joined by a program of ours; what nothing names is left out. -/
import Derived.Test.YthgehekecfpikaaGreatDoorCheckMergesQ4
set_option linter.unusedVariables false
set_option linter.unusedSimpArgs false
set_option maxHeartbeats 8000000
namespace Go.Proofs.YthgehekecfpikaaGreatDoor.X
open Go
theorem indexI_ok (v : Value) (xs : List Int) (x : Int) :
    Cn Tryz.prog 184 [v, .int .i64 x] [] [rsl (kInt .i64) v xs] (fun v Bs => v = .int .i64 (fidx (fun y => decide (x = y)) xs) ∧ Bs = []) := by
 intro w0 F0 H
 obtain ⟨A1, c2, rfl, hc3, hm4, hp5⟩ := H.fR 0 rfl
 refine enter Tryz.func184 rfl rfl (Nat.le_of_ble_eq_true rfl) (c_seq (c_reg (s_1 rfl (s_nil (q_then ?_)))))
 replace H : Hd _ _ _ [] [rsl (kInt .i64) (.slice A1 xs.length c2) xs] := H
 refine c_seq (c_seq (c_reg (s_1 rfl (s_val rfl rfl (r_lenL rfl un24 rfl) (s_1 rfl (s_nil (q_then (c_block (c_loop (σ := Nat) (fun k => [(0, .slice A1 xs.length c2), (1, .int .i64 x), (7, .int .i64 ((xs.length : Nat) : Int)), (8, .int .i64 ((k : Nat) : Int))]) (fun k w => (Hd w0 F0 w [] [rsl (kInt .i64) (.slice A1 xs.length c2) xs]) ∧ (k ≤ xs.length) ∧ (∀ y ∈ xs.take k, (fun y => decide (x = y)) y = false)) (fun k => xs.length - k) 0 ⟨rfl, rfl, rfl, rfl, trivial⟩ ⟨H, by omega, by simp⟩ ?_)))))))))
 rintro k w ⟨H, hk, hn⟩
 refine c_seq (c_reg (s_val rfl rfl (r_lt rfl rfl rfl) (s_nil (q_then (c_seq ?_)))))
 refine c_dec rfl (fun h6 => ?_) (fun h6 => ?_)
 ·refine c_skip (q_then (c_seq (c_block (c_seq (c_reg (s_k 2 rfl (s_nil (q_then (c_seq (c_reg (s_k 3 rfl ?_)))))))))))
  obtain ⟨x7, hx8⟩ : ∃ z9, xs[k]? = some z9 := ⟨_, List.getElem?_eq_getElem (show k < xs.length by omega)⟩
  have th9 := H.thR 0 rfl hx8
  refine s_val rfl rfl (r_iaE (p := oOf A1 + k * 1) rfl sl24 rfl rfl (by omega) (by omega) th9 rfl) (s_val rfl rfl (r_ld rfl ty3 rfl (H.elR 0 rfl hx8 (q := 0) rfl rfl)) (s_val rfl rfl (r_eq rfl rfl rfl) (s_nil (q_then ?_))))
  refine c_dec rfl (fun h10 => ?_) (fun h10 => ?_)
  ·exact c_seq (c_reg (s_k 2 rfl (s_nil (q_then (c_ret (q_blockR (q_thenR (q_thenR (q_blockR (q_thenR (q_ret1 rfl rfl (fin ⟨by rw [fidx_hit (p := (fun y => decide (x = y))) hn hx8 (decide_eq_true h10)] <;> rfl, rfl⟩ H))))))))))))
  exact c_skip (q_blockN (q_then (c_reg (s_val rfl rfl (r_add (z := ((k + 1 : Nat) : Int)) rfl rfl rfl (by rw [w64 (by omega) (by omega)]; omega)) (s_1 rfl (s_nil (q_round (s := k) (k + 1) ⟨rfl, rfl, rfl, rfl, trivial⟩ ⟨H, by omega, take_false (p := (fun y => decide (x = y))) hn hx8 (decide_eq_false h10)⟩ (by (try dsimp only); omega))))))))
 refine c_exit (q_thenE (q_thenE (q_blockE (q_then (c_seq (c_reg (s_1 rfl (s_nil (q_then (c_ret (q_ret1 rfl rfl ?_)))))))))))
 have hn2 : ∀ y ∈ xs, (fun y => decide (x = y)) y = false := by rw [← take_all (xs := xs) (k := k) (by omega)]; exact hn
 exact fin ⟨by rw [fidx_miss hn2] <;> rfl, rfl⟩ H
theorem containsI_ok (v : Value) (xs : List Int) (x : Int) :
    Cn Tryz.prog 136 [v, .int .i64 x] [] [rsl (kInt .i64) v xs] (fun v Bs => v = .bool (decide (x ∈ xs)) ∧ Bs = []) := by
 intro w0 F0 H
 refine enter Tryz.func136 rfl rfl (Nat.le_of_ble_eq_true rfl) (c_seq (c_reg (s_1 rfl (s_nil (q_then (c_seq (c_reg (s_k 2 rfl (sc (indexI_ok v xs x) H (lR 0 rfl l0) rfl rfl (e_fn kn184 rfl rfl) ?_)))))))))
 rintro _ _ w ⟨rfl, rfl⟩ H
 refine s_val rfl rfl (r_ge rfl rfl rfl) (s_1 rfl (s_nil (q_then (c_ret (q_ret1 rfl rfl ?_)))))
 have e : decide (0 ≤ fidx (fun y => decide (x = y)) xs) = decide (x ∈ xs) := by rw [fidx_nonneg]; rw [Bool.eq_iff_iff]; simp
 exact fin ⟨congrArg Value.bool e, rfl⟩ H
theorem all_ok (n : Nat) (hn : n ≤ 1000) :
    Cn Tryz.prog 132 [.int .i64 ((n : Nat) : Int)] [] [] (fun v Bs => Bs = [osl (kInt .i64) v (upto n)]) := by
 intro w0 F0 H
 refine enter Tryz.func132 rfl rfl (Nat.le_of_ble_eq_true rfl) (c_seq (c_reg (s_1 rfl (s_nil (q_then (c_seq (c_reg (s_1 rfl (s_nil (q_then (c_seq (c_seq (c_reg (s_k 2 rfl (s_nil (q_then (c_block ?_)))))))))))))))))
 replace H := H.newnil (kInt .i64)
 refine c_loop (σ := Nat × Value) (fun (i, q) => [(2, .slice none 0 0), (3, q), (5, .int .i64 ((n : Nat) : Int)), (6, .int .i64 ((i : Nat) : Int))]) (fun (i, q) w => (Hd w0 F0 w [osl (kInt .i64) q (upto i)] []) ∧ (i ≤ n)) (fun (i, q) => n - i) (0, .slice none 0 0) ⟨rfl, rfl, rfl, rfl, trivial⟩ ⟨H, Nat.zero_le _⟩ ?_
 rintro ⟨i, q⟩ w ⟨H, hi⟩
 have hul := upto_len i
 refine c_seq (c_reg (s_val rfl rfl (r_lt rfl rfl rfl) (s_nil (q_then (c_seq ?_)))))
 refine c_dec rfl (fun h1 => ?_) (fun h1 => ?_)
 ·refine c_skip (q_then (c_seq (c_block (c_seq (c_reg (s_k 2 rfl (s_nil (q_then (c_reg (s_k 2 rfl (s_bsl (parts := [(0, .tmp 10)]) (vs := [.int .i64 ((i : Nat) : Int)]) (cs := [.int .i64 ((i : Nat) : Int)]) rfl rfl rfl sl24 zr3 rfl (by decide) (by decide) rfl rfl H (fun b2 w H => ?_))))))))))))
  replace H := H.p1
  refine s_appF (xs := upto i) (ys := [((i : Nat) : Int)]) rfl rfl rfl sl24 zr3 rfl (by decide) rfl rfl H (by first | omega | (rw [List.length_append]; omega)) (fun F hA hR => blk_rsl (hA _ (List.mem_of_getElem? (i := 0) rfl)) rfl (by decide) (RepsR.flat_eq.2 rfl)) (fun v3 w H => (s_1 rfl (s_nil (q_blockN (q_then ?_)))))
  replace H : Hd _ _ _ [osl (kInt .i64) v3 ((upto i) ++ [((i : Nat) : Int)]), blk b2 [.int .i64 ((i : Nat) : Int)] 3] [] := H
  refine c_reg (s_val rfl rfl (r_add (z := ((i + 1 : Nat) : Int)) rfl rfl rfl (by rw [w64 (by omega) (by omega)]; omega)) (s_1 rfl (s_nil ?_)))
  replace H := H.k1
  replace H : Hd w0 F0 w [osl (kInt .i64) v3 (upto (i + 1))] [] := by rw [upto_succ]; exact H
  exact q_round (s := (i, undef)) (i + 1, v3) ⟨rfl, rfl, rfl, rfl, trivial⟩ ⟨H, by (try dsimp only); omega⟩ (by (try dsimp only); omega)
 refine c_exit (q_thenE (q_thenE (q_blockE (q_then (c_seq (c_reg (s_k 2 rfl (s_nil (q_then (c_ret (q_ret1 rfl rfl ?_)))))))))))
 obtain rfl : i = n := by omega
 exact fin rfl H
theorem part_ok (vS vM vC vR vK : Value) (J : Job) (hJ : OkJ J) (p : Nat) (hp : (p : Int) < J.parts) (hsp : ∀ s, s < J.us.length → (splitM dg J s).2 = 0) (vl : Value) :
    Cn Tryz.prog 67 [.agg #[vS, .int .i64 J.parts, vM, vC, vR, .int .i64 J.chunk, .int .i64 J.window, .int .i64 J.fuel, vK], .int .i64 ((p : Nat) : Int), vl] [] [rsl (kHd kPair) vS J.us, rsl kIns vM J.map, rsl kIns vC J.comb, rsl kIns vR J.red, rsl (kInt .i64) vK J.marks, rsl (kInt .i64) vl (upto J.us.length), gl] (fun v Bs => ∃ u, v = .tuple #[u, .int .i64 (partM dg J p).2] ∧ Bs = [osl kPair u (partM dg J p).1]) := by
 intro w0 F0 H
 obtain ⟨A1, c2, rfl, hc3, hm4, hp5⟩ := H.fR 0 rfl
 obtain ⟨A6, c7, rfl, hc8, hm9, hp10⟩ := H.fR 1 rfl
 obtain ⟨A11, c12, rfl, hc13, hm14, hp15⟩ := H.fR 2 rfl
 obtain ⟨A16, c17, rfl, hc18, hm19, hp20⟩ := H.fR 3 rfl
 obtain ⟨A21, c22, rfl, hc23, hm24, hp25⟩ := H.fR 4 rfl
 obtain ⟨A26, c27, rfl, hc28, hm29, hp30⟩ := H.fR 5 rfl
 have hus := hJ.us
 have hpt := hJ.parts
 have hfu := hJ.fuel
 refine enter Tryz.func67 rfl rfl (Nat.le_of_ble_eq_true rfl) (c_seq (c_reg (s_box rfl rfl rfl rfl H (fun b31 w H => (s_k 2 rfl (s_nil (q_then ?_)))))))
 replace H : Hd _ _ _ [blk b31 [.slice A1 J.us.length c2, .int .i64 J.parts, .slice A6 J.map.length c7, .slice A11 J.comb.length c12, .slice A16 J.red.length c17, .int .i64 J.chunk, .int .i64 J.window, .int .i64 J.fuel, .slice A21 J.marks.length c22] 26] [rsl (kHd kPair) (.slice A1 J.us.length c2) J.us, rsl kIns (.slice A6 J.map.length c7) J.map, rsl kIns (.slice A11 J.comb.length c12) J.comb, rsl kIns (.slice A16 J.red.length c17) J.red, rsl (kInt .i64) (.slice A21 J.marks.length c22) J.marks, rsl (kInt .i64) (.slice A26 ((upto J.us.length).length) c27) (upto J.us.length), gl] := H
 refine c_seq (c_seq (c_reg (s_val rfl rfl (r_ldA (cs := [.slice A1 J.us.length c2, .int .i64 J.parts, .slice A6 J.map.length c7, .slice A11 J.comb.length c12, .slice A16 J.red.length c17, .int .i64 J.chunk, .int .i64 J.window, .int .i64 J.fuel, .slice A21 J.marks.length c22]) rfl ty26 rfl rfl (H.cellsI 0 rfl rfl)) (sc (jmay_ok (.slice A1 J.us.length c2) (.slice A6 J.map.length c7) (.slice A11 J.comb.length c12) (.slice A16 J.red.length c17) (.slice A21 J.marks.length c22) J) H (lR 0 rfl (lR 1 rfl (lR 2 rfl (lR 3 rfl (lR 4 rfl l0))))) rfl rfl (e_fn kn88 rfl rfl) ?_))))
 rintro _ _ w ⟨rfl, rfl⟩ H
 refine s_val rfl rfl (r_notP rfl rfl) (s_1 rfl ?_)
 refine s_dec (d := 15) rfl (fun h32 => ?_) (fun h32 => ?_)
 ·exact (h32 hJ.may).elim
 refine s_1 rfl (s_val rfl rfl (r_lt rfl rfl rfl) (s_k 2 rfl ?_))
 refine s_dec (d := 19) rfl (fun h33 => ?_) (fun h33 => ?_)
 ·exfalso; omega
 refine s_1 rfl (s_val rfl rfl (r_fa rfl fo26_1 rfl) (s_val rfl rfl (r_ld rfl ty3 rfl (H.cellI 0 rfl rfl)) (s_val rfl rfl (r_ge rfl rfl rfl) (s_1 rfl (s_nil (q_then ?_))))))
 refine c_dec rfl (fun h34 => ?_) (fun h34 => ?_)
 ·exfalso; omega
 refine c_skip (q_then (c_seq (c_reg (s_1 rfl (s_nil (q_then (c_seq (c_seq (c_reg (s_val rfl rfl (r_fa rfl fo26_0 rfl) (s_val rfl rfl (r_ld rfl ty22 rfl (H.cellI 0 rfl rfl)) (s_val rfl rfl (r_lenL rfl un22 rfl) (s_1 rfl (s_nil (q_then (c_block ?_))))))))))))))))
 replace H := H.newnil (kHd kPair)
 refine c_loop (σ := Nat × Value × List (Value × List Pair)) (fun (k, q, zs) => [(1, .int .i64 ((p : Nat) : Int)), (2, .slice A26 ((upto J.us.length).length) c27), (3, .pointer (some ⟨b31, 0, none⟩)), (8, q), (27, .int .i64 ((J.us.length : Nat) : Int)), (28, .int .i64 ((k : Nat) : Int))]) (fun (k, q, zs) w => (Hd w0 F0 w [osl (kHd kPair) q zs, blk b31 [.slice A1 J.us.length c2, .int .i64 J.parts, .slice A6 J.map.length c7, .slice A11 J.comb.length c12, .slice A16 J.red.length c17, .int .i64 J.chunk, .int .i64 J.window, .int .i64 J.fuel, .slice A21 J.marks.length c22] 26] [rsl (kHd kPair) (.slice A1 J.us.length c2) J.us, rsl kIns (.slice A6 J.map.length c7) J.map, rsl kIns (.slice A11 J.comb.length c12) J.comb, rsl kIns (.slice A16 J.red.length c17) J.red, rsl (kInt .i64) (.slice A21 J.marks.length c22) J.marks, rsl (kInt .i64) (.slice A26 ((upto J.us.length).length) c27) (upto J.us.length), gl]) ∧ (k ≤ J.us.length ∧ zs.length = k) ∧ (flat2 zs = allOf dg J p k)) (fun (k, q, zs) => J.us.length - k) (0, .slice none 0 0, []) ⟨rfl, rfl, rfl, rfl, rfl, rfl, trivial⟩ ⟨H, ⟨Nat.zero_le _, rfl⟩, rfl⟩ ?_
 rintro ⟨k, q, zs⟩ w ⟨H, hk, hz⟩
 have hal := allOf_len dg J p k
 have hfz : (flat2 zs).length ≤ 40 * k := by rw [hz]; exact hal
 refine c_seq (c_reg (s_val rfl rfl (r_lt rfl rfl rfl) (s_nil (q_then (c_seq ?_)))))
 refine c_dec rfl (fun h35 => ?_) (fun h35 => ?_)
 ·refine c_skip (q_then (c_seq (c_block (c_seq (c_reg (s_k 2 rfl (s_nil (q_then (c_seq (c_seq (c_reg (s_k 2 rfl (sc (containsI_ok (.slice A26 ((upto J.us.length).length) c27) (upto J.us.length) ((k : Nat) : Int)) H (lR 5 rfl l0) rfl rfl (e_fn kn136 rfl rfl) ?_)))))))))))))
  rintro _ _ w ⟨rfl, rfl⟩ H
  refine s_val rfl rfl (r_notP rfl rfl) (s_nil (q_then ?_))
  refine c_dec rfl (fun h36 => ?_) (fun h36 => ?_)
  ·exact (h36 (upto_mem (by omega))).elim
  refine c_skip (q_then (c_seq (c_reg (s_val rfl rfl (r_ldA (cs := [.slice A1 J.us.length c2, .int .i64 J.parts, .slice A6 J.map.length c7, .slice A11 J.comb.length c12, .slice A16 J.red.length c17, .int .i64 J.chunk, .int .i64 J.window, .int .i64 J.fuel, .slice A21 J.marks.length c22]) rfl ty26 rfl rfl (H.cellsI 1 rfl rfl)) (s_k 2 rfl (sc (jrun_ok (.slice A1 J.us.length c2) (.slice A6 J.map.length c7) (.slice A11 J.comb.length c12) (.slice A16 J.red.length c17) (.slice A21 J.marks.length c22) J hJ k ((p : Nat) : Int) (by omega)) H (lR 0 rfl (lR 1 rfl (lR 2 rfl (lR 3 rfl (lR 4 rfl (lR 6 rfl l0)))))) rfl rfl (e_fn kn54 rfl rfl) ?_))))))
  rintro _ _ w ⟨u37, rfl, rfl⟩ H
  have hrj : runJ dg J k p = (onlyM dg J k p, 0) := if_neg (fun h => h (hsp k (by omega)))
  rw [hrj] at H ⊢
  replace H : Hd w0 F0 w [osl kPair u37 (onlyM dg J k p), osl (kHd kPair) q zs, blk b31 [.slice A1 J.us.length c2, .int .i64 J.parts, .slice A6 J.map.length c7, .slice A11 J.comb.length c12, .slice A16 J.red.length c17, .int .i64 J.chunk, .int .i64 J.window, .int .i64 J.fuel, .slice A21 J.marks.length c22] 26] [rsl (kHd kPair) (.slice A1 J.us.length c2) J.us, rsl kIns (.slice A6 J.map.length c7) J.map, rsl kIns (.slice A11 J.comb.length c12) J.comb, rsl kIns (.slice A16 J.red.length c17) J.red, rsl (kInt .i64) (.slice A21 J.marks.length c22) J.marks, rsl (kInt .i64) (.slice A26 ((upto J.us.length).length) c27) (upto J.us.length), gl] := H
  refine s_k 5 rfl (s_nil (q_then (c_seq (c_seq (c_reg (s_1 rfl (s_val rfl rfl (r_ne rfl rfl rfl) (s_nil (q_then (c_no rfl (c_skip (q_then (c_reg (s_k 2 rfl ?_))))))))))))))
  obtain ⟨A39, c40, rfl, hc41, hm42, hp43⟩ := H.fA 0 rfl
  refine s_bsl (parts := [(0, .tmp 46)]) (vs := [.slice A39 ((onlyM dg J k p).length) c40]) (cs := [.slice A39 ((onlyM dg J k p).length) c40]) rfl rfl rfl sl22 zr35 rfl (by decide) (by decide) rfl rfl H (fun b38 w H => ?_)
  replace H := H.p2
  replace H : Hd _ _ _ [osl (kHd kPair) q zs, blk b38 [.slice A39 ((onlyM dg J k p).length) c40] 35, osl kPair (.slice A39 ((onlyM dg J k p).length) c40) (onlyM dg J k p), blk b31 [.slice A1 J.us.length c2, .int .i64 J.parts, .slice A6 J.map.length c7, .slice A11 J.comb.length c12, .slice A16 J.red.length c17, .int .i64 J.chunk, .int .i64 J.window, .int .i64 J.fuel, .slice A21 J.marks.length c22] 26] [rsl (kHd kPair) (.slice A1 J.us.length c2) J.us, rsl kIns (.slice A6 J.map.length c7) J.map, rsl kIns (.slice A11 J.comb.length c12) J.comb, rsl kIns (.slice A16 J.red.length c17) J.red, rsl (kInt .i64) (.slice A21 J.marks.length c22) J.marks, rsl (kInt .i64) (.slice A26 ((upto J.us.length).length) c27) (upto J.us.length), gl] := H
  refine s_appH rfl rfl rfl sl22 zr35 rfl (by decide) rfl rfl H (by first | omega | (simp only [List.length_append, List.length_cons, List.length_nil]; omega)) (fun v44 w H => ?_)
  replace H := H.h1 (A := osl (kHd kPair) v44 (zs ++ [((.slice A39 ((onlyM dg J k p).length) c40 : Value), onlyM dg J k p)]))
  refine s_1 rfl (s_nil (q_blockN (q_then (c_reg (s_val rfl rfl (r_add (z := ((k + 1 : Nat) : Int)) rfl rfl rfl (by rw [w64 (by omega) (by omega)]; omega)) (s_1 rfl (s_nil ?_)))))))
  have hz2 : flat2 (zs ++ [((.slice A39 ((onlyM dg J k p).length) c40 : Value), onlyM dg J k p)]) = allOf dg J p (k + 1) := by rw [flat2_snoc, hz]; rfl
  exact q_round (s := (k, undef, zs)) (k + 1, v44, zs ++ [((.slice A39 ((onlyM dg J k p).length) c40 : Value), onlyM dg J k p)]) ⟨rfl, rfl, rfl, rfl, rfl, rfl, trivial⟩ ⟨H, by (try dsimp only); simp only [List.length_append, List.length_cons, List.length_nil]; omega, hz2⟩ (by (try dsimp only); omega)
 refine c_exit (q_thenE (q_thenE (q_blockE (q_then (c_seq (c_ord (.e 0 (.e 1 (.e 2 (.e 4 (.e 5 (.m 3 (.m 6 (.e 7 (.e 8 (.e 9 (.e 10 .z))))))))))) (fun w => ∃ Ar, Hd w0 F0 w (osl (kHd kPair) q zs :: blk b31 [.slice A1 J.us.length c2, .int .i64 J.parts, .slice A6 J.map.length c7, .slice A11 J.comb.length c12, .slice A16 J.red.length c17, .int .i64 J.chunk, .int .i64 J.window, .int .i64 J.fuel, .slice A21 J.marks.length c22] 26 :: Ar) [rsl (kHd kPair) (.slice A1 J.us.length c2) J.us, rsl kIns (.slice A6 J.map.length c7) J.map, rsl kIns (.slice A11 J.comb.length c12) J.comb, rsl kIns (.slice A16 J.red.length c17) J.red, rsl (kInt .i64) (.slice A21 J.marks.length c22) J.marks, rsl (kInt .i64) (.slice A26 ((upto J.us.length).length) c27) (upto J.us.length), gl]) mo (by kernel_rfl) (fun w H => ⟨_, H⟩) H (fun w H => (d_val rfl rfl rfl (fun w ⟨Ar, H⟩ => r_fa rfl fo26_4 rfl) (d_val rfl rfl rfl (fun w ⟨Ar, H⟩ => r_ld rfl ty23 rfl (H.cellI 1 rfl rfl)) ?_)))))))))
 refine d_1 rfl (d_val rfl rfl rfl (fun w ⟨Ar, H⟩ => r_fa rfl fo26_7 rfl) (d_val rfl rfl rfl (fun w ⟨Ar, H⟩ => r_ld rfl ty3 rfl (H.cellI 1 rfl rfl)) (d_main rfl (sc (runs_ok q zs (by first | omega | decide | exact Nat.le_trans (flat2_le _ _) (by omega) | exact Nat.le_trans (flat2_le' _ _) (by omega) | (simp only [flat2, List.flatMap_cons, List.flatMap_nil, List.append_nil, srt_len]; omega))) H (lA 0 rfl own_rd l0) rfl rfl (e_fn kn138 rfl rfl) ?_))))
 rintro v45 _ w rfl H
 replace H : Hd _ _ _ [osl kPair v45 (srt (flat2 zs)), osl (kHd kPair) q zs, blk b31 [.slice A1 J.us.length c2, .int .i64 J.parts, .slice A6 J.map.length c7, .slice A11 J.comb.length c12, .slice A16 J.red.length c17, .int .i64 J.chunk, .int .i64 J.window, .int .i64 J.fuel, .slice A21 J.marks.length c22] 26] [rsl (kHd kPair) (.slice A1 J.us.length c2) J.us, rsl kIns (.slice A6 J.map.length c7) J.map, rsl kIns (.slice A11 J.comb.length c12) J.comb, rsl kIns (.slice A16 J.red.length c17) J.red, rsl (kInt .i64) (.slice A21 J.marks.length c22) J.marks, rsl (kInt .i64) (.slice A26 ((upto J.us.length).length) c27) (upto J.us.length), gl] := H
 replace H := H.p2.p2
 refine d_back ⟨_, H⟩ (d_main rfl ?_)
 have hsl := srt_len (flat2 zs)
 refine sc (foldEach_ok (.slice A16 J.red.length c17) J.red v45 (srt (flat2 zs)) J.fuel hJ.red hJ.f64 (by rw [srt_len, hz]; omega)) H (lR 3 rfl (lA 2 rfl own_rd (lR 6 rfl l0))) rfl rfl (e_fn kn137 rfl rfl) ?_
 rintro _ _ w ⟨u46, rfl, rfl⟩ H
 replace H := H.h1 (A := osl kPair u46 ((eachM dg J.red (srt (flat2 zs)) J.fuel false).1)) |>.p2 |>.p2
 refine d_back ⟨_, H⟩ (d_1 rfl (d_1 rfl (d_1 rfl (d_1 rfl (d_nil (q_then (c_ret (q_ret2 rfl rfl rfl ?_))))))))
 obtain rfl : k = J.us.length := by omega
 have e : partM dg J p = eachM dg J.red (srt (flat2 zs)) J.fuel false := by rw [hz]; rfl
 replace H := H.p2.k1
 exact fin ⟨_, by rw [e] <;> rfl, by rw [e] <;> rfl⟩ H
theorem whole_ok (vS vM vC vR vK : Value) (J : Job) (hJ : OkJ J) :
    Cn Tryz.prog 64 [.agg #[vS, .int .i64 J.parts, vM, vC, vR, .int .i64 J.chunk, .int .i64 J.window, .int .i64 J.fuel, vK]] [] [rsl (kHd kPair) vS J.us, rsl kIns vM J.map, rsl kIns vC J.comb, rsl kIns vR J.red, rsl (kInt .i64) vK J.marks, gl] (fun v Bs => ∃ u zs, v = .tuple #[u, .int .i64 (wholeM dg J).2.1, .int .i64 (wholeM dg J).2.2] ∧ Bs = [osl (kHd kPair) u zs] ∧ zs.map (·.2) = (wholeM dg J).1) := by
 intro w0 F0 H
 obtain ⟨A1, c2, rfl, hc3, hm4, hp5⟩ := H.fR 0 rfl
 obtain ⟨A6, c7, rfl, hc8, hm9, hp10⟩ := H.fR 1 rfl
 obtain ⟨A11, c12, rfl, hc13, hm14, hp15⟩ := H.fR 2 rfl
 obtain ⟨A16, c17, rfl, hc18, hm19, hp20⟩ := H.fR 3 rfl
 obtain ⟨A21, c22, rfl, hc23, hm24, hp25⟩ := H.fR 4 rfl
 have hus := hJ.us
 have hpt := hJ.parts
 have hfu := hJ.fuel
 refine enter Tryz.func64 rfl rfl (Nat.le_of_ble_eq_true rfl) (c_seq (c_reg (s_box rfl rfl rfl rfl H (fun b26 w H => (s_k 3 rfl (s_nil (q_then ?_)))))))
 replace H : Hd _ _ _ [blk b26 [.slice A1 J.us.length c2, .int .i64 J.parts, .slice A6 J.map.length c7, .slice A11 J.comb.length c12, .slice A16 J.red.length c17, .int .i64 J.chunk, .int .i64 J.window, .int .i64 J.fuel, .slice A21 J.marks.length c22] 26] [rsl (kHd kPair) (.slice A1 J.us.length c2) J.us, rsl kIns (.slice A6 J.map.length c7) J.map, rsl kIns (.slice A11 J.comb.length c12) J.comb, rsl kIns (.slice A16 J.red.length c17) J.red, rsl (kInt .i64) (.slice A21 J.marks.length c22) J.marks, gl] := H
 refine c_seq (c_seq (c_reg (s_val rfl rfl (r_ldA (cs := [.slice A1 J.us.length c2, .int .i64 J.parts, .slice A6 J.map.length c7, .slice A11 J.comb.length c12, .slice A16 J.red.length c17, .int .i64 J.chunk, .int .i64 J.window, .int .i64 J.fuel, .slice A21 J.marks.length c22]) rfl ty26 rfl rfl (H.cellsI 0 rfl rfl)) (sc (jmay_ok (.slice A1 J.us.length c2) (.slice A6 J.map.length c7) (.slice A11 J.comb.length c12) (.slice A16 J.red.length c17) (.slice A21 J.marks.length c22) J) H (lR 0 rfl (lR 1 rfl (lR 2 rfl (lR 3 rfl (lR 4 rfl l0))))) rfl rfl (e_fn kn88 rfl rfl) ?_))))
 rintro _ _ w ⟨rfl, rfl⟩ H
 refine s_val rfl rfl (r_notP rfl rfl) (s_nil (q_then ?_))
 refine c_dec rfl (fun h27 => ?_) (fun h27 => ?_)
 ·exact (h27 hJ.may).elim
 refine c_skip (q_then (c_seq (c_seq (c_reg (s_val rfl rfl (r_fa rfl fo26_0 rfl) (s_val rfl rfl (r_ld rfl ty22 rfl (H.cellI 0 rfl rfl)) (s_val rfl rfl (r_lenL rfl un22 rfl) (s_1 rfl (s_nil (q_then (c_block (c_loop (σ := Nat) (fun s => [(1, .pointer (some ⟨b26, 0, none⟩)), (17, .int .i64 ((J.us.length : Nat) : Int)), (18, .int .i64 ((s : Nat) : Int))]) (fun s w => (Hd w0 F0 w [blk b26 [.slice A1 J.us.length c2, .int .i64 J.parts, .slice A6 J.map.length c7, .slice A11 J.comb.length c12, .slice A16 J.red.length c17, .int .i64 J.chunk, .int .i64 J.window, .int .i64 J.fuel, .slice A21 J.marks.length c22] 26] [rsl (kHd kPair) (.slice A1 J.us.length c2) J.us, rsl kIns (.slice A6 J.map.length c7) J.map, rsl kIns (.slice A11 J.comb.length c12) J.comb, rsl kIns (.slice A16 J.red.length c17) J.red, rsl (kInt .i64) (.slice A21 J.marks.length c22) J.marks, gl]) ∧ (s ≤ J.us.length) ∧ (wholeGo dg J (J.us.length - s) s = wholeM dg J) ∧ (∀ q, q < s → (splitM dg J q).2 = 0)) (fun s => J.us.length - s) 0 ⟨rfl, rfl, rfl, trivial⟩ ⟨H, Nat.zero_le _, rfl, fun q h => absurd h (Nat.not_lt_zero _)⟩ ?_))))))))))))
 rintro s w ⟨H, hs, hgo, hsp0⟩
 refine c_seq (c_reg (s_val rfl rfl (r_lt rfl rfl rfl) (s_nil (q_then (c_seq ?_)))))
 refine c_dec rfl (fun h28 => ?_) (fun h28 => ?_)
 ·refine c_skip (q_then (c_seq (c_block (c_seq (c_reg (s_k 2 rfl (s_nil (q_then (c_seq (c_reg (s_val rfl rfl (r_ldA (cs := [.slice A1 J.us.length c2, .int .i64 J.parts, .slice A6 J.map.length c7, .slice A11 J.comb.length c12, .slice A16 J.red.length c17, .int .i64 J.chunk, .int .i64 J.window, .int .i64 J.fuel, .slice A21 J.marks.length c22]) rfl ty26 rfl rfl (H.cellsI 0 rfl rfl)) (s_1 rfl (sc (split_ok (.slice A1 J.us.length c2) (.slice A6 J.map.length c7) (.slice A11 J.comb.length c12) (.slice A16 J.red.length c17) (.slice A21 J.marks.length c22) J hJ s (by omega)) H (lR 0 rfl (lR 1 rfl (lR 2 rfl (lR 3 rfl (lR 4 rfl (lR 5 rfl l0)))))) rfl rfl (e_fn kn53 rfl rfl) ?_)))))))))))))
  rintro _ _ w ⟨u29, rfl, rfl⟩ H
  refine s_k 5 rfl (s_nil (q_then ?_))
  replace H : Hd _ _ _ [osl kPair u29 ((splitM dg J s).1), blk b26 [.slice A1 J.us.length c2, .int .i64 J.parts, .slice A6 J.map.length c7, .slice A11 J.comb.length c12, .slice A16 J.red.length c17, .int .i64 J.chunk, .int .i64 J.window, .int .i64 J.fuel, .slice A21 J.marks.length c22] 26] [rsl (kHd kPair) (.slice A1 J.us.length c2) J.us, rsl kIns (.slice A6 J.map.length c7) J.map, rsl kIns (.slice A11 J.comb.length c12) J.comb, rsl kIns (.slice A16 J.red.length c17) J.red, rsl (kInt .i64) (.slice A21 J.marks.length c22) J.marks, gl] := H
  refine c_seq (c_reg (s_1 rfl (s_val rfl rfl (r_ne rfl rfl rfl) (s_nil (q_then ?_)))))
  refine c_dec rfl (fun h30 => ?_) (fun h30 => ?_)
  ·refine c_seq (c_reg (s_k 5 rfl (s_nil (q_then (c_ret (q_blockR (q_thenR (q_thenR (q_blockR (q_thenR (q_ret3 rfl rfl rfl rfl ?_)))))))))))
   replace H := H.nil |>.newnil (kHd kPair)
   have e : wholeM dg J = ([], (splitM dg J s).2, (s : Int)) := hgo.symm.trans (whole_bad (by omega) h30)
   exact fin ⟨_, [], by rw [e] <;> rfl, rfl, by rw [e]; rfl⟩ H
  refine c_skip (q_blockN (q_then (c_reg (s_val rfl rfl (r_add (z := ((s + 1 : Nat) : Int)) rfl rfl rfl (by rw [w64 (by omega) (by omega)]; omega)) (s_1 rfl (s_nil ?_))))))
  replace H := H.p1.k1
  have hg2 := (whole_on (by omega) h30).trans hgo
  have hs2 : ∀ q, q < s + 1 → (splitM dg J q).2 = 0 := fun q hq => by
    rcases Nat.lt_or_ge q s with h | h
    · exact hsp0 q h
    · obtain rfl : q = s := by omega
      exact Classical.not_not.1 h30
  exact q_round (s := s) (s + 1) ⟨rfl, rfl, rfl, trivial⟩ ⟨H, by (try dsimp only); omega, hg2, hs2⟩ (by (try dsimp only); omega)
 refine c_exit (q_thenE (q_thenE (q_blockE (q_then (c_seq (c_reg (s_1 rfl (s_nil (q_then (c_seq (c_seq (c_reg (s_val rfl rfl (r_fa rfl fo26_1 rfl) (s_val rfl rfl (r_ld rfl ty3 rfl (H.cellI 0 rfl rfl)) (s_1 rfl (s_nil (q_then (c_block ?_))))))))))))))))))
 have hgp : partsGo dg J J.parts.toNat 0 [] = wholeM dg J := (whole_end (by omega)).symm.trans hgo
 have hsp : ∀ q, q < J.us.length → (splitM dg J q).2 = 0 := fun q hq => hsp0 q (by omega)
 replace H := H.newnil (kHd kPair)
 refine c_loop (σ := Nat × Value × List (Value × List Pair)) (fun (p, q, zs) => [(1, .pointer (some ⟨b26, 0, none⟩)), (8, q), (33, .int .i64 J.parts), (34, .int .i64 ((p : Nat) : Int))]) (fun (p, q, zs) w => (Hd w0 F0 w [osl (kHd kPair) q zs, blk b26 [.slice A1 J.us.length c2, .int .i64 J.parts, .slice A6 J.map.length c7, .slice A11 J.comb.length c12, .slice A16 J.red.length c17, .int .i64 J.chunk, .int .i64 J.window, .int .i64 J.fuel, .slice A21 J.marks.length c22] 26] [rsl (kHd kPair) (.slice A1 J.us.length c2) J.us, rsl kIns (.slice A6 J.map.length c7) J.map, rsl kIns (.slice A11 J.comb.length c12) J.comb, rsl kIns (.slice A16 J.red.length c17) J.red, rsl (kInt .i64) (.slice A21 J.marks.length c22) J.marks, gl]) ∧ ((p : Int) ≤ J.parts ∧ zs.length = p) ∧ (partsGo dg J (J.parts.toNat - p) p (zs.map (·.2)) = wholeM dg J)) (fun (p, q, zs) => J.parts.toNat - p) (0, .slice none 0 0, []) ⟨rfl, rfl, rfl, rfl, trivial⟩ ⟨H, ⟨by (try dsimp only); omega, rfl⟩, hgp⟩ ?_
 rintro ⟨p, q, zs⟩ w ⟨H, hp, hg⟩
 refine c_seq (c_reg (s_val rfl rfl (r_lt rfl rfl rfl) (s_nil (q_then (c_seq ?_)))))
 refine c_dec rfl (fun h31 => ?_) (fun h31 => ?_)
 ·refine c_skip (q_then (c_seq (c_block (c_seq (c_reg (s_k 2 rfl (s_nil (q_then (c_seq (c_ord (.e 0 (.e 1 (.e 2 (.e 3 (.e 4 (.m 5 (.m 6 (.e 7 (.e 8 (.e 9 (.e 10 (.e 11 .z)))))))))))) (fun w => ∃ Ar, Hd w0 F0 w (osl (kHd kPair) q zs :: blk b26 [.slice A1 J.us.length c2, .int .i64 J.parts, .slice A6 J.map.length c7, .slice A11 J.comb.length c12, .slice A16 J.red.length c17, .int .i64 J.chunk, .int .i64 J.window, .int .i64 J.fuel, .slice A21 J.marks.length c22] 26 :: Ar) [rsl (kHd kPair) (.slice A1 J.us.length c2) J.us, rsl kIns (.slice A6 J.map.length c7) J.map, rsl kIns (.slice A11 J.comb.length c12) J.comb, rsl kIns (.slice A16 J.red.length c17) J.red, rsl (kInt .i64) (.slice A21 J.marks.length c22) J.marks, gl]) mo (by kernel_rfl) (fun w H => ⟨_, H⟩) H (fun w H => (d_val rfl rfl rfl (fun w ⟨Ar, H⟩ => r_ldA (cs := [.slice A1 J.us.length c2, .int .i64 J.parts, .slice A6 J.map.length c7, .slice A11 J.comb.length c12, .slice A16 J.red.length c17, .int .i64 J.chunk, .int .i64 J.window, .int .i64 J.fuel, .slice A21 J.marks.length c22]) rfl ty26 rfl rfl (H.cellsI 1 rfl rfl)) ?_))))))))))))
  refine d_1 rfl (d_val rfl rfl rfl (fun w ⟨Ar, H⟩ => r_fa rfl fo26_0 rfl) (d_val rfl rfl rfl (fun w ⟨Ar, H⟩ => r_ld rfl ty22 rfl (H.cellI 1 rfl rfl)) (d_val rfl rfl rfl (fun w ⟨Ar, H⟩ => r_lenL rfl un22 rfl) (d_main rfl (sc (all_ok J.us.length (by omega)) H l0 rfl rfl (e_fn kn132 rfl rfl) ?_)))))
  rintro v32 _ w rfl H
  replace H : Hd _ _ _ [osl (kInt .i64) v32 (upto J.us.length), osl (kHd kPair) q zs, blk b26 [.slice A1 J.us.length c2, .int .i64 J.parts, .slice A6 J.map.length c7, .slice A11 J.comb.length c12, .slice A16 J.red.length c17, .int .i64 J.chunk, .int .i64 J.window, .int .i64 J.fuel, .slice A21 J.marks.length c22] 26] [rsl (kHd kPair) (.slice A1 J.us.length c2) J.us, rsl kIns (.slice A6 J.map.length c7) J.map, rsl kIns (.slice A11 J.comb.length c12) J.comb, rsl kIns (.slice A16 J.red.length c17) J.red, rsl (kInt .i64) (.slice A21 J.marks.length c22) J.marks, gl] := H
  replace H := H.p2.p2
  refine d_back ⟨_, H⟩ (d_main rfl (sc (part_ok (.slice A1 J.us.length c2) (.slice A6 J.map.length c7) (.slice A11 J.comb.length c12) (.slice A16 J.red.length c17) (.slice A21 J.marks.length c22) J hJ p (by omega) (by assumption) v32) H (lR 0 rfl (lR 1 rfl (lR 2 rfl (lR 3 rfl (lR 4 rfl (lA 2 rfl own_rd (lR 5 rfl l0))))))) rfl rfl (e_fn kn67 rfl rfl) ?_))
  rintro _ _ w ⟨u33, rfl, rfl⟩ H
  replace H := H.h1 (A := osl kPair u33 ((partM dg J p).1)) |>.p2 |>.p2
  refine d_back ⟨_, H⟩ (d_1 rfl (d_1 rfl (d_1 rfl (d_1 rfl (d_1 rfl (d_nil (q_then (c_seq (c_seq (c_reg (s_1 rfl (s_val rfl rfl (r_ne rfl rfl rfl) (s_nil (q_then ?_))))))))))))))
  refine c_dec rfl (fun h34 => ?_) (fun h34 => ?_)
  ·refine c_seq (c_reg (s_k 5 rfl (s_nil (q_then (c_ret (q_thenR (q_blockR (q_thenR (q_thenR (q_blockR (q_thenR (q_ret3 rfl rfl rfl rfl ?_))))))))))))
   replace H := H.nil |>.newnil (kHd kPair)
   have e : wholeM dg J = ([], (partM dg J p).2, (p : Int)) := hg.symm.trans (parts_bad2 (by omega) h34)
   exact fin ⟨_, [], by rw [e] <;> rfl, rfl, by rw [e]; rfl⟩ H
  refine c_skip (q_then (c_reg (s_k 2 rfl ?_)))
  obtain ⟨A36, c37, rfl, hc38, hm39, hp40⟩ := H.fA 2 rfl
  refine s_bsl (parts := [(0, .tmp 52)]) (vs := [.slice A36 (((partM dg J p).1).length) c37]) (cs := [.slice A36 (((partM dg J p).1).length) c37]) rfl rfl rfl sl22 zr35 rfl (by decide) (by decide) rfl rfl H (fun b35 w H => ?_)
  replace H := H.p1.p3.p2.p2
  replace H : Hd _ _ _ [osl (kHd kPair) q zs, blk b35 [.slice A36 (((partM dg J p).1).length) c37] 35, osl kPair (.slice A36 (((partM dg J p).1).length) c37) ((partM dg J p).1), blk b26 [.slice A1 J.us.length c2, .int .i64 J.parts, .slice A6 J.map.length c7, .slice A11 J.comb.length c12, .slice A16 J.red.length c17, .int .i64 J.chunk, .int .i64 J.window, .int .i64 J.fuel, .slice A21 J.marks.length c22] 26, osl (kInt .i64) v32 (upto J.us.length)] [rsl (kHd kPair) (.slice A1 J.us.length c2) J.us, rsl kIns (.slice A6 J.map.length c7) J.map, rsl kIns (.slice A11 J.comb.length c12) J.comb, rsl kIns (.slice A16 J.red.length c17) J.red, rsl (kInt .i64) (.slice A21 J.marks.length c22) J.marks, gl] := H
  refine s_appH rfl rfl rfl sl22 zr35 rfl (by decide) rfl rfl H (by first | omega | (simp only [List.length_append, List.length_cons, List.length_nil]; omega)) (fun v41 w H => ?_)
  replace H := H.h1 (A := osl (kHd kPair) v41 (zs ++ [((.slice A36 (((partM dg J p).1).length) c37 : Value), (partM dg J p).1)]))
  refine s_1 rfl (s_nil (q_blockN (q_then (c_reg (s_val rfl rfl (r_add (z := ((p + 1 : Nat) : Int)) rfl rfl rfl (by rw [w64 (by omega) (by omega)]; omega)) (s_1 rfl (s_nil ?_)))))))
  replace H := H.k2
  have hg2 : partsGo dg J (J.parts.toNat - (p + 1)) (p + 1) ((zs ++ [((.slice A36 (((partM dg J p).1).length) c37 : Value), (partM dg J p).1)] : List (Value × List Pair)).map (·.2)) = wholeM dg J := by rw [List.map_append]; exact (parts_on (by omega) h34).trans hg
  exact q_round (s := (p, undef, zs)) (p + 1, v41, zs ++ [((.slice A36 (((partM dg J p).1).length) c37 : Value), (partM dg J p).1)]) ⟨rfl, rfl, rfl, rfl, trivial⟩ ⟨H, by (try dsimp only); simp only [List.length_append, List.length_cons, List.length_nil]; omega, hg2⟩ (by (try dsimp only); omega)
 refine c_exit (q_thenE (q_thenE (q_blockE (q_then (c_seq (c_reg (s_k 4 rfl (s_nil (q_then (c_ret (q_ret3 rfl rfl rfl rfl ?_)))))))))))
 replace H := H.k1
 have e : wholeM dg J = (zs.map (·.2), 0, 0) := hg.symm.trans (parts_end (by omega))
 replace H : Hd _ _ _ [osl (kHd kPair) q zs] [rsl (kHd kPair) (.slice A1 J.us.length c2) J.us, rsl kIns (.slice A6 J.map.length c7) J.map, rsl kIns (.slice A11 J.comb.length c12) J.comb, rsl kIns (.slice A16 J.red.length c17) J.red, rsl (kInt .i64) (.slice A21 J.marks.length c22) J.marks, gl] := H
 exact fin ⟨_, _, by rw [e] <;> rfl, rfl, by rw [e] <;> rfl⟩ H
theorem merged_ok (r : Nat) (A : Option Addr) (c : Nat) (vM2 : Value) (vC2 : Value) (vR2 : Value) (vK2 : Value) (J2 : Job) (cw : Int) (ct : Int) (co : Int) (part : Int) (ep : Int) (R : Red) (hv : Nat → Value) (sb : Nat) (vs : Value) (hus6 : J2.us.length ≤ 6) :
    Cn Tryz.prog 51 [.pointer (some ⟨r, 0, none⟩)] [] [blk r (redC (.slice A J2.us.length c) vM2 vC2 vR2 vK2 J2 cw ct co part ep R.g hv sb vs) 185] (fun v Bs => Bs = [osl (kInt .i64) v (mergedL J2.us.length R)]) := by
 intro w0 F0 H
 refine enter Tryz.func51 rfl rfl (Nat.le_of_ble_eq_true rfl) (c_seq (c_reg (s_1 rfl (s_nil (q_then (c_seq (c_seq (c_reg (s_1 rfl (s_val rfl rfl (r_peq rfl un75 rfl rfl) (s_nil (q_then (c_no rfl (c_skip (q_then (c_seq (c_reg (s_1 rfl (s_nil (q_then (c_seq (c_seq (c_reg (s_1 rfl (s_val rfl rfl (r_nilP rfl rfl) (s_val rfl rfl (r_fa rfl fo185_0 rfl) (s_val rfl rfl (r_fa rfl fo28_0 rfl) (s_val rfl rfl (r_fa rfl fo26_0 rfl) (s_val rfl rfl (r_ld rfl ty22 rfl (H.cellRI 0 rfl rfl)) (s_val rfl rfl (r_lenL rfl un22 rfl) (s_1 rfl (s_nil (q_then (c_block ?_))))))))))))))))))))))))))))))))))
 replace H := H.newnil (kInt .i64)
 refine c_loop (σ := Nat × Value) (fun (k, q) => [(0, .pointer (some ⟨r, 0, none⟩)), (2, .slice none 0 0), (3, q), (13, .int .i64 ((J2.us.length : Nat) : Int)), (14, .int .i64 ((k : Nat) : Int))]) (fun (k, q) w => (Hd w0 F0 w [osl (kInt .i64) q (mergedL k R)] [blk r (redC (.slice A J2.us.length c) vM2 vC2 vR2 vK2 J2 cw ct co part ep R.g hv sb vs) 185]) ∧ (k ≤ J2.us.length)) (fun (k, q) => J2.us.length - k) (0, .slice none 0 0) ⟨rfl, rfl, rfl, rfl, rfl, trivial⟩ ⟨H, Nat.zero_le _⟩ ?_
 rintro ⟨k, q⟩ w ⟨H, hk⟩
 have hml := merged_len k R
 refine c_seq (c_reg (s_val rfl rfl (r_lt rfl rfl rfl) (s_nil (q_then (c_seq ?_)))))
 refine c_dec rfl (fun h1 => ?_) (fun h1 => ?_)
 ·refine c_skip (q_then (c_seq (c_block (c_seq (c_reg (s_k 2 rfl (s_nil (q_then (c_seq (c_reg (s_k 2 rfl (s_val rfl rfl (r_nilP rfl rfl) (s_val rfl rfl (r_fa rfl fo185_3 rfl) (s_val rfl rfl (r_iaB (p := 14 + k * 5) rfl un182 is181 rfl rfl (by omega) (by omega) (by omega)) (s_val rfl rfl (r_fa rfl fo181_0 rfl) (s_val rfl rfl (r_ld rfl ty4 rfl (H.cellRI 0 rfl (redC_at0 (by omega)))) (s_nil (q_then ?_))))))))))))))))))
  refine c_cond (b := (R.g k).merged) rfl (fun h2 => ?_) (fun h2 => ?_)
  ·refine c_reg (s_k 2 rfl (s_bsl (parts := [(0, .tmp 25)]) (vs := [.int .i64 ((k : Nat) : Int)]) (cs := [.int .i64 ((k : Nat) : Int)]) rfl rfl rfl sl24 zr3 rfl (by decide) (by decide) rfl rfl H (fun b3 w H => ?_)))
   replace H := H.p1
   refine s_appF (xs := mergedL k R) (ys := [((k : Nat) : Int)]) rfl rfl rfl sl24 zr3 rfl (by decide) rfl rfl H (by first | omega | (simp only [List.length_append, List.length_cons, List.length_nil]; omega)) (fun F hA hR => blk_rsl (hA _ (List.mem_of_getElem? (i := 0) rfl)) rfl (by decide) (RepsR.flat_eq.2 rfl)) (fun v4 w H => (s_1 rfl (s_nil (q_blockN (q_then ?_)))))
   replace H : Hd _ _ _ [osl (kInt .i64) v4 ((mergedL k R) ++ [((k : Nat) : Int)]), blk b3 [.int .i64 ((k : Nat) : Int)] 3] [blk r (redC (.slice A J2.us.length c) vM2 vC2 vR2 vK2 J2 cw ct co part ep R.g hv sb vs) 185] := H
   refine c_reg (s_val rfl rfl (r_add (z := ((k + 1 : Nat) : Int)) rfl rfl rfl (by rw [w64 (by omega) (by omega)]; omega)) (s_1 rfl (s_nil ?_)))
   replace H := H.k1
   replace H : Hd w0 F0 w [osl (kInt .i64) v4 (mergedL (k + 1) R)] [blk r (redC (.slice A J2.us.length c) vM2 vC2 vR2 vK2 J2 cw ct co part ep R.g hv sb vs) 185] := by rw [merged_succ, if_pos h2]; exact H
   exact q_round (s := (k, undef)) (k + 1, v4) ⟨rfl, rfl, rfl, rfl, rfl, trivial⟩ ⟨H, by (try dsimp only); omega⟩ (by (try dsimp only); omega)
  refine c_skip (q_blockN (q_then (c_reg (s_val rfl rfl (r_add (z := ((k + 1 : Nat) : Int)) rfl rfl rfl (by rw [w64 (by omega) (by omega)]; omega)) (s_1 rfl (s_nil ?_))))))
  replace H : Hd w0 F0 w [osl (kInt .i64) q (mergedL (k + 1) R)] [blk r (redC (.slice A J2.us.length c) vM2 vC2 vR2 vK2 J2 cw ct co part ep R.g hv sb vs) 185] := by rw [merged_succ, if_neg (by rw [h2]; exact Bool.false_ne_true), List.append_nil]; exact H
  exact q_round (s := (k, undef)) (k + 1, q) ⟨rfl, rfl, rfl, rfl, rfl, trivial⟩ ⟨H, by (try dsimp only); omega⟩ (by (try dsimp only); omega)
 refine c_exit (q_thenE (q_thenE (q_blockE (q_then (c_seq (c_reg (s_k 2 rfl (s_nil (q_then (c_ret (q_ret1 rfl rfl ?_)))))))))))
 have hkk : k = J2.us.length := by omega
 replace H : Hd w0 F0 w [osl (kInt .i64) q (mergedL J2.us.length R)] [blk r (redC (.slice A J2.us.length c) vM2 vC2 vR2 vK2 J2 cw ct co part ep R.g hv sb vs) 185] := by rw [hkk] at H; exact H
 exact fin rfl H
theorem snapOf_ok (vp : Value) (p : List Ins) (fuel : Int) (vus : Value) (us : List (Value × List Pair)) (hpa : ∀ i ∈ p, In64 i.a) (hfu : In64 fuel) (hb : (flat2 us).length ≤ 1000000) :
    Cn Tryz.prog 180 [vp, .int .i64 fuel, vus] [] [rsl kIns vp p, rsl (kHd kPair) vus us, gl] (fun v Bs => ∃ u : Value, v = .tuple #[u, .int .i64 ((eachM dg p (srt (flat2 us)) fuel false).2)] ∧ Bs = [osl kPair u ((eachM dg p (srt (flat2 us)) fuel false).1)]) := by
 intro w0 F0 H
 obtain ⟨A1, c2, rfl, hc3, hm4, hp5⟩ := H.fR 0 rfl
 obtain ⟨A6, c7, rfl, hc8, hm9, hp10⟩ := H.fR 1 rfl
 refine enter Tryz.func180 rfl rfl (Nat.le_of_ble_eq_true rfl) (c_seq (c_reg (s_k 2 rfl (s_nil (q_then ?_)))))
 replace H : Hd _ _ _ [] [rsl kIns (.slice A1 p.length c2) p, rsl (kHd kPair) (.slice A6 us.length c7) us, gl] := H
 refine c_seq (c_reg (s_k 2 rfl (sc (runs_ok (.slice A6 us.length c7) us (by first | omega | decide | exact Nat.le_trans (flat2_le _ _) (by omega) | exact Nat.le_trans (flat2_le' _ _) (by omega) | (simp only [flat2, List.flatMap_cons, List.flatMap_nil, List.append_nil, srt_len]; omega))) H (lR 1 rfl l0) rfl rfl (e_fn kn138 rfl rfl) ?_)))
 rintro v11 _ w rfl H
 replace H := H.h1 (A := osl kPair v11 (srt (flat2 us)))
 refine s_1 rfl (sc (foldEach_ok (.slice A1 p.length c2) p v11 (srt (flat2 us)) fuel (by first | exact hpa | exact in64_first | assumption) (by first | assumption | (unfold In64; omega)) (by first | omega | (simp only [srt_len]; omega))) H (lR 0 rfl (lA 0 rfl own_rd (lR 2 rfl l0))) rfl rfl (e_fn kn137 rfl rfl) ?_)
 rintro _ _ w ⟨u12, rfl, rfl⟩ H
 replace H := H.h1 (A := osl kPair u12 ((eachM dg p (srt (flat2 us)) fuel false).1))
 refine s_k 4 rfl (s_nil (q_then (c_ret (q_ret2 rfl rfl rfl ?_))))
 replace H := H.k1
 exact fin ⟨u12, rfl, rfl⟩ H
theorem of_ok (r : Nat) (A : Option Addr) (c : Nat) (vM2 : Value) (vC2 : Value) (vR2 : Value) (vK2 : Value) (J2 : Job) (cw : Int) (ct : Int) (co : Int) (part : Int) (ep : Int) (R : Red) (hv : Nat → Value) (sb : Nat) (vs : Value) (vset : Value) (set : List Int) (hred : ∀ i ∈ J2.red, In64 i.a) (hf64 : In64 J2.fuel) (hus6 : J2.us.length ≤ 6) (hbp : ∀ i, (R.g i).pairs.length ≤ 1000) :
    Cn Tryz.prog 131 [.pointer (some ⟨r, 0, none⟩), vset] [] [blk r (redC (.slice A J2.us.length c) vM2 vC2 vR2 vK2 J2 cw ct co part ep R.g hv sb vs) 185, prsS (R.g) hv, rsl (kInt .i64) vset set, rsl kIns vR2 J2.red, gl] (fun v Bs => ∃ u : Value, v = .tuple #[u, .int .i64 ((eachM dg J2.red (srt (runsOf J2.us.length R set)) J2.fuel false).2)] ∧ Bs = [osl kPair u ((eachM dg J2.red (srt (runsOf J2.us.length R set)) J2.fuel false).1)]) := by
 intro w0 F0 H
 obtain ⟨A1, c2, rfl, hc3, hm4, hp5⟩ := H.fR 2 rfl
 obtain ⟨A6, c7, rfl, hc8, hm9, hp10⟩ := H.fR 3 rfl
 refine enter Tryz.func131 rfl rfl (Nat.le_of_ble_eq_true rfl) (c_seq (c_reg (s_k 2 rfl (s_nil (q_then ?_)))))
 replace H : Hd _ _ _ [] [blk r (redC (.slice A J2.us.length c) vM2 vC2 (.slice A6 J2.red.length c7) vK2 J2 cw ct co part ep R.g hv sb vs) 185, prsS (R.g) hv, rsl (kInt .i64) (.slice A1 set.length c2) set, rsl kIns (.slice A6 J2.red.length c7) J2.red, gl] := H
 refine c_seq (c_reg (s_1 rfl (s_nil (q_then (c_seq (c_seq (c_reg (s_1 rfl (s_val rfl rfl (r_nilP rfl rfl) (s_val rfl rfl (r_fa rfl fo185_0 rfl) (s_val rfl rfl (r_fa rfl fo28_0 rfl) (s_val rfl rfl (r_fa rfl fo26_0 rfl) (s_val rfl rfl (r_ld rfl ty22 rfl (H.cellRI 0 rfl rfl)) (s_val rfl rfl (r_lenL rfl un22 rfl) (s_1 rfl (s_nil (q_then (c_block ?_))))))))))))))))))
 replace H := H.newnil kHdr |>.h1 (A := osl kHdr (.slice none 0 0) (hdr1 (pickU R.g hv set 0)))
 refine c_loop (σ := Nat × Value) (fun (k, q) => [(0, .pointer (some ⟨r, 0, none⟩)), (1, .slice A1 set.length c2), (4, .slice none 0 0), (5, .int .i64 0), (6, q), (14, .int .i64 ((J2.us.length : Nat) : Int)), (15, .int .i64 ((k : Nat) : Int))]) (fun (k, q) w => (Hd w0 F0 w [osl kHdr q (hdr1 (pickU R.g hv set k))] [blk r (redC (.slice A J2.us.length c) vM2 vC2 (.slice A6 J2.red.length c7) vK2 J2 cw ct co part ep R.g hv sb vs) 185, prsS (R.g) hv, rsl (kInt .i64) (.slice A1 set.length c2) set, rsl kIns (.slice A6 J2.red.length c7) J2.red, gl]) ∧ (k ≤ J2.us.length)) (fun (k, q) => J2.us.length - k) (0, .slice none 0 0) ⟨rfl, rfl, rfl, rfl, rfl, rfl, rfl, trivial⟩ ⟨H, Nat.zero_le _⟩ ?_
 rintro ⟨k, q⟩ w ⟨H, hk⟩
 have hpl := pickU_len R.g hv set k
 have hhl : (hdr1 (pickU R.g hv set k)).length = (pickU R.g hv set k).length := by simp [hdr1]
 refine c_seq (c_reg (s_val rfl rfl (r_lt rfl rfl rfl) (s_nil (q_then (c_seq ?_)))))
 refine c_dec rfl (fun h11 => ?_) (fun h11 => ?_)
 ·refine c_skip (q_then (c_seq (c_block (c_seq (c_reg (s_k 2 rfl (s_nil (q_then (c_seq (c_reg (s_k 2 rfl (s_val rfl rfl (r_nilP rfl rfl) (s_val rfl rfl (r_fa rfl fo185_3 rfl) (s_val rfl rfl (r_iaB (p := 14 + k * 5) rfl un182 is181 rfl rfl (by omega) (by omega) (by omega)) (s_val rfl rfl (r_fa rfl fo181_0 rfl) (s_val rfl rfl (r_ld rfl ty4 rfl (H.cellRI 0 rfl (redC_at0 (by omega)))) (s_1 rfl ?_)))))))))))))))))
  refine s_boo (d := 25) (b := (R.g k).merged) rfl (fun h12 => ?_) (fun h12 => ?_)
  ·refine s_k 2 rfl (sc (containsI_ok (.slice A1 set.length c2) set ((k : Nat) : Int)) H (lR 2 rfl l0) rfl rfl (e_fn kn136 rfl rfl) ?_)
   rintro _ _ w ⟨rfl, rfl⟩ H
   refine s_1 rfl (s_nil (q_then ?_))
   refine c_dec rfl (fun h13 => ?_) (fun h13 => ?_)
   ·refine c_reg (s_k 3 rfl (s_val rfl rfl (r_nilP rfl rfl) (s_val rfl rfl (r_fa rfl fo185_3 rfl) (s_val rfl rfl (r_iaB (p := 14 + k * 5) rfl un182 is181 rfl rfl (by omega) (by omega) (by omega)) (s_val rfl rfl (r_fa rfl fo181_1 rfl) ?_)))))
    obtain ⟨A14, c15, e16, _, _, _⟩ := H.prsFormR (i := k) 1 rfl (by omega)
    refine s_val rfl rfl (r_ld rfl ty35 rfl (H.cellRI 0 rfl ((redC_at1 (by omega)).trans (congrArg some e16)))) (s_bsl (parts := [(0, .tmp 37)]) (vs := [.slice A14 ((R.g k).pairs.length) c15]) (cs := [.slice A14 ((R.g k).pairs.length) c15]) rfl rfl rfl sl22 zr35 rfl (by decide) (by decide) rfl rfl H (fun b17 w H => ?_))
    replace H := H.p1
    refine s_appF (xs := hdr1 (pickU R.g hv set k)) (ys := [(⟨A14, (R.g k).pairs.length, c15⟩ : Hdr)]) rfl rfl rfl sl22 zr35 rfl (by decide) rfl rfl H (by first | omega | (simp only [List.length_append, List.length_cons, List.length_nil]; omega)) (fun F hA hR => blk_rsl (hA _ (List.mem_of_getElem? (i := 0) rfl)) rfl (by decide) (RepsR.flat_eq.2 rfl)) (fun v18 w H => (s_1 rfl (s_nil (q_blockN (q_then ?_)))))
    replace H : Hd _ _ _ [osl kHdr v18 ((hdr1 (pickU R.g hv set k)) ++ [(⟨A14, (R.g k).pairs.length, c15⟩ : Hdr)]), blk b17 [.slice A14 ((R.g k).pairs.length) c15] 35] [blk r (redC (.slice A J2.us.length c) vM2 vC2 (.slice A6 J2.red.length c7) vK2 J2 cw ct co part ep R.g hv sb vs) 185, prsS (R.g) hv, rsl (kInt .i64) (.slice A1 set.length c2) set, rsl kIns (.slice A6 J2.red.length c7) J2.red, gl] := H
    refine c_reg (s_val rfl rfl (r_add (z := ((k + 1 : Nat) : Int)) rfl rfl rfl (by rw [w64 (by omega) (by omega)]; omega)) (s_1 rfl (s_nil ?_)))
    replace H := H.k1
    replace H : Hd w0 F0 w [osl kHdr v18 (hdr1 (pickU R.g hv set (k + 1)))] [blk r (redC (.slice A J2.us.length c) vM2 vC2 (.slice A6 J2.red.length c7) vK2 J2 cw ct co part ep R.g hv sb vs) 185, prsS (R.g) hv, rsl (kInt .i64) (.slice A1 set.length c2) set, rsl kIns (.slice A6 J2.red.length c7) J2.red, gl] := by rw [pickU_succ, if_pos ⟨h12, h13⟩, show hdr1 (pickU R.g hv set k ++ [(hv k, (R.g k).pairs)]) = hdr1 (pickU R.g hv set k) ++ [⟨A14, (R.g k).pairs.length, c15⟩] by simp [hdr1, hdrOf, e16]]; exact H
    exact q_round (s := (k, undef)) (k + 1, v18) ⟨rfl, rfl, rfl, rfl, rfl, rfl, rfl, trivial⟩ ⟨H, by (try dsimp only); omega⟩ (by (try dsimp only); omega)
   refine c_skip (q_blockN (q_then (c_reg (s_val rfl rfl (r_add (z := ((k + 1 : Nat) : Int)) rfl rfl rfl (by rw [w64 (by omega) (by omega)]; omega)) (s_1 rfl (s_nil ?_))))))
   replace H : Hd w0 F0 w [osl kHdr q (hdr1 (pickU R.g hv set (k + 1)))] [blk r (redC (.slice A J2.us.length c) vM2 vC2 (.slice A6 J2.red.length c7) vK2 J2 cw ct co part ep R.g hv sb vs) 185, prsS (R.g) hv, rsl (kInt .i64) (.slice A1 set.length c2) set, rsl kIns (.slice A6 J2.red.length c7) J2.red, gl] := by rw [pickU_succ, if_neg (fun h => by first | exact h13 h.2 | (rw [h12] at h; cases h.1)), List.append_nil]; exact H
   exact q_round (s := (k, undef)) (k + 1, q) ⟨rfl, rfl, rfl, rfl, rfl, rfl, rfl, trivial⟩ ⟨H, by (try dsimp only); omega⟩ (by (try dsimp only); omega)
  refine s_k 4 rfl (s_nil (q_then (c_no rfl (c_skip (q_blockN (q_then (c_reg (s_val rfl rfl (r_add (z := ((k + 1 : Nat) : Int)) rfl rfl rfl (by rw [w64 (by omega) (by omega)]; omega)) (s_1 rfl (s_nil ?_))))))))))
  replace H : Hd w0 F0 w [osl kHdr q (hdr1 (pickU R.g hv set (k + 1)))] [blk r (redC (.slice A J2.us.length c) vM2 vC2 (.slice A6 J2.red.length c7) vK2 J2 cw ct co part ep R.g hv sb vs) 185, prsS (R.g) hv, rsl (kInt .i64) (.slice A1 set.length c2) set, rsl kIns (.slice A6 J2.red.length c7) J2.red, gl] := by rw [pickU_succ, if_neg (fun h => by first | exact h12 h.2 | (rw [h12] at h; cases h.1)), List.append_nil]; exact H
  exact q_round (s := (k, undef)) (k + 1, q) ⟨rfl, rfl, rfl, rfl, rfl, rfl, rfl, trivial⟩ ⟨H, by (try dsimp only); omega⟩ (by (try dsimp only); omega)
 refine c_exit (q_thenE (q_thenE (q_blockE (q_then (c_seq (c_ord (.e 0 (.e 1 (.e 2 (.e 3 (.e 4 (.e 5 (.e 6 (.e 7 (.e 8 (.e 9 (.e 10 (.e 11 (.e 12 (.m 13 (.e 14 (.e 15 (.e 16 (.e 17 .z)))))))))))))))))) (fun w => ∃ Ar, Hd w0 F0 w (Ar) [blk r (redC (.slice A J2.us.length c) vM2 vC2 (.slice A6 J2.red.length c7) vK2 J2 cw ct co part ep R.g hv sb vs) 185, prsS (R.g) hv, rsl (kInt .i64) (.slice A1 set.length c2) set, rsl kIns (.slice A6 J2.red.length c7) J2.red, gl]) mo (by kernel_rfl) (fun w H => ⟨_, H⟩) H (fun w H => (d_1 rfl (d_val rfl rfl rfl (fun w ⟨Ar, H⟩ => r_nilP rfl rfl) (d_val rfl rfl rfl (fun w ⟨Ar, H⟩ => r_fa rfl fo185_0 rfl) (d_val rfl rfl rfl (fun w ⟨Ar, H⟩ => r_fa rfl fo28_0 rfl) (d_val rfl rfl rfl (fun w ⟨Ar, H⟩ => r_fa rfl fo26_4 rfl) (d_val rfl rfl rfl (fun w ⟨Ar, H⟩ => r_ld rfl ty23 rfl (H.cellRI 0 rfl rfl)) (d_1 rfl (d_val rfl rfl rfl (fun w ⟨Ar, H⟩ => r_nilP rfl rfl) ?_)))))))))))))))
 refine d_val rfl rfl rfl (fun w ⟨Ar, H⟩ => r_fa rfl fo185_0 rfl) (d_val rfl rfl rfl (fun w ⟨Ar, H⟩ => r_fa rfl fo28_0 rfl) (d_val rfl rfl rfl (fun w ⟨Ar, H⟩ => r_fa rfl fo26_7 rfl) (d_val rfl rfl rfl (fun w ⟨Ar, H⟩ => r_ld rfl ty3 rfl (H.cellRI 0 rfl rfl)) (d_1 rfl (d_main rfl ?_)))))
 have hkk : k = J2.us.length := by omega
 replace H : Hd w0 F0 w [osl kHdr q (hdr1 (pickU R.g hv set J2.us.length))] [blk r (redC (.slice A J2.us.length c) vM2 vC2 (.slice A6 J2.red.length c7) vK2 J2 cw ct co part ep R.g hv sb vs) 185, prsS (R.g) hv, rsl (kInt .i64) (.slice A1 set.length c2) set, rsl kIns (.slice A6 J2.red.length c7) J2.red, gl] := by rw [hkk] at H; exact H
 have hrb := runs_bound (set := set) hbp J2.us.length
 have hfl : (flat2 (pickU R.g hv set J2.us.length)).length ≤ 1000000 := by rw [pickU_flat]; omega
 refine sc (snapOf_ok (.slice A6 J2.red.length c7) J2.red J2.fuel q (pickU R.g hv set J2.us.length) hred hf64 hfl) H (lX (fun F hA hR => hR _ (List.mem_of_getElem? (i := 3) rfl)) (lX (fun F hA hR => hd_of_hdr (own_rd F (hA _ (List.mem_of_getElem? (i := 0) rfl))) (pickU_rd hus6 (hR _ (List.mem_of_getElem? (i := 1) rfl)))) (lR 4 rfl l0))) rfl rfl (e_fn kn180 rfl rfl) ?_
 rintro _ _ w ⟨u19, rfl, rfl⟩ H
 rw [pickU_flat] at H ⊢
 replace H : Hd _ _ _ [osl kPair u19 ((eachM dg J2.red (srt (runsOf J2.us.length R set)) J2.fuel false).1), osl kHdr q (hdr1 (pickU R.g hv set J2.us.length))] [blk r (redC (.slice A J2.us.length c) vM2 vC2 (.slice A6 J2.red.length c7) vK2 J2 cw ct co part ep R.g hv sb vs) 185, prsS (R.g) hv, rsl (kInt .i64) (.slice A1 set.length c2) set, rsl kIns (.slice A6 J2.red.length c7) J2.red, gl] := H
 refine d_back ⟨_, H⟩ (d_1 rfl (d_1 rfl (d_1 rfl (d_1 rfl (d_nil (q_then (c_ret (q_ret2 rfl rfl rfl ?_))))))))
 replace H := H.k1
 exact fin ⟨u19, rfl, rfl⟩ H
theorem output_ok (r : Nat) (A : Option Addr) (c : Nat) (vM2 : Value) (vC2 : Value) (vR2 : Value) (vK2 : Value) (J2 : Job) (cw : Int) (ct : Int) (co : Int) (part : Int) (ep : Int) (R : Red) (hv : Nat → Value) (sb : Nat) (vs : Value) (hred : ∀ i ∈ J2.red, In64 i.a) (hf64 : In64 J2.fuel) (hus6 : J2.us.length ≤ 6) (hbp : ∀ i, (R.g i).pairs.length ≤ 1000) :
    Cn Tryz.prog 60 [.pointer (some ⟨r, 0, none⟩)] [] [blk r (redC (.slice A J2.us.length c) vM2 vC2 vR2 vK2 J2 cw ct co part ep R.g hv sb vs) 185, prsS (R.g) hv, rsl kIns vR2 J2.red, gl] (fun v Bs => ∃ u : Value, v = .tuple #[u, .int .i64 ((outR dg J2 R).2.1), .bool ((outR dg J2 R).2.2)] ∧ Bs = [osl kPair u ((outR dg J2 R).1)]) := by
 intro w0 F0 H
 obtain ⟨A1, c2, rfl, hc3, hm4, hp5⟩ := H.fR 2 rfl
 refine enter Tryz.func60 rfl rfl (Nat.le_of_ble_eq_true rfl) (c_seq (c_reg (s_k 3 rfl (s_nil (q_then ?_)))))
 replace H : Hd _ _ _ [] [blk r (redC (.slice A J2.us.length c) vM2 vC2 (.slice A1 J2.red.length c2) vK2 J2 cw ct co part ep R.g hv sb vs) 185, prsS (R.g) hv, rsl kIns (.slice A1 J2.red.length c2) J2.red, gl] := H
 refine c_seq (c_reg (s_1 rfl (sc (merged_ok r A c vM2 vC2 (.slice A1 J2.red.length c2) vK2 J2 cw ct co part ep R hv sb vs (by first | assumption | omega)) H (lR 0 rfl l0) rfl rfl (e_fn kn51 rfl rfl) ?_)))
 rintro v6 _ w rfl H
 replace H := H.h1 (A := osl (kInt .i64) v6 (mergedL J2.us.length R))
 refine s_1 rfl (s_nil (q_then (c_seq (c_seq (c_reg (s_1 rfl (s_val rfl rfl (r_peq rfl un75 rfl rfl) (s_k 2 rfl ?_))))))))
 obtain ⟨A7, c8, rfl, hc9, hm10, hp11⟩ := H.fA 0 rfl
 refine s_val rfl rfl (r_lenL rfl un24 rfl) (s_1 rfl (s_val rfl rfl (r_nilP rfl rfl) (s_val rfl rfl (r_fa rfl fo185_0 rfl) (s_val rfl rfl (r_fa rfl fo28_0 rfl) (s_val rfl rfl (r_fa rfl fo26_0 rfl) (s_val rfl rfl (r_ld rfl ty22 rfl (H.cellRI 0 rfl rfl)) (s_val rfl rfl (r_lenL rfl un22 rfl) (s_val rfl rfl (r_lt rfl rfl rfl) (s_1 rfl (s_nil (q_then ?_)))))))))))
 refine c_dec rfl (fun h12 => ?_) (fun h12 => ?_)
 ·refine c_seq (c_reg (s_k 3 rfl (s_nil (q_then (c_ret (q_thenR (q_ret3 rfl rfl rfl rfl ?_)))))))
  have e : outR dg J2 R = ([], 0, false) := if_pos (by omega)
  replace H := H.newnil kPair |>.k1
  exact fin ⟨(.slice none 0 0), by rw [e] <;> rfl, by rw [e] <;> rfl⟩ H
 refine c_skip (q_then (c_seq (c_reg (s_k 2 rfl (sc (of_ok r A c vM2 vC2 (.slice A1 J2.red.length c2) vK2 J2 cw ct co part ep R hv sb vs (.slice A7 ((mergedL J2.us.length R).length) c8) (mergedL J2.us.length R) (by first | assumption | omega) (by first | assumption | omega) (by first | assumption | omega) (by first | assumption | omega)) H (lR 0 rfl (lR 1 rfl (lA 0 rfl own_rd (lR 2 rfl (lR 3 rfl l0))))) rfl rfl (e_fn kn131 rfl rfl) ?_)))))
 rintro _ _ w ⟨u13, rfl, rfl⟩ H
 replace H := H.h1 (A := osl kPair u13 ((eachM dg J2.red (srt (runsOf J2.us.length R (mergedL J2.us.length R))) J2.fuel false).1))
 refine s_k 5 rfl (s_nil (q_then (c_seq (c_reg (s_k 5 rfl (s_nil (q_then (c_ret (q_ret3 rfl rfl rfl rfl ?_)))))))))
 have e : outR dg J2 R = ((eachM dg J2.red (srt (runsOf J2.us.length R (mergedL J2.us.length R))) J2.fuel false).1, (eachM dg J2.red (srt (runsOf J2.us.length R (mergedL J2.us.length R))) J2.fuel false).2, true) := if_neg (by omega)
 replace H := H.k1
 exact fin ⟨u13, by rw [e] <;> rfl, by rw [e] <;> rfl⟩ H
theorem redNew_ok (vS : Value) (vM : Value) (vC : Value) (vR : Value) (vK : Value) (C : Cf) (p : Int) (ep : Int) (vr : Value) (recs : List Rec) (hC : mayC C) (hp : In64 p) (he : In64 ep) (hgo : homeC C p ≠ 0 ∧ 1 ≤ ep) (hrs : ∀ r ∈ recs, (In64 r.sp ∧ r.set.length ≤ 1000) ∧ r.pairs.length ≤ 1000) (hrl : recs.length ≤ 100000) :
    Cn Tryz.prog 56 [.agg #[vS, .int .i64 C.J.parts, vM, vC, vR, .int .i64 C.J.chunk, .int .i64 C.J.window, .int .i64 C.J.fuel, vK, .int .i64 C.w, .int .i64 C.t, .int .i64 C.o], .int .i64 p, .int .i64 ep, vr] [] [rsl (kHd kPair) vS C.J.us, rsl kIns vM C.J.map, rsl kIns vC C.J.comb, rsl kIns vR C.J.red, rsl (kInt .i64) vK C.J.marks, rsl kRec vr recs] (fun v Bs => ∃ r : Nat, ∃ vS2 : Value, ∃ vM2 : Value, ∃ vC2 : Value, ∃ vR2 : Value, ∃ vK2 : Value, ∃ J2 : Job, ∃ hv : Nat → Value, ∃ sb : Nat, ∃ vs : Value, ∃ us : List (Value × List Int), v = .tuple #[.pointer (some ⟨r, 0, none⟩), .int .i64 0] ∧ Bs = [blk r (redC vS2 vM2 vC2 vR2 vK2 J2 C.w C.t C.o p ep ((newR J2.us.length p ep (recs.map Rec.p)).g) hv sb vs) 185, osl (kHd kPair) vS2 J2.us, osl kIns vM2 J2.map, osl kIns vC2 J2.comb, osl kIns vR2 J2.red, osl (kInt .i64) vK2 J2.marks, prsS ((newR J2.us.length p ep (recs.map Rec.p)).g) hv, osl (kHd (kInt .i64)) vs us, stgI 253 sb ([])] ∧ (SameJ J2 C.J) ∧ (us.map (·.2) = (newR J2.us.length p ep (recs.map Rec.p)).sets)) := by
 intro w0 F0 H
 obtain ⟨A1, c2, rfl, hc3, hm4, hp5⟩ := H.fR 0 rfl
 obtain ⟨A6, c7, rfl, hc8, hm9, hp10⟩ := H.fR 1 rfl
 obtain ⟨A11, c12, rfl, hc13, hm14, hp15⟩ := H.fR 2 rfl
 obtain ⟨A16, c17, rfl, hc18, hm19, hp20⟩ := H.fR 3 rfl
 obtain ⟨A21, c22, rfl, hc23, hm24, hp25⟩ := H.fR 4 rfl
 obtain ⟨A26, c27, rfl, hc28, hm29, hp30⟩ := H.fR 5 rfl
 refine enter Tryz.func56 rfl rfl (Nat.le_of_ble_eq_true rfl) (c_seq (c_reg (s_box rfl rfl rfl rfl H (fun b31 w H => (s_k 2 rfl (s_nil (q_then ?_)))))))
 replace H : Hd _ _ _ [blk b31 [.slice A1 C.J.us.length c2, .int .i64 C.J.parts, .slice A6 C.J.map.length c7, .slice A11 C.J.comb.length c12, .slice A16 C.J.red.length c17, .int .i64 C.J.chunk, .int .i64 C.J.window, .int .i64 C.J.fuel, .slice A21 C.J.marks.length c22, .int .i64 C.w, .int .i64 C.t, .int .i64 C.o] 28] [rsl (kHd kPair) (.slice A1 C.J.us.length c2) C.J.us, rsl kIns (.slice A6 C.J.map.length c7) C.J.map, rsl kIns (.slice A11 C.J.comb.length c12) C.J.comb, rsl kIns (.slice A16 C.J.red.length c17) C.J.red, rsl (kInt .i64) (.slice A21 C.J.marks.length c22) C.J.marks, rsl kRec (.slice A26 recs.length c27) recs] := H
 refine c_seq (c_seq (c_reg (s_val rfl rfl (r_ldA (cs := [.slice A1 C.J.us.length c2, .int .i64 C.J.parts, .slice A6 C.J.map.length c7, .slice A11 C.J.comb.length c12, .slice A16 C.J.red.length c17, .int .i64 C.J.chunk, .int .i64 C.J.window, .int .i64 C.J.fuel, .slice A21 C.J.marks.length c22, .int .i64 C.w, .int .i64 C.t, .int .i64 C.o]) rfl ty28 rfl rfl (H.cellsI 0 rfl rfl)) (s_1 rfl (sc (home_ok (.slice A1 C.J.us.length c2) (.slice A6 C.J.map.length c7) (.slice A11 C.J.comb.length c12) (.slice A16 C.J.red.length c17) (.slice A21 C.J.marks.length c22) C p (by first | assumption | omega)) H (lR 0 rfl (lR 1 rfl (lR 2 rfl (lR 3 rfl (lR 4 rfl l0))))) rfl rfl (e_fn kn71 rfl rfl) ?_)))))
 rintro _ _ w ⟨rfl, rfl⟩ H
 refine s_val rfl rfl (r_eq rfl rfl rfl) (s_1 rfl ?_)
 refine s_dec (d := 18) rfl (fun h32 => ?_) (fun h32 => ?_)
 ·exact (hgo.1 h32).elim
 refine s_1 rfl (s_val rfl rfl (r_lt rfl rfl rfl) (s_1 rfl (s_nil (q_then ?_))))
 replace H : Hd _ _ _ [blk b31 [.slice A1 C.J.us.length c2, .int .i64 C.J.parts, .slice A6 C.J.map.length c7, .slice A11 C.J.comb.length c12, .slice A16 C.J.red.length c17, .int .i64 C.J.chunk, .int .i64 C.J.window, .int .i64 C.J.fuel, .slice A21 C.J.marks.length c22, .int .i64 C.w, .int .i64 C.t, .int .i64 C.o] 28] [rsl (kHd kPair) (.slice A1 C.J.us.length c2) C.J.us, rsl kIns (.slice A6 C.J.map.length c7) C.J.map, rsl kIns (.slice A11 C.J.comb.length c12) C.J.comb, rsl kIns (.slice A16 C.J.red.length c17) C.J.red, rsl (kInt .i64) (.slice A21 C.J.marks.length c22) C.J.marks, rsl kRec (.slice A26 recs.length c27) recs] := H
 refine c_dec rfl (fun h33 => ?_) (fun h33 => ?_)
 ·exfalso; omega
 refine c_skip (q_then (c_seq (c_reg (s_val rfl rfl (r_ldA (cs := [.slice A1 C.J.us.length c2, .int .i64 C.J.parts, .slice A6 C.J.map.length c7, .slice A11 C.J.comb.length c12, .slice A16 C.J.red.length c17, .int .i64 C.J.chunk, .int .i64 C.J.window, .int .i64 C.J.fuel, .slice A21 C.J.marks.length c22, .int .i64 C.w, .int .i64 C.t, .int .i64 C.o]) rfl ty28 rfl rfl (H.cellsI 0 rfl rfl)) (sc (own_ok (.slice A1 C.J.us.length c2) (.slice A6 C.J.map.length c7) (.slice A11 C.J.comb.length c12) (.slice A16 C.J.red.length c17) (.slice A21 C.J.marks.length c22) C (by first | assumption | omega)) H (lR 0 rfl (lR 1 rfl (lR 2 rfl (lR 3 rfl (lR 4 rfl l0))))) rfl rfl (e_fn kn94 rfl rfl) ?_)))))
 rintro _ _ w ⟨J34, vS35, vM36, vC37, vR38, vK39, rfl, rfl, hf40⟩ H
 replace H := H.h5 (A := osl (kHd kPair) vS35 J34.us) (B := osl kIns vM36 J34.map) (C := osl kIns vC37 J34.comb) (D := osl kIns vR38 J34.red) (E := osl (kInt .i64) vK39 J34.marks)
 have hsj := hf40
 refine s_k 2 rfl (sc (stNew_ok) H l0 rfl rfl (e_fn kn128 rfl rfl) ?_)
 rintro _ _ w ⟨b41, rfl, rfl⟩ H
 obtain ⟨A42, c43, rfl, hc44, hm45, hp46⟩ := H.fA 1 rfl
 obtain ⟨A47, c48, rfl, hc49, hm50, hp51⟩ := H.fA 2 rfl
 obtain ⟨A52, c53, rfl, hc54, hm55, hp56⟩ := H.fA 3 rfl
 obtain ⟨A57, c58, rfl, hc59, hm60, hp61⟩ := H.fA 4 rfl
 obtain ⟨A62, c63, rfl, hc64, hm65, hp66⟩ := H.fA 5 rfl
 refine s_val rfl rfl (r_bd (parts := [(0, .tmp 23), (1, .tmp 24), (2, .tmp 25), (4, .tmp 26)]) (vs := [.agg #[.slice A42 J34.us.length c43, .int .i64 J34.parts, .slice A47 J34.map.length c48, .slice A52 J34.comb.length c53, .slice A57 J34.red.length c58, .int .i64 J34.chunk, .int .i64 J34.window, .int .i64 J34.fuel, .slice A62 J34.marks.length c63, .int .i64 C.w, .int .i64 C.t, .int .i64 C.o], .int .i64 p, .int .i64 ep, .pointer (some ⟨b41, 0, none⟩)]) (cs := [.slice A42 J34.us.length c43, .int .i64 J34.parts, .slice A47 J34.map.length c48, .slice A52 J34.comb.length c53, .slice A57 J34.red.length c58, .int .i64 J34.chunk, .int .i64 J34.window, .int .i64 J34.fuel, .slice A62 J34.marks.length c63, .int .i64 C.w, .int .i64 C.t, .int .i64 C.o, .int .i64 p, .int .i64 ep, .bool false, .slice none 0 0, .bool false, .int .i64 0, .int .i64 0, .bool false, .slice none 0 0, .bool false, .int .i64 0, .int .i64 0, .bool false, .slice none 0 0, .bool false, .int .i64 0, .int .i64 0, .bool false, .slice none 0 0, .bool false, .int .i64 0, .int .i64 0, .bool false, .slice none 0 0, .bool false, .int .i64 0, .int .i64 0, .bool false, .slice none 0 0, .bool false, .int .i64 0, .int .i64 0, .pointer (some ⟨b41, 0, none⟩), .slice none 0 0]) rfl bd185 rfl rfl) ?_
 refine s_box rfl rfl rfl rfl H (fun b67 w H => (s_1 rfl (s_nil (q_then ?_))))
 replace H : Hd _ _ _ [blk b67 [.slice A42 J34.us.length c43, .int .i64 J34.parts, .slice A47 J34.map.length c48, .slice A52 J34.comb.length c53, .slice A57 J34.red.length c58, .int .i64 J34.chunk, .int .i64 J34.window, .int .i64 J34.fuel, .slice A62 J34.marks.length c63, .int .i64 C.w, .int .i64 C.t, .int .i64 C.o, .int .i64 p, .int .i64 ep, .bool false, .slice none 0 0, .bool false, .int .i64 0, .int .i64 0, .bool false, .slice none 0 0, .bool false, .int .i64 0, .int .i64 0, .bool false, .slice none 0 0, .bool false, .int .i64 0, .int .i64 0, .bool false, .slice none 0 0, .bool false, .int .i64 0, .int .i64 0, .bool false, .slice none 0 0, .bool false, .int .i64 0, .int .i64 0, .bool false, .slice none 0 0, .bool false, .int .i64 0, .int .i64 0, .pointer (some ⟨b41, 0, none⟩), .slice none 0 0] 185, stgI 253 b41 ([]), osl (kHd kPair) (.slice A42 J34.us.length c43) J34.us, osl kIns (.slice A47 J34.map.length c48) J34.map, osl kIns (.slice A52 J34.comb.length c53) J34.comb, osl kIns (.slice A57 J34.red.length c58) J34.red, osl (kInt .i64) (.slice A62 J34.marks.length c63) J34.marks, blk b31 [.slice A1 C.J.us.length c2, .int .i64 C.J.parts, .slice A6 C.J.map.length c7, .slice A11 C.J.comb.length c12, .slice A16 C.J.red.length c17, .int .i64 C.J.chunk, .int .i64 C.J.window, .int .i64 C.J.fuel, .slice A21 C.J.marks.length c22, .int .i64 C.w, .int .i64 C.t, .int .i64 C.o] 28] [rsl (kHd kPair) (.slice A1 C.J.us.length c2) C.J.us, rsl kIns (.slice A6 C.J.map.length c7) C.J.map, rsl kIns (.slice A11 C.J.comb.length c12) C.J.comb, rsl kIns (.slice A16 C.J.red.length c17) C.J.red, rsl (kInt .i64) (.slice A21 C.J.marks.length c22) C.J.marks, rsl kRec (.slice A26 recs.length c27) recs] := H
 refine c_seq (c_seq ?_)
 have hlen : J34.us.length ≤ 6 := by have := hC.1.1; have := hsj.len; omega
 replace H := (H.newnil (kHd (kInt .i64))).prsN
 replace H := H.h2 (A := prsS ((red0 p ep).g) (fun _ => .slice none 0 0)) (B := osl (kHd (kInt .i64)) (.slice none 0 0) []) |>.p8 |>.p8 |>.p8 |>.p8 |>.p8 |>.p7 |>.k9 |>.h1 (A := blk b67 (redC (.slice A42 J34.us.length c43) (.slice A47 J34.map.length c48) (.slice A52 J34.comb.length c53) (.slice A57 J34.red.length c58) (.slice A62 J34.marks.length c63) J34 C.w C.t C.o p ep ((red0 p ep).g) (fun _ => .slice none 0 0) b41 (.slice none 0 0)) 185)
 refine c_reg (s_1 rfl (s_val rfl rfl (r_lenL rfl un29 rfl) (s_1 rfl (s_nil (q_then (c_block (c_loop (σ := Nat × Red × (Nat → Value) × Value × List (Value × List Int)) (fun (k, R, hv, vs, us) => [(1, .int .i64 p), (8, .pointer none), (9, .int .i64 0), (10, .pointer (some ⟨b67, 0, none⟩)), (29, .slice A26 recs.length c27), (30, .int .i64 ((recs.length : Nat) : Int)), (31, .int .i64 ((k : Nat) : Int))]) (fun (k, R, hv, vs, us) w => (Hd w0 F0 w [blk b67 (redC (.slice A42 J34.us.length c43) (.slice A47 J34.map.length c48) (.slice A52 J34.comb.length c53) (.slice A57 J34.red.length c58) (.slice A62 J34.marks.length c63) J34 C.w C.t C.o p ep R.g hv b41 vs) 185, osl (kHd kPair) (.slice A42 J34.us.length c43) J34.us, osl kIns (.slice A47 J34.map.length c48) J34.map, osl kIns (.slice A52 J34.comb.length c53) J34.comb, osl kIns (.slice A57 J34.red.length c58) J34.red, osl (kInt .i64) (.slice A62 J34.marks.length c63) J34.marks, prsS (R.g) hv, osl (kHd (kInt .i64)) vs us, stgI 253 b41 ([])] [rsl (kHd kPair) (.slice A1 C.J.us.length c2) C.J.us, rsl kIns (.slice A6 C.J.map.length c7) C.J.map, rsl kIns (.slice A11 C.J.comb.length c12) C.J.comb, rsl kIns (.slice A16 C.J.red.length c17) C.J.red, rsl (kInt .i64) (.slice A21 C.J.marks.length c22) C.J.marks, rsl kRec (.slice A26 recs.length c27) recs]) ∧ (R = newR J34.us.length p ep ((recs.take k).map Rec.p)) ∧ (R.part = p) ∧ (us.map (·.2) = R.sets) ∧ (k ≤ recs.length) ∧ (us.length ≤ k)) (fun (k, R, hv, vs, us) => recs.length - k) (0, red0 p ep, (fun _ => .slice none 0 0), .slice none 0 0, []) ⟨rfl, rfl, rfl, rfl, rfl, rfl, rfl, trivial⟩ ⟨H, rfl, rfl, rfl, Nat.zero_le _, Nat.le_refl _⟩ ?_)))))))
 rintro ⟨k, R, hv, vs, us⟩ w ⟨H, hR, hRp, hus, hk, hul⟩
 refine c_seq (c_reg (s_val rfl rfl (r_lt rfl rfl rfl) (s_nil (q_then (c_seq ?_)))))
 refine c_dec rfl (fun h68 => ?_) (fun h68 => ?_)
 ·refine c_skip (q_then (c_seq (c_block (c_seq ?_))))
  obtain ⟨⟨a71, a72, a73, a74, a75, sv76, se77, pv78, pr79⟩, hx70⟩ : ∃ z9, recs[k]? = some z9 := ⟨_, List.getElem?_eq_getElem (show k < recs.length by omega)⟩
  obtain ⟨A80, c81, A82, c83, rfl, rfl, m84, m85, m86, m87⟩ := H.nestRr 5 rfl hx70
  have hr1 := hrs _ (at_mem hx70)
  unfold In64 at hr1
  dsimp only at hr1
  refine c_reg ?_
  have th88 := H.thRr 5 rfl hx70
  refine s_val rfl rfl (r_iaE (p := oOf A26 + k * 7) rfl sl29 rfl rfl (by omega) (by omega) th88 rfl) (s_val rfl rfl (r_ldA (cs := [.int .i64 a71, .int .i64 a72, .int .i64 a73, .int .i64 a74, .int .i64 a75, .slice A80 se77.length c81, .slice A82 pr79.length c83]) rfl ty37 rfl rfl (H.elsRr 5 rfl hx70 rfl)) (s_alloc rfl rfl rfl zr37 H (fun b89 w H => (s_st rfl rfl rfl ty37 rfl rfl H rfl (Nat.le_of_ble_eq_true rfl) (fun u hu => by simp [Value.cells] at hu; rcases hu with rfl | rfl | rfl | rfl | rfl | rfl | rfl <;> rfl) (fun w H => ?_)))))
  replace H : Hd _ _ _ [blk b89 [.int .i64 a71, .int .i64 a72, .int .i64 a73, .int .i64 a74, .int .i64 a75, .slice A80 se77.length c81, .slice A82 pr79.length c83] 37, blk b67 (redC (.slice A42 J34.us.length c43) (.slice A47 J34.map.length c48) (.slice A52 J34.comb.length c53) (.slice A57 J34.red.length c58) (.slice A62 J34.marks.length c63) J34 C.w C.t C.o p ep R.g hv b41 vs) 185, osl (kHd kPair) (.slice A42 J34.us.length c43) J34.us, osl kIns (.slice A47 J34.map.length c48) J34.map, osl kIns (.slice A52 J34.comb.length c53) J34.comb, osl kIns (.slice A57 J34.red.length c58) J34.red, osl (kInt .i64) (.slice A62 J34.marks.length c63) J34.marks, prsS (R.g) hv, osl (kHd (kInt .i64)) vs us, stgI 253 b41 ([])] [rsl (kHd kPair) (.slice A1 C.J.us.length c2) C.J.us, rsl kIns (.slice A6 C.J.map.length c7) C.J.map, rsl kIns (.slice A11 C.J.comb.length c12) C.J.comb, rsl kIns (.slice A16 C.J.red.length c17) C.J.red, rsl (kInt .i64) (.slice A21 C.J.marks.length c22) C.J.marks, rsl kRec (.slice A26 recs.length c27) recs] := H
  refine s_nil (q_then (c_seq (c_seq (c_reg (s_val rfl rfl (r_fa rfl fo37_1 rfl) (s_val rfl rfl (r_ld rfl ty3 rfl (H.cellI 0 rfl rfl)) (s_1 rfl (s_val rfl rfl (r_ne rfl rfl rfl) (s_nil (q_then ?_))))))))))
  refine c_dec rfl (fun h90 => ?_) (fun h90 => ?_)
  ·refine c_exit (q_thenE (q_blockE (q_then (c_reg (s_val rfl rfl (r_add (z := ((k + 1 : Nat) : Int)) rfl rfl rfl (by rw [w64 (by omega) (by omega)]; omega)) (s_1 rfl (s_nil ?_)))))))
   have hpart : (Rec.p (⟨a71, a72, a73, a74, a75, .slice A80 se77.length c81, se77, .slice A82 pr79.length c83, pr79⟩ : Rec)).part ≠ R.part := by rw [hRp]; exact h90
   have hR2 := newR_take hR hx70 (recIn_skip hpart)
   replace H := H.p9.p9.p9.p9.p9.p9.p9.p9.p9.k9
   exact q_round (s := (k, R, hv, undef, us)) (k + 1, R, hv, vs, us) ⟨rfl, rfl, rfl, rfl, rfl, rfl, rfl, trivial⟩ ⟨H, hR2, hRp, by (try dsimp only); exact hus, by (try dsimp only); omega, by (try dsimp only); omega⟩ (by (try dsimp only); omega)
  refine c_skip (q_then (c_seq (c_seq ?_)))
  by_cases hin91 : 0 ≤ a73 ∧ a73 < ((J34.us.length : Nat) : Int)
  ·refine c_reg (s_1 rfl (s_val rfl rfl (r_fa rfl fo37_2 rfl) (s_val rfl rfl (r_ld rfl ty3 rfl (H.cellI 0 rfl rfl)) (sc (at_ok b67 A42 J34.us.length c43 (.slice A47 J34.map.length c48) (.slice A52 J34.comb.length c53) (.slice A57 J34.red.length c58) (.slice A62 J34.marks.length c63) J34 C.w C.t C.o p ep R.g hv b41 vs a73 (by first | assumption | omega) (by first | assumption | omega)) H (lA 1 rfl (fun _ h => h) l0) rfl rfl (e_fn kn118 rfl rfl) ?_))))
   rintro _ _ w ⟨rfl, rfl⟩ H
   refine s_1 rfl (s_nil (q_then (c_seq (c_reg (s_val rfl rfl (r_fa rfl fo37_0 rfl) (s_val rfl rfl (r_ld rfl ty3 rfl (H.cellI 0 rfl rfl)) (s_val rfl rfl (r_eq rfl rfl rfl) (s_1 rfl ?_))))))))
   refine s_dec (d := 46) rfl (fun h92 => ?_) (fun h92 => ?_)
   ·refine s_1 rfl (s_val rfl rfl (r_pne rfl un178 rfl rfl) (s_k 3 rfl (s_val rfl rfl (r_nilP rfl rfl) (s_val rfl rfl (r_fa rfl fo181_0 rfl) (s_val rfl rfl (r_ld rfl ty4 rfl (H.cellI 1 rfl (redC_at0 (by omega)))) (s_val rfl rfl (r_not rfl rfl rfl) (s_1 rfl (s_nil (q_then ?_)))))))))
    refine c_cond (b := !((R.g ((a73).toNat)).merged)) rfl (fun h93 => ?_) (fun h93 => ?_)
    ·refine c_reg (s_k 2 rfl (s_val rfl rfl (r_fa rfl fo37_6 rfl) (s_val rfl rfl (r_ld rfl ty35 rfl (H.cellI 0 rfl rfl)) (sc (clone_ok (.slice A82 pr79.length c83) pr79 (by first | assumption | omega)) H (lX (fun F hA hR => rec_pairs (hR _ (List.mem_of_getElem? (i := 5) rfl)) hx70) l0) rfl rfl (e_fn kn123 rfl rfl) ?_))))
     rintro v94 _ w rfl H
     refine s_val rfl rfl (r_nilP rfl rfl) (s_val rfl rfl (r_fa rfl fo181_0 rfl) ?_)
     replace H := H.p2
     refine s_st rfl rfl rfl ty4 rfl rfl H rfl (by show 14 + ((a73).toNat) * 5 + 0 + 1 ≤ 46; omega) (fun u hu => by simp [Value.cells] at hu; subst hu; rfl) (fun w H => ?_)
     replace H : Hd w0 F0 w [blk b67 (redC (.slice A42 J34.us.length c43) (.slice A47 J34.map.length c48) (.slice A52 J34.comb.length c53) (.slice A57 J34.red.length c58) (.slice A62 J34.marks.length c63) J34 C.w C.t C.o p ep (setD R.g ((a73).toNat) { R.g ((a73).toNat) with merged := true }) hv b41 vs) 185, osl kPair v94 pr79, blk b89 [.int .i64 a71, .int .i64 a72, .int .i64 a73, .int .i64 a74, .int .i64 a75, .slice A80 se77.length c81, .slice A82 pr79.length c83] 37, osl (kHd kPair) (.slice A42 J34.us.length c43) J34.us, osl kIns (.slice A47 J34.map.length c48) J34.map, osl kIns (.slice A52 J34.comb.length c53) J34.comb, osl kIns (.slice A57 J34.red.length c58) J34.red, osl (kInt .i64) (.slice A62 J34.marks.length c63) J34.marks, prsS (R.g) hv, osl (kHd (kInt .i64)) vs us, stgI 253 b41 ([])] [rsl (kHd kPair) (.slice A1 C.J.us.length c2) C.J.us, rsl kIns (.slice A6 C.J.map.length c7) C.J.map, rsl kIns (.slice A11 C.J.comb.length c12) C.J.comb, rsl kIns (.slice A16 C.J.red.length c17) C.J.red, rsl (kInt .i64) (.slice A21 C.J.marks.length c22) C.J.marks, rsl kRec (.slice A26 recs.length c27) recs] := by rw [← redC_put0 (show (a73).toNat < 6 by omega) true]; exact H
     refine s_val rfl rfl (r_nilP rfl rfl) (s_val rfl rfl (r_fa rfl fo181_1 rfl) ?_)
     obtain ⟨A95, c96, rfl, hc97, hm98, hp99⟩ := H.fA 1 rfl
     refine s_st rfl rfl rfl ty35 rfl rfl H rfl (by show 14 + ((a73).toNat) * 5 + 1 + 1 ≤ 46; omega) (fun u hu => by simp [Value.cells] at hu; subst hu; rfl) (fun w H => ?_)
     replace H : Hd w0 F0 w [blk b67 (redC (.slice A42 J34.us.length c43) (.slice A47 J34.map.length c48) (.slice A52 J34.comb.length c53) (.slice A57 J34.red.length c58) (.slice A62 J34.marks.length c63) J34 C.w C.t C.o p ep (setD R.g ((a73).toNat) { R.g ((a73).toNat) with merged := true }) (setD hv ((a73).toNat) (.slice A95 pr79.length c96 : Value)) b41 vs) 185, osl kPair (.slice A95 pr79.length c96) pr79, blk b89 [.int .i64 a71, .int .i64 a72, .int .i64 a73, .int .i64 a74, .int .i64 a75, .slice A80 se77.length c81, .slice A82 pr79.length c83] 37, osl (kHd kPair) (.slice A42 J34.us.length c43) J34.us, osl kIns (.slice A47 J34.map.length c48) J34.map, osl kIns (.slice A52 J34.comb.length c53) J34.comb, osl kIns (.slice A57 J34.red.length c58) J34.red, osl (kInt .i64) (.slice A62 J34.marks.length c63) J34.marks, prsS (R.g) hv, osl (kHd (kInt .i64)) vs us, stgI 253 b41 ([])] [rsl (kHd kPair) (.slice A1 C.J.us.length c2) C.J.us, rsl kIns (.slice A6 C.J.map.length c7) C.J.map, rsl kIns (.slice A11 C.J.comb.length c12) C.J.comb, rsl kIns (.slice A16 C.J.red.length c17) C.J.red, rsl (kInt .i64) (.slice A21 C.J.marks.length c22) C.J.marks, rsl kRec (.slice A26 recs.length c27) recs] := by rw [← redC_put1 (show (a73).toNat < 6 by omega) (.slice A95 pr79.length c96 : Value)]; exact H
     refine s_nil (q_then (c_seq (c_reg (s_val rfl rfl (r_fa rfl fo37_0 rfl) (s_val rfl rfl (r_ld rfl ty3 rfl (H.cellI 2 rfl rfl)) (s_val rfl rfl (r_eq rfl rfl rfl) (s_nil (q_then ?_))))))))
     refine c_dec rfl (fun h100 => ?_) (fun h100 => ?_)
     ·exfalso; omega
     refine c_skip (q_blockN (q_then (c_reg (s_val rfl rfl (r_add (z := ((k + 1 : Nat) : Int)) rfl rfl rfl (by rw [w64 (by omega) (by omega)]; omega)) (s_1 rfl (s_nil ?_))))))
     have hpart : (Rec.p (⟨a71, a72, a73, a74, a75, .slice A80 se77.length c81, se77, .slice A82 pr79.length c83, pr79⟩ : Rec)).part = R.part := by rw [hRp]; exact Classical.not_not.1 h90
     replace H := H.pick 10 rfl |>.pick 10 rfl |>.p9 |>.p9 |>.p9 |>.p9 |>.p9 |>.p7 |>.pick 10 rfl |>.p9 |>.k10 |>.prsU (i := (a73).toNat) (x := ({ R.g (a73).toNat with merged := true, pairs := pr79 } : SpD)) (by omega)
     replace H : Hd w0 F0 w [prsS (({ R with g := setD R.g (a73).toNat ({ R.g (a73).toNat with merged := true, pairs := pr79 } : SpD) } : Red).g) (setD hv (a73).toNat (.slice A95 pr79.length c96 : Value)), blk b67 (redC (.slice A42 J34.us.length c43) (.slice A47 J34.map.length c48) (.slice A52 J34.comb.length c53) (.slice A57 J34.red.length c58) (.slice A62 J34.marks.length c63) J34 C.w C.t C.o p ep (({ R with g := setD R.g (a73).toNat ({ R.g (a73).toNat with merged := true, pairs := pr79 } : SpD) } : Red).g) (setD hv (a73).toNat (.slice A95 pr79.length c96 : Value)) b41 vs) 185, osl (kHd kPair) (.slice A42 J34.us.length c43) J34.us, osl kIns (.slice A47 J34.map.length c48) J34.map, osl kIns (.slice A52 J34.comb.length c53) J34.comb, osl kIns (.slice A57 J34.red.length c58) J34.red, osl (kInt .i64) (.slice A62 J34.marks.length c63) J34.marks, osl (kHd (kInt .i64)) vs us, stgI 253 b41 ([])] [rsl (kHd kPair) (.slice A1 C.J.us.length c2) C.J.us, rsl kIns (.slice A6 C.J.map.length c7) C.J.map, rsl kIns (.slice A11 C.J.comb.length c12) C.J.comb, rsl kIns (.slice A16 C.J.red.length c17) C.J.red, rsl (kInt .i64) (.slice A21 C.J.marks.length c22) C.J.marks, rsl kRec (.slice A26 recs.length c27) recs] := by
       rw [← redC_congr (g := setD R.g (a73).toNat { R.g (a73).toNat with merged := true }) (g' := ({ R with g := setD R.g (a73).toNat ({ R.g (a73).toNat with merged := true, pairs := pr79 } : SpD) } : Red).g) (fun j => by dsimp only; by_cases e : j = (a73).toNat <;> first | (subst e; rw [setD_self, setD_self]; exact ⟨rfl, rfl, rfl, rfl⟩) | (rw [setD_ne _ _ e, setD_ne _ _ e]; exact ⟨rfl, rfl, rfl, rfl⟩))]
       exact H
     have hR2 := newR_take hR hx70 (recIn_m hpart h92 hin91 (by simpa [Rec.p] using h93))
     replace H := H.sel 9 [1, 2, 3, 4, 5, 6, 0, 7, 8] [] rfl (by kernel_rfl)
     replace H : Hd _ _ _ [blk b67 (redC (.slice A42 J34.us.length c43) (.slice A47 J34.map.length c48) (.slice A52 J34.comb.length c53) (.slice A57 J34.red.length c58) (.slice A62 J34.marks.length c63) J34 C.w C.t C.o p ep (({ R with g := setD R.g (a73).toNat ({ R.g (a73).toNat with merged := true, pairs := pr79 } : SpD) } : Red).g) (setD hv (a73).toNat (.slice A95 pr79.length c96 : Value)) b41 vs) 185, osl (kHd kPair) (.slice A42 J34.us.length c43) J34.us, osl kIns (.slice A47 J34.map.length c48) J34.map, osl kIns (.slice A52 J34.comb.length c53) J34.comb, osl kIns (.slice A57 J34.red.length c58) J34.red, osl (kInt .i64) (.slice A62 J34.marks.length c63) J34.marks, prsS (({ R with g := setD R.g (a73).toNat ({ R.g (a73).toNat with merged := true, pairs := pr79 } : SpD) } : Red).g) (setD hv (a73).toNat (.slice A95 pr79.length c96 : Value)), osl (kHd (kInt .i64)) vs us, stgI 253 b41 ([])] [rsl (kHd kPair) (.slice A1 C.J.us.length c2) C.J.us, rsl kIns (.slice A6 C.J.map.length c7) C.J.map, rsl kIns (.slice A11 C.J.comb.length c12) C.J.comb, rsl kIns (.slice A16 C.J.red.length c17) C.J.red, rsl (kInt .i64) (.slice A21 C.J.marks.length c22) C.J.marks, rsl kRec (.slice A26 recs.length c27) recs] := H
     exact q_round (s := (k, R, hv, undef, us)) (k + 1, ({ R with g := setD R.g (a73).toNat ({ R.g (a73).toNat with merged := true, pairs := pr79 } : SpD) } : Red), setD hv (a73).toNat (.slice A95 pr79.length c96 : Value), vs, us) ⟨rfl, rfl, rfl, rfl, rfl, rfl, rfl, trivial⟩ ⟨H, hR2, hRp, by (try dsimp only); exact hus, by (try dsimp only); omega, by (try dsimp only); omega⟩ (by (try dsimp only); omega)
    refine c_skip (q_then (c_seq (c_reg (s_val rfl rfl (r_fa rfl fo37_0 rfl) (s_val rfl rfl (r_ld rfl ty3 rfl (H.cellI 0 rfl rfl)) (s_val rfl rfl (r_eq rfl rfl rfl) (s_nil (q_then ?_))))))))
    refine c_dec rfl (fun h101 => ?_) (fun h101 => ?_)
    ·exfalso; omega
    refine c_skip (q_blockN (q_then (c_reg (s_val rfl rfl (r_add (z := ((k + 1 : Nat) : Int)) rfl rfl rfl (by rw [w64 (by omega) (by omega)]; omega)) (s_1 rfl (s_nil ?_))))))
    have hpart : (Rec.p (⟨a71, a72, a73, a74, a75, .slice A80 se77.length c81, se77, .slice A82 pr79.length c83, pr79⟩ : Rec)).part = R.part := by rw [hRp]; exact Classical.not_not.1 h90
    have hR2 := newR_take hR hx70 (recIn_no hpart (fun h => by have h2 := h.2.2; have h3 := h93; dsimp only [Rec.p] at h2; rw [h2] at h3; exact absurd h3 (by decide)) h101)
    replace H := H.p9.p9.p9.p9.p9.p9.p9.p9.p9.k9
    exact q_round (s := (k, R, hv, undef, us)) (k + 1, R, hv, vs, us) ⟨rfl, rfl, rfl, rfl, rfl, rfl, rfl, trivial⟩ ⟨H, hR2, hRp, by (try dsimp only); exact hus, by (try dsimp only); omega, by (try dsimp only); omega⟩ (by (try dsimp only); omega)
   refine s_k 10 rfl (s_nil (q_then (c_no rfl (c_skip (q_then (c_seq (c_reg (s_val rfl rfl (r_fa rfl fo37_0 rfl) (s_val rfl rfl (r_ld rfl ty3 rfl (H.cellI 0 rfl rfl)) (s_val rfl rfl (r_eq rfl rfl rfl) (s_nil (q_then ?_))))))))))))
   refine c_dec rfl (fun h102 => ?_) (fun h102 => ?_)
   ·replace H := H.p9.p8.p8.p8.p8.p8.p8.p7
    refine c_ord (.e 0 (.e 1 (.e 2 (.e 3 (.e 5 (.e 6 (.b 4 7 (.m 7 (.m 8 (.m 9 (.e 10 (.e 11 (.m 12 .z)))))) (.b 4 8 (.m 8 (.m 9 (.e 10 (.e 11 (.m 12 .z))))) (.m 4 (.m 9 (.e 10 (.e 11 (.m 12 .z))))))))))))) (fun w => ∃ Ar, Hd w0 F0 w (blk b89 [.int .i64 a71, .int .i64 a72, .int .i64 a73, .int .i64 a74, .int .i64 a75, .slice A80 se77.length c81, .slice A82 pr79.length c83] 37 :: osl (kHd kPair) (.slice A42 J34.us.length c43) J34.us :: osl kIns (.slice A47 J34.map.length c48) J34.map :: osl kIns (.slice A52 J34.comb.length c53) J34.comb :: osl kIns (.slice A57 J34.red.length c58) J34.red :: osl (kInt .i64) (.slice A62 J34.marks.length c63) J34.marks :: prsS (R.g) hv :: stgI 253 b41 ([]) :: Ar) [rsl (kHd kPair) (.slice A1 C.J.us.length c2) C.J.us, rsl kIns (.slice A6 C.J.map.length c7) C.J.map, rsl kIns (.slice A11 C.J.comb.length c12) C.J.comb, rsl kIns (.slice A16 C.J.red.length c17) C.J.red, rsl (kInt .i64) (.slice A21 C.J.marks.length c22) C.J.marks, rsl kRec (.slice A26 recs.length c27) recs]) mo (by kernel_rfl) (fun w H => ⟨_, H⟩) H (fun w H => ?_)
    refine d_1 rfl (d_1 rfl (d_val rfl rfl rfl (fun w ⟨Ar, H⟩ => r_nilP rfl rfl) (d_val rfl rfl rfl (fun w ⟨Ar, H⟩ => r_fa rfl fo185_5 rfl) (d_val rfl rfl rfl (fun w ⟨Ar, H⟩ => r_fa rfl fo37_5 rfl) (d_val rfl rfl rfl (fun w ⟨Ar, H⟩ => r_ld rfl ty24 rfl (H.cellI 0 rfl rfl)) ?_)))))
    refine d_both rfl rfl ?_ ?_
    ·refine s_val rfl rfl (r_ld rfl ty144 rfl (H.cellI 8 rfl rfl)) (d_back ⟨_, H⟩ (d_main rfl (sc (cloneInt_ok (.slice A80 se77.length c81) se77 (by first | assumption | omega)) H (lX (fun F hA hR => rec_set (hR _ (List.mem_of_getElem? (i := 5) rfl)) hx70) l0) rfl rfl (e_fn kn129 rfl rfl) ?_)))
     rintro v103 _ w rfl H
     replace H := H.h1 (A := osl (kInt .i64) v103 se77) |>.p8 |>.p8 |>.p8 |>.p8 |>.p8 |>.p8 |>.p8 |>.p8
     refine d_back ⟨_, H⟩ (d_main rfl ?_)
     obtain ⟨A105, c106, rfl, hc107, hm108, hp109⟩ := H.fA 8 rfl
     refine s_bsl (parts := [(0, .tmp 76)]) (vs := [.slice A105 se77.length c106]) (cs := [.slice A105 se77.length c106]) rfl rfl rfl sl144 zr24 rfl (by decide) (by decide) rfl rfl H (fun b104 w H => ?_)
     replace H : Hd _ _ _ [blk b104 [.slice A105 se77.length c106] 24, blk b89 [.int .i64 a71, .int .i64 a72, .int .i64 a73, .int .i64 a74, .int .i64 a75, .slice A80 se77.length c81, .slice A82 pr79.length c83] 37, osl (kHd kPair) (.slice A42 J34.us.length c43) J34.us, osl kIns (.slice A47 J34.map.length c48) J34.map, osl kIns (.slice A52 J34.comb.length c53) J34.comb, osl kIns (.slice A57 J34.red.length c58) J34.red, osl (kInt .i64) (.slice A62 J34.marks.length c63) J34.marks, prsS (R.g) hv, stgI 253 b41 ([]), osl (kInt .i64) (.slice A105 se77.length c106) se77, blk b67 (redC (.slice A42 J34.us.length c43) (.slice A47 J34.map.length c48) (.slice A52 J34.comb.length c53) (.slice A57 J34.red.length c58) (.slice A62 J34.marks.length c63) J34 C.w C.t C.o p ep R.g hv b41 vs) 185, osl (kHd (kInt .i64)) vs us] [rsl (kHd kPair) (.slice A1 C.J.us.length c2) C.J.us, rsl kIns (.slice A6 C.J.map.length c7) C.J.map, rsl kIns (.slice A11 C.J.comb.length c12) C.J.comb, rsl kIns (.slice A16 C.J.red.length c17) C.J.red, rsl (kInt .i64) (.slice A21 C.J.marks.length c22) C.J.marks, rsl kRec (.slice A26 recs.length c27) recs] := H
     replace H := H.p8.p8.p8.p8.p8.p8.p8.p8
     refine d_back ⟨_, H⟩ (d_main rfl ?_)
     replace H := H.pick 11 rfl |>.pick 10 rfl |>.pick 10 rfl |>.p2
     refine s_appH rfl rfl rfl sl144 zr24 rfl (by decide) rfl rfl H (by first | omega | (simp only [List.length_append, List.length_cons, List.length_nil]; omega)) (fun v110 w H => ?_)
     replace H := H.h1 (A := osl (kHd (kInt .i64)) v110 (us ++ [((.slice A105 se77.length c106 : Value), se77)])) |>.p8 |>.p8 |>.p8 |>.p8 |>.p8 |>.p8 |>.p8 |>.p8
     refine d_back ⟨_, H⟩ (d_val rfl rfl rfl (fun w ⟨Ar, H⟩ => r_nilP rfl rfl) (d_val rfl rfl rfl (fun w ⟨Ar, H⟩ => r_fa rfl fo185_5 rfl) (d_main rfl ?_)))
     obtain ⟨A111, c112, rfl, hc113, hm114, hp115⟩ := H.fA 8 rfl
     replace H := H.p9
     refine s_st rfl rfl rfl ty144 rfl rfl H rfl (Nat.le_of_ble_eq_true rfl) (fun u hu => by simp [Value.cells] at hu; subst hu; rfl) (fun w H => ?_)
     replace H : Hd _ _ _ [blk b67 (redC (.slice A42 J34.us.length c43) (.slice A47 J34.map.length c48) (.slice A52 J34.comb.length c53) (.slice A57 J34.red.length c58) (.slice A62 J34.marks.length c63) J34 C.w C.t C.o p ep R.g hv b41 (.slice A111 ((us ++ [((.slice A105 se77.length c106 : Value), se77)]).length) c112)) 185, blk b89 [.int .i64 a71, .int .i64 a72, .int .i64 a73, .int .i64 a74, .int .i64 a75, .slice A80 se77.length c81, .slice A82 pr79.length c83] 37, osl (kHd kPair) (.slice A42 J34.us.length c43) J34.us, osl kIns (.slice A47 J34.map.length c48) J34.map, osl kIns (.slice A52 J34.comb.length c53) J34.comb, osl kIns (.slice A57 J34.red.length c58) J34.red, osl (kInt .i64) (.slice A62 J34.marks.length c63) J34.marks, prsS (R.g) hv, stgI 253 b41 ([]), osl (kHd (kInt .i64)) (.slice A111 ((us ++ [((.slice A105 se77.length c106 : Value), se77)]).length) c112) (us ++ [((.slice A105 se77.length c106 : Value), se77)])] [rsl (kHd kPair) (.slice A1 C.J.us.length c2) C.J.us, rsl kIns (.slice A6 C.J.map.length c7) C.J.map, rsl kIns (.slice A11 C.J.comb.length c12) C.J.comb, rsl kIns (.slice A16 C.J.red.length c17) C.J.red, rsl (kInt .i64) (.slice A21 C.J.marks.length c22) C.J.marks, rsl kRec (.slice A26 recs.length c27) recs] := H
     replace H := H.p8.p8.p8.p8.p8.p8.p8.p8
     refine d_back ⟨_, H⟩ (d_nil (q_blockN (q_then (c_reg (s_val rfl rfl (r_add (z := ((k + 1 : Nat) : Int)) rfl rfl rfl (by rw [w64 (by omega) (by omega)]; omega)) (s_1 rfl (s_nil ?_)))))))
     have hpart : (Rec.p (⟨a71, a72, a73, a74, a75, .slice A80 se77.length c81, se77, .slice A82 pr79.length c83, pr79⟩ : Rec)).part = R.part := by rw [hRp]; exact Classical.not_not.1 h90
     have hR2 := newR_take hR hx70 (recIn_s hpart h102)
     replace H := H.p7.p9.p8.p8.p8.p8.p8.p8.p9.k9.h7 (A := blk b67 (redC (.slice A42 J34.us.length c43) (.slice A47 J34.map.length c48) (.slice A52 J34.comb.length c53) (.slice A57 J34.red.length c58) (.slice A62 J34.marks.length c63) J34 C.w C.t C.o p ep (({ R with sets := R.sets ++ [se77] } : Red).g) hv b41 (.slice A111 ((us ++ [((.slice A105 se77.length c106 : Value), se77)]).length) c112)) 185) (G := prsS (({ R with sets := R.sets ++ [se77] } : Red).g) hv)
     exact q_round (s := (k, R, hv, undef, us)) (k + 1, ({ R with sets := R.sets ++ [se77] } : Red), hv, .slice A111 ((us ++ [((.slice A105 se77.length c106 : Value), se77)]).length) c112, us ++ [((.slice A105 se77.length c106 : Value), se77)]) ⟨rfl, rfl, rfl, rfl, rfl, rfl, rfl, trivial⟩ ⟨H, hR2, hRp, by (try dsimp only); rw [List.map_append, hus]; rfl, by (try dsimp only); omega, by (try dsimp only); rw [List.length_append]; simp only [List.length_cons, List.length_nil]; omega⟩ (by (try dsimp only); omega)
    refine sc (cloneInt_ok (.slice A80 se77.length c81) se77 (by first | assumption | omega)) H (lX (fun F hA hR => rec_set (hR _ (List.mem_of_getElem? (i := 5) rfl)) hx70) l0) rfl rfl (e_fn kn129 rfl rfl) ?_
    rintro v116 _ w rfl H
    replace H := H.h1 (A := osl (kInt .i64) v116 se77) |>.p8 |>.p8 |>.p8 |>.p8 |>.p8 |>.p8 |>.p8 |>.p8
    refine d_back ⟨_, H⟩ ?_
    refine d_both rfl rfl ?_ ?_
    ·refine s_val rfl rfl (r_ld rfl ty144 rfl (H.cellI 9 rfl rfl)) (d_back ⟨_, H⟩ (d_main rfl ?_))
     obtain ⟨A118, c119, rfl, hc120, hm121, hp122⟩ := H.fA 8 rfl
     refine s_bsl (parts := [(0, .tmp 76)]) (vs := [.slice A118 se77.length c119]) (cs := [.slice A118 se77.length c119]) rfl rfl rfl sl144 zr24 rfl (by decide) (by decide) rfl rfl H (fun b117 w H => ?_)
     replace H : Hd _ _ _ [blk b117 [.slice A118 se77.length c119] 24, blk b89 [.int .i64 a71, .int .i64 a72, .int .i64 a73, .int .i64 a74, .int .i64 a75, .slice A80 se77.length c81, .slice A82 pr79.length c83] 37, osl (kHd kPair) (.slice A42 J34.us.length c43) J34.us, osl kIns (.slice A47 J34.map.length c48) J34.map, osl kIns (.slice A52 J34.comb.length c53) J34.comb, osl kIns (.slice A57 J34.red.length c58) J34.red, osl (kInt .i64) (.slice A62 J34.marks.length c63) J34.marks, prsS (R.g) hv, stgI 253 b41 ([]), osl (kInt .i64) (.slice A118 se77.length c119) se77, blk b67 (redC (.slice A42 J34.us.length c43) (.slice A47 J34.map.length c48) (.slice A52 J34.comb.length c53) (.slice A57 J34.red.length c58) (.slice A62 J34.marks.length c63) J34 C.w C.t C.o p ep R.g hv b41 vs) 185, osl (kHd (kInt .i64)) vs us] [rsl (kHd kPair) (.slice A1 C.J.us.length c2) C.J.us, rsl kIns (.slice A6 C.J.map.length c7) C.J.map, rsl kIns (.slice A11 C.J.comb.length c12) C.J.comb, rsl kIns (.slice A16 C.J.red.length c17) C.J.red, rsl (kInt .i64) (.slice A21 C.J.marks.length c22) C.J.marks, rsl kRec (.slice A26 recs.length c27) recs] := H
     replace H := H.p8.p8.p8.p8.p8.p8.p8.p8
     refine d_back ⟨_, H⟩ (d_main rfl ?_)
     replace H := H.pick 11 rfl |>.pick 10 rfl |>.pick 10 rfl |>.p2
     refine s_appH rfl rfl rfl sl144 zr24 rfl (by decide) rfl rfl H (by first | omega | (simp only [List.length_append, List.length_cons, List.length_nil]; omega)) (fun v123 w H => ?_)
     replace H := H.h1 (A := osl (kHd (kInt .i64)) v123 (us ++ [((.slice A118 se77.length c119 : Value), se77)])) |>.p8 |>.p8 |>.p8 |>.p8 |>.p8 |>.p8 |>.p8 |>.p8
     refine d_back ⟨_, H⟩ (d_val rfl rfl rfl (fun w ⟨Ar, H⟩ => r_nilP rfl rfl) (d_val rfl rfl rfl (fun w ⟨Ar, H⟩ => r_fa rfl fo185_5 rfl) (d_main rfl ?_)))
     obtain ⟨A124, c125, rfl, hc126, hm127, hp128⟩ := H.fA 8 rfl
     replace H := H.p9
     refine s_st rfl rfl rfl ty144 rfl rfl H rfl (Nat.le_of_ble_eq_true rfl) (fun u hu => by simp [Value.cells] at hu; subst hu; rfl) (fun w H => ?_)
     replace H : Hd _ _ _ [blk b67 (redC (.slice A42 J34.us.length c43) (.slice A47 J34.map.length c48) (.slice A52 J34.comb.length c53) (.slice A57 J34.red.length c58) (.slice A62 J34.marks.length c63) J34 C.w C.t C.o p ep R.g hv b41 (.slice A124 ((us ++ [((.slice A118 se77.length c119 : Value), se77)]).length) c125)) 185, blk b89 [.int .i64 a71, .int .i64 a72, .int .i64 a73, .int .i64 a74, .int .i64 a75, .slice A80 se77.length c81, .slice A82 pr79.length c83] 37, osl (kHd kPair) (.slice A42 J34.us.length c43) J34.us, osl kIns (.slice A47 J34.map.length c48) J34.map, osl kIns (.slice A52 J34.comb.length c53) J34.comb, osl kIns (.slice A57 J34.red.length c58) J34.red, osl (kInt .i64) (.slice A62 J34.marks.length c63) J34.marks, prsS (R.g) hv, stgI 253 b41 ([]), osl (kHd (kInt .i64)) (.slice A124 ((us ++ [((.slice A118 se77.length c119 : Value), se77)]).length) c125) (us ++ [((.slice A118 se77.length c119 : Value), se77)])] [rsl (kHd kPair) (.slice A1 C.J.us.length c2) C.J.us, rsl kIns (.slice A6 C.J.map.length c7) C.J.map, rsl kIns (.slice A11 C.J.comb.length c12) C.J.comb, rsl kIns (.slice A16 C.J.red.length c17) C.J.red, rsl (kInt .i64) (.slice A21 C.J.marks.length c22) C.J.marks, rsl kRec (.slice A26 recs.length c27) recs] := H
     replace H := H.p8.p8.p8.p8.p8.p8.p8.p8
     refine d_back ⟨_, H⟩ (d_nil (q_blockN (q_then (c_reg (s_val rfl rfl (r_add (z := ((k + 1 : Nat) : Int)) rfl rfl rfl (by rw [w64 (by omega) (by omega)]; omega)) (s_1 rfl (s_nil ?_)))))))
     have hpart : (Rec.p (⟨a71, a72, a73, a74, a75, .slice A80 se77.length c81, se77, .slice A82 pr79.length c83, pr79⟩ : Rec)).part = R.part := by rw [hRp]; exact Classical.not_not.1 h90
     have hR2 := newR_take hR hx70 (recIn_s hpart h102)
     replace H := H.p7.p9.p8.p8.p8.p8.p8.p8.p9.k9.h7 (A := blk b67 (redC (.slice A42 J34.us.length c43) (.slice A47 J34.map.length c48) (.slice A52 J34.comb.length c53) (.slice A57 J34.red.length c58) (.slice A62 J34.marks.length c63) J34 C.w C.t C.o p ep (({ R with sets := R.sets ++ [se77] } : Red).g) hv b41 (.slice A124 ((us ++ [((.slice A118 se77.length c119 : Value), se77)]).length) c125)) 185) (G := prsS (({ R with sets := R.sets ++ [se77] } : Red).g) hv)
     exact q_round (s := (k, R, hv, undef, us)) (k + 1, ({ R with sets := R.sets ++ [se77] } : Red), hv, .slice A124 ((us ++ [((.slice A118 se77.length c119 : Value), se77)]).length) c125, us ++ [((.slice A118 se77.length c119 : Value), se77)]) ⟨rfl, rfl, rfl, rfl, rfl, rfl, rfl, trivial⟩ ⟨H, hR2, hRp, by (try dsimp only); rw [List.map_append, hus]; rfl, by (try dsimp only); omega, by (try dsimp only); rw [List.length_append]; simp only [List.length_cons, List.length_nil]; omega⟩ (by (try dsimp only); omega)
    obtain ⟨A130, c131, rfl, hc132, hm133, hp134⟩ := H.fA 8 rfl
    refine s_bsl (parts := [(0, .tmp 76)]) (vs := [.slice A130 se77.length c131]) (cs := [.slice A130 se77.length c131]) rfl rfl rfl sl144 zr24 rfl (by decide) (by decide) rfl rfl H (fun b129 w H => ?_)
    replace H : Hd _ _ _ [blk b129 [.slice A130 se77.length c131] 24, blk b89 [.int .i64 a71, .int .i64 a72, .int .i64 a73, .int .i64 a74, .int .i64 a75, .slice A80 se77.length c81, .slice A82 pr79.length c83] 37, osl (kHd kPair) (.slice A42 J34.us.length c43) J34.us, osl kIns (.slice A47 J34.map.length c48) J34.map, osl kIns (.slice A52 J34.comb.length c53) J34.comb, osl kIns (.slice A57 J34.red.length c58) J34.red, osl (kInt .i64) (.slice A62 J34.marks.length c63) J34.marks, prsS (R.g) hv, stgI 253 b41 ([]), osl (kInt .i64) (.slice A130 se77.length c131) se77, blk b67 (redC (.slice A42 J34.us.length c43) (.slice A47 J34.map.length c48) (.slice A52 J34.comb.length c53) (.slice A57 J34.red.length c58) (.slice A62 J34.marks.length c63) J34 C.w C.t C.o p ep R.g hv b41 vs) 185, osl (kHd (kInt .i64)) vs us] [rsl (kHd kPair) (.slice A1 C.J.us.length c2) C.J.us, rsl kIns (.slice A6 C.J.map.length c7) C.J.map, rsl kIns (.slice A11 C.J.comb.length c12) C.J.comb, rsl kIns (.slice A16 C.J.red.length c17) C.J.red, rsl (kInt .i64) (.slice A21 C.J.marks.length c22) C.J.marks, rsl kRec (.slice A26 recs.length c27) recs] := H
    replace H := H.p8.p8.p8.p8.p8.p8.p8.p8
    refine d_back ⟨_, H⟩ (d_main rfl (s_val rfl rfl (r_ld rfl ty144 rfl (H.cellI 10 rfl rfl)) (d_back ⟨_, H⟩ (d_main rfl ?_))))
    replace H := H.pick 11 rfl |>.pick 10 rfl |>.pick 10 rfl |>.p2
    refine s_appH rfl rfl rfl sl144 zr24 rfl (by decide) rfl rfl H (by first | omega | (simp only [List.length_append, List.length_cons, List.length_nil]; omega)) (fun v135 w H => ?_)
    replace H := H.h1 (A := osl (kHd (kInt .i64)) v135 (us ++ [((.slice A130 se77.length c131 : Value), se77)])) |>.p8 |>.p8 |>.p8 |>.p8 |>.p8 |>.p8 |>.p8 |>.p8
    refine d_back ⟨_, H⟩ (d_val rfl rfl rfl (fun w ⟨Ar, H⟩ => r_nilP rfl rfl) (d_val rfl rfl rfl (fun w ⟨Ar, H⟩ => r_fa rfl fo185_5 rfl) (d_main rfl ?_)))
    obtain ⟨A136, c137, rfl, hc138, hm139, hp140⟩ := H.fA 8 rfl
    replace H := H.p9
    refine s_st rfl rfl rfl ty144 rfl rfl H rfl (Nat.le_of_ble_eq_true rfl) (fun u hu => by simp [Value.cells] at hu; subst hu; rfl) (fun w H => ?_)
    replace H : Hd _ _ _ [blk b67 (redC (.slice A42 J34.us.length c43) (.slice A47 J34.map.length c48) (.slice A52 J34.comb.length c53) (.slice A57 J34.red.length c58) (.slice A62 J34.marks.length c63) J34 C.w C.t C.o p ep R.g hv b41 (.slice A136 ((us ++ [((.slice A130 se77.length c131 : Value), se77)]).length) c137)) 185, blk b89 [.int .i64 a71, .int .i64 a72, .int .i64 a73, .int .i64 a74, .int .i64 a75, .slice A80 se77.length c81, .slice A82 pr79.length c83] 37, osl (kHd kPair) (.slice A42 J34.us.length c43) J34.us, osl kIns (.slice A47 J34.map.length c48) J34.map, osl kIns (.slice A52 J34.comb.length c53) J34.comb, osl kIns (.slice A57 J34.red.length c58) J34.red, osl (kInt .i64) (.slice A62 J34.marks.length c63) J34.marks, prsS (R.g) hv, stgI 253 b41 ([]), osl (kHd (kInt .i64)) (.slice A136 ((us ++ [((.slice A130 se77.length c131 : Value), se77)]).length) c137) (us ++ [((.slice A130 se77.length c131 : Value), se77)])] [rsl (kHd kPair) (.slice A1 C.J.us.length c2) C.J.us, rsl kIns (.slice A6 C.J.map.length c7) C.J.map, rsl kIns (.slice A11 C.J.comb.length c12) C.J.comb, rsl kIns (.slice A16 C.J.red.length c17) C.J.red, rsl (kInt .i64) (.slice A21 C.J.marks.length c22) C.J.marks, rsl kRec (.slice A26 recs.length c27) recs] := H
    replace H := H.p8.p8.p8.p8.p8.p8.p8.p8
    refine d_back ⟨_, H⟩ (d_nil (q_blockN (q_then (c_reg (s_val rfl rfl (r_add (z := ((k + 1 : Nat) : Int)) rfl rfl rfl (by rw [w64 (by omega) (by omega)]; omega)) (s_1 rfl (s_nil ?_)))))))
    have hpart : (Rec.p (⟨a71, a72, a73, a74, a75, .slice A80 se77.length c81, se77, .slice A82 pr79.length c83, pr79⟩ : Rec)).part = R.part := by rw [hRp]; exact Classical.not_not.1 h90
    have hR2 := newR_take hR hx70 (recIn_s hpart h102)
    replace H := H.p7.p9.p8.p8.p8.p8.p8.p8.p9.k9.h7 (A := blk b67 (redC (.slice A42 J34.us.length c43) (.slice A47 J34.map.length c48) (.slice A52 J34.comb.length c53) (.slice A57 J34.red.length c58) (.slice A62 J34.marks.length c63) J34 C.w C.t C.o p ep (({ R with sets := R.sets ++ [se77] } : Red).g) hv b41 (.slice A136 ((us ++ [((.slice A130 se77.length c131 : Value), se77)]).length) c137)) 185) (G := prsS (({ R with sets := R.sets ++ [se77] } : Red).g) hv)
    exact q_round (s := (k, R, hv, undef, us)) (k + 1, ({ R with sets := R.sets ++ [se77] } : Red), hv, .slice A136 ((us ++ [((.slice A130 se77.length c131 : Value), se77)]).length) c137, us ++ [((.slice A130 se77.length c131 : Value), se77)]) ⟨rfl, rfl, rfl, rfl, rfl, rfl, rfl, trivial⟩ ⟨H, hR2, hRp, by (try dsimp only); rw [List.map_append, hus]; rfl, by (try dsimp only); omega, by (try dsimp only); rw [List.length_append]; simp only [List.length_cons, List.length_nil]; omega⟩ (by (try dsimp only); omega)
   refine c_skip (q_blockN (q_then (c_reg (s_val rfl rfl (r_add (z := ((k + 1 : Nat) : Int)) rfl rfl rfl (by rw [w64 (by omega) (by omega)]; omega)) (s_1 rfl (s_nil ?_))))))
   have hpart : (Rec.p (⟨a71, a72, a73, a74, a75, .slice A80 se77.length c81, se77, .slice A82 pr79.length c83, pr79⟩ : Rec)).part = R.part := by rw [hRp]; exact Classical.not_not.1 h90
   have hR2 := newR_take hR hx70 (recIn_no hpart (fun h => h92 h.1) h102)
   replace H := H.p9.p9.p9.p9.p9.p9.p9.p9.p9.k9
   exact q_round (s := (k, R, hv, undef, us)) (k + 1, R, hv, vs, us) ⟨rfl, rfl, rfl, rfl, rfl, rfl, rfl, trivial⟩ ⟨H, hR2, hRp, by (try dsimp only); exact hus, by (try dsimp only); omega, by (try dsimp only); omega⟩ (by (try dsimp only); omega)
  refine c_reg (s_1 rfl (s_val rfl rfl (r_fa rfl fo37_2 rfl) (s_val rfl rfl (r_ld rfl ty3 rfl (H.cellI 0 rfl rfl)) (sc (at_no b67 A42 J34.us.length c43 (.slice A47 J34.map.length c48) (.slice A52 J34.comb.length c53) (.slice A57 J34.red.length c58) (.slice A62 J34.marks.length c63) J34 C.w C.t C.o p ep R.g hv b41 vs a73 (by first | assumption | omega)) H (lA 1 rfl (fun _ h => h) l0) rfl rfl (e_fn kn118 rfl rfl) ?_))))
  rintro _ _ w ⟨rfl, rfl⟩ H
  refine s_1 rfl (s_nil (q_then (c_seq (c_reg (s_val rfl rfl (r_fa rfl fo37_0 rfl) (s_val rfl rfl (r_ld rfl ty3 rfl (H.cellI 0 rfl rfl)) (s_val rfl rfl (r_eq rfl rfl rfl) (s_1 rfl ?_))))))))
  refine s_dec (d := 46) rfl (fun h141 => ?_) (fun h141 => ?_)
  ·refine s_1 rfl (s_val rfl rfl (r_pne rfl un178 rfl rfl) (s_k 8 rfl (s_nil (q_then (c_no rfl (c_skip (q_then (c_seq (c_reg (s_val rfl rfl (r_fa rfl fo37_0 rfl) (s_val rfl rfl (r_ld rfl ty3 rfl (H.cellI 0 rfl rfl)) (s_val rfl rfl (r_eq rfl rfl rfl) (s_nil (q_then ?_))))))))))))))
   refine c_dec rfl (fun h142 => ?_) (fun h142 => ?_)
   ·exfalso; omega
   refine c_skip (q_blockN (q_then (c_reg (s_val rfl rfl (r_add (z := ((k + 1 : Nat) : Int)) rfl rfl rfl (by rw [w64 (by omega) (by omega)]; omega)) (s_1 rfl (s_nil ?_))))))
   have hpart : (Rec.p (⟨a71, a72, a73, a74, a75, .slice A80 se77.length c81, se77, .slice A82 pr79.length c83, pr79⟩ : Rec)).part = R.part := by rw [hRp]; exact Classical.not_not.1 h90
   have hR2 := newR_take hR hx70 (recIn_no hpart (fun h => hin91 h.2.1) h142)
   replace H := H.p9.p9.p9.p9.p9.p9.p9.p9.p9.k9
   exact q_round (s := (k, R, hv, undef, us)) (k + 1, R, hv, vs, us) ⟨rfl, rfl, rfl, rfl, rfl, rfl, rfl, trivial⟩ ⟨H, hR2, hRp, by (try dsimp only); exact hus, by (try dsimp only); omega, by (try dsimp only); omega⟩ (by (try dsimp only); omega)
  refine s_k 10 rfl (s_nil (q_then (c_no rfl (c_skip (q_then (c_seq (c_reg (s_val rfl rfl (r_fa rfl fo37_0 rfl) (s_val rfl rfl (r_ld rfl ty3 rfl (H.cellI 0 rfl rfl)) (s_val rfl rfl (r_eq rfl rfl rfl) (s_nil (q_then ?_))))))))))))
  refine c_dec rfl (fun h143 => ?_) (fun h143 => ?_)
  ·replace H := H.p9.p8.p8.p8.p8.p8.p8.p7
   refine c_ord (.e 0 (.e 1 (.e 2 (.e 3 (.e 5 (.e 6 (.b 4 7 (.m 7 (.m 8 (.m 9 (.e 10 (.e 11 (.m 12 .z)))))) (.b 4 8 (.m 8 (.m 9 (.e 10 (.e 11 (.m 12 .z))))) (.m 4 (.m 9 (.e 10 (.e 11 (.m 12 .z))))))))))))) (fun w => ∃ Ar, Hd w0 F0 w (blk b89 [.int .i64 a71, .int .i64 a72, .int .i64 a73, .int .i64 a74, .int .i64 a75, .slice A80 se77.length c81, .slice A82 pr79.length c83] 37 :: osl (kHd kPair) (.slice A42 J34.us.length c43) J34.us :: osl kIns (.slice A47 J34.map.length c48) J34.map :: osl kIns (.slice A52 J34.comb.length c53) J34.comb :: osl kIns (.slice A57 J34.red.length c58) J34.red :: osl (kInt .i64) (.slice A62 J34.marks.length c63) J34.marks :: prsS (R.g) hv :: stgI 253 b41 ([]) :: Ar) [rsl (kHd kPair) (.slice A1 C.J.us.length c2) C.J.us, rsl kIns (.slice A6 C.J.map.length c7) C.J.map, rsl kIns (.slice A11 C.J.comb.length c12) C.J.comb, rsl kIns (.slice A16 C.J.red.length c17) C.J.red, rsl (kInt .i64) (.slice A21 C.J.marks.length c22) C.J.marks, rsl kRec (.slice A26 recs.length c27) recs]) mo (by kernel_rfl) (fun w H => ⟨_, H⟩) H (fun w H => ?_)
   refine d_1 rfl (d_1 rfl (d_val rfl rfl rfl (fun w ⟨Ar, H⟩ => r_nilP rfl rfl) (d_val rfl rfl rfl (fun w ⟨Ar, H⟩ => r_fa rfl fo185_5 rfl) (d_val rfl rfl rfl (fun w ⟨Ar, H⟩ => r_fa rfl fo37_5 rfl) (d_val rfl rfl rfl (fun w ⟨Ar, H⟩ => r_ld rfl ty24 rfl (H.cellI 0 rfl rfl)) ?_)))))
   refine d_both rfl rfl ?_ ?_
   ·refine s_val rfl rfl (r_ld rfl ty144 rfl (H.cellI 8 rfl rfl)) (d_back ⟨_, H⟩ (d_main rfl (sc (cloneInt_ok (.slice A80 se77.length c81) se77 (by first | assumption | omega)) H (lX (fun F hA hR => rec_set (hR _ (List.mem_of_getElem? (i := 5) rfl)) hx70) l0) rfl rfl (e_fn kn129 rfl rfl) ?_)))
    rintro v144 _ w rfl H
    replace H := H.h1 (A := osl (kInt .i64) v144 se77) |>.p8 |>.p8 |>.p8 |>.p8 |>.p8 |>.p8 |>.p8 |>.p8
    refine d_back ⟨_, H⟩ (d_main rfl ?_)
    obtain ⟨A146, c147, rfl, hc148, hm149, hp150⟩ := H.fA 8 rfl
    refine s_bsl (parts := [(0, .tmp 76)]) (vs := [.slice A146 se77.length c147]) (cs := [.slice A146 se77.length c147]) rfl rfl rfl sl144 zr24 rfl (by decide) (by decide) rfl rfl H (fun b145 w H => ?_)
    replace H : Hd _ _ _ [blk b145 [.slice A146 se77.length c147] 24, blk b89 [.int .i64 a71, .int .i64 a72, .int .i64 a73, .int .i64 a74, .int .i64 a75, .slice A80 se77.length c81, .slice A82 pr79.length c83] 37, osl (kHd kPair) (.slice A42 J34.us.length c43) J34.us, osl kIns (.slice A47 J34.map.length c48) J34.map, osl kIns (.slice A52 J34.comb.length c53) J34.comb, osl kIns (.slice A57 J34.red.length c58) J34.red, osl (kInt .i64) (.slice A62 J34.marks.length c63) J34.marks, prsS (R.g) hv, stgI 253 b41 ([]), osl (kInt .i64) (.slice A146 se77.length c147) se77, blk b67 (redC (.slice A42 J34.us.length c43) (.slice A47 J34.map.length c48) (.slice A52 J34.comb.length c53) (.slice A57 J34.red.length c58) (.slice A62 J34.marks.length c63) J34 C.w C.t C.o p ep R.g hv b41 vs) 185, osl (kHd (kInt .i64)) vs us] [rsl (kHd kPair) (.slice A1 C.J.us.length c2) C.J.us, rsl kIns (.slice A6 C.J.map.length c7) C.J.map, rsl kIns (.slice A11 C.J.comb.length c12) C.J.comb, rsl kIns (.slice A16 C.J.red.length c17) C.J.red, rsl (kInt .i64) (.slice A21 C.J.marks.length c22) C.J.marks, rsl kRec (.slice A26 recs.length c27) recs] := H
    replace H := H.p8.p8.p8.p8.p8.p8.p8.p8
    refine d_back ⟨_, H⟩ (d_main rfl ?_)
    replace H := H.pick 11 rfl |>.pick 10 rfl |>.pick 10 rfl |>.p2
    refine s_appH rfl rfl rfl sl144 zr24 rfl (by decide) rfl rfl H (by first | omega | (simp only [List.length_append, List.length_cons, List.length_nil]; omega)) (fun v151 w H => ?_)
    replace H := H.h1 (A := osl (kHd (kInt .i64)) v151 (us ++ [((.slice A146 se77.length c147 : Value), se77)])) |>.p8 |>.p8 |>.p8 |>.p8 |>.p8 |>.p8 |>.p8 |>.p8
    refine d_back ⟨_, H⟩ (d_val rfl rfl rfl (fun w ⟨Ar, H⟩ => r_nilP rfl rfl) (d_val rfl rfl rfl (fun w ⟨Ar, H⟩ => r_fa rfl fo185_5 rfl) (d_main rfl ?_)))
    obtain ⟨A152, c153, rfl, hc154, hm155, hp156⟩ := H.fA 8 rfl
    replace H := H.p9
    refine s_st rfl rfl rfl ty144 rfl rfl H rfl (Nat.le_of_ble_eq_true rfl) (fun u hu => by simp [Value.cells] at hu; subst hu; rfl) (fun w H => ?_)
    replace H : Hd _ _ _ [blk b67 (redC (.slice A42 J34.us.length c43) (.slice A47 J34.map.length c48) (.slice A52 J34.comb.length c53) (.slice A57 J34.red.length c58) (.slice A62 J34.marks.length c63) J34 C.w C.t C.o p ep R.g hv b41 (.slice A152 ((us ++ [((.slice A146 se77.length c147 : Value), se77)]).length) c153)) 185, blk b89 [.int .i64 a71, .int .i64 a72, .int .i64 a73, .int .i64 a74, .int .i64 a75, .slice A80 se77.length c81, .slice A82 pr79.length c83] 37, osl (kHd kPair) (.slice A42 J34.us.length c43) J34.us, osl kIns (.slice A47 J34.map.length c48) J34.map, osl kIns (.slice A52 J34.comb.length c53) J34.comb, osl kIns (.slice A57 J34.red.length c58) J34.red, osl (kInt .i64) (.slice A62 J34.marks.length c63) J34.marks, prsS (R.g) hv, stgI 253 b41 ([]), osl (kHd (kInt .i64)) (.slice A152 ((us ++ [((.slice A146 se77.length c147 : Value), se77)]).length) c153) (us ++ [((.slice A146 se77.length c147 : Value), se77)])] [rsl (kHd kPair) (.slice A1 C.J.us.length c2) C.J.us, rsl kIns (.slice A6 C.J.map.length c7) C.J.map, rsl kIns (.slice A11 C.J.comb.length c12) C.J.comb, rsl kIns (.slice A16 C.J.red.length c17) C.J.red, rsl (kInt .i64) (.slice A21 C.J.marks.length c22) C.J.marks, rsl kRec (.slice A26 recs.length c27) recs] := H
    replace H := H.p8.p8.p8.p8.p8.p8.p8.p8
    refine d_back ⟨_, H⟩ (d_nil (q_blockN (q_then (c_reg (s_val rfl rfl (r_add (z := ((k + 1 : Nat) : Int)) rfl rfl rfl (by rw [w64 (by omega) (by omega)]; omega)) (s_1 rfl (s_nil ?_)))))))
    have hpart : (Rec.p (⟨a71, a72, a73, a74, a75, .slice A80 se77.length c81, se77, .slice A82 pr79.length c83, pr79⟩ : Rec)).part = R.part := by rw [hRp]; exact Classical.not_not.1 h90
    have hR2 := newR_take hR hx70 (recIn_s hpart h143)
    replace H := H.p7.p9.p8.p8.p8.p8.p8.p8.p9.k9.h7 (A := blk b67 (redC (.slice A42 J34.us.length c43) (.slice A47 J34.map.length c48) (.slice A52 J34.comb.length c53) (.slice A57 J34.red.length c58) (.slice A62 J34.marks.length c63) J34 C.w C.t C.o p ep (({ R with sets := R.sets ++ [se77] } : Red).g) hv b41 (.slice A152 ((us ++ [((.slice A146 se77.length c147 : Value), se77)]).length) c153)) 185) (G := prsS (({ R with sets := R.sets ++ [se77] } : Red).g) hv)
    exact q_round (s := (k, R, hv, undef, us)) (k + 1, ({ R with sets := R.sets ++ [se77] } : Red), hv, .slice A152 ((us ++ [((.slice A146 se77.length c147 : Value), se77)]).length) c153, us ++ [((.slice A146 se77.length c147 : Value), se77)]) ⟨rfl, rfl, rfl, rfl, rfl, rfl, rfl, trivial⟩ ⟨H, hR2, hRp, by (try dsimp only); rw [List.map_append, hus]; rfl, by (try dsimp only); omega, by (try dsimp only); rw [List.length_append]; simp only [List.length_cons, List.length_nil]; omega⟩ (by (try dsimp only); omega)
   refine sc (cloneInt_ok (.slice A80 se77.length c81) se77 (by first | assumption | omega)) H (lX (fun F hA hR => rec_set (hR _ (List.mem_of_getElem? (i := 5) rfl)) hx70) l0) rfl rfl (e_fn kn129 rfl rfl) ?_
   rintro v157 _ w rfl H
   replace H := H.h1 (A := osl (kInt .i64) v157 se77) |>.p8 |>.p8 |>.p8 |>.p8 |>.p8 |>.p8 |>.p8 |>.p8
   refine d_back ⟨_, H⟩ ?_
   refine d_both rfl rfl ?_ ?_
   ·refine s_val rfl rfl (r_ld rfl ty144 rfl (H.cellI 9 rfl rfl)) (d_back ⟨_, H⟩ (d_main rfl ?_))
    obtain ⟨A159, c160, rfl, hc161, hm162, hp163⟩ := H.fA 8 rfl
    refine s_bsl (parts := [(0, .tmp 76)]) (vs := [.slice A159 se77.length c160]) (cs := [.slice A159 se77.length c160]) rfl rfl rfl sl144 zr24 rfl (by decide) (by decide) rfl rfl H (fun b158 w H => ?_)
    replace H : Hd _ _ _ [blk b158 [.slice A159 se77.length c160] 24, blk b89 [.int .i64 a71, .int .i64 a72, .int .i64 a73, .int .i64 a74, .int .i64 a75, .slice A80 se77.length c81, .slice A82 pr79.length c83] 37, osl (kHd kPair) (.slice A42 J34.us.length c43) J34.us, osl kIns (.slice A47 J34.map.length c48) J34.map, osl kIns (.slice A52 J34.comb.length c53) J34.comb, osl kIns (.slice A57 J34.red.length c58) J34.red, osl (kInt .i64) (.slice A62 J34.marks.length c63) J34.marks, prsS (R.g) hv, stgI 253 b41 ([]), osl (kInt .i64) (.slice A159 se77.length c160) se77, blk b67 (redC (.slice A42 J34.us.length c43) (.slice A47 J34.map.length c48) (.slice A52 J34.comb.length c53) (.slice A57 J34.red.length c58) (.slice A62 J34.marks.length c63) J34 C.w C.t C.o p ep R.g hv b41 vs) 185, osl (kHd (kInt .i64)) vs us] [rsl (kHd kPair) (.slice A1 C.J.us.length c2) C.J.us, rsl kIns (.slice A6 C.J.map.length c7) C.J.map, rsl kIns (.slice A11 C.J.comb.length c12) C.J.comb, rsl kIns (.slice A16 C.J.red.length c17) C.J.red, rsl (kInt .i64) (.slice A21 C.J.marks.length c22) C.J.marks, rsl kRec (.slice A26 recs.length c27) recs] := H
    replace H := H.p8.p8.p8.p8.p8.p8.p8.p8
    refine d_back ⟨_, H⟩ (d_main rfl ?_)
    replace H := H.pick 11 rfl |>.pick 10 rfl |>.pick 10 rfl |>.p2
    refine s_appH rfl rfl rfl sl144 zr24 rfl (by decide) rfl rfl H (by first | omega | (simp only [List.length_append, List.length_cons, List.length_nil]; omega)) (fun v164 w H => ?_)
    replace H := H.h1 (A := osl (kHd (kInt .i64)) v164 (us ++ [((.slice A159 se77.length c160 : Value), se77)])) |>.p8 |>.p8 |>.p8 |>.p8 |>.p8 |>.p8 |>.p8 |>.p8
    refine d_back ⟨_, H⟩ (d_val rfl rfl rfl (fun w ⟨Ar, H⟩ => r_nilP rfl rfl) (d_val rfl rfl rfl (fun w ⟨Ar, H⟩ => r_fa rfl fo185_5 rfl) (d_main rfl ?_)))
    obtain ⟨A165, c166, rfl, hc167, hm168, hp169⟩ := H.fA 8 rfl
    replace H := H.p9
    refine s_st rfl rfl rfl ty144 rfl rfl H rfl (Nat.le_of_ble_eq_true rfl) (fun u hu => by simp [Value.cells] at hu; subst hu; rfl) (fun w H => ?_)
    replace H : Hd _ _ _ [blk b67 (redC (.slice A42 J34.us.length c43) (.slice A47 J34.map.length c48) (.slice A52 J34.comb.length c53) (.slice A57 J34.red.length c58) (.slice A62 J34.marks.length c63) J34 C.w C.t C.o p ep R.g hv b41 (.slice A165 ((us ++ [((.slice A159 se77.length c160 : Value), se77)]).length) c166)) 185, blk b89 [.int .i64 a71, .int .i64 a72, .int .i64 a73, .int .i64 a74, .int .i64 a75, .slice A80 se77.length c81, .slice A82 pr79.length c83] 37, osl (kHd kPair) (.slice A42 J34.us.length c43) J34.us, osl kIns (.slice A47 J34.map.length c48) J34.map, osl kIns (.slice A52 J34.comb.length c53) J34.comb, osl kIns (.slice A57 J34.red.length c58) J34.red, osl (kInt .i64) (.slice A62 J34.marks.length c63) J34.marks, prsS (R.g) hv, stgI 253 b41 ([]), osl (kHd (kInt .i64)) (.slice A165 ((us ++ [((.slice A159 se77.length c160 : Value), se77)]).length) c166) (us ++ [((.slice A159 se77.length c160 : Value), se77)])] [rsl (kHd kPair) (.slice A1 C.J.us.length c2) C.J.us, rsl kIns (.slice A6 C.J.map.length c7) C.J.map, rsl kIns (.slice A11 C.J.comb.length c12) C.J.comb, rsl kIns (.slice A16 C.J.red.length c17) C.J.red, rsl (kInt .i64) (.slice A21 C.J.marks.length c22) C.J.marks, rsl kRec (.slice A26 recs.length c27) recs] := H
    replace H := H.p8.p8.p8.p8.p8.p8.p8.p8
    refine d_back ⟨_, H⟩ (d_nil (q_blockN (q_then (c_reg (s_val rfl rfl (r_add (z := ((k + 1 : Nat) : Int)) rfl rfl rfl (by rw [w64 (by omega) (by omega)]; omega)) (s_1 rfl (s_nil ?_)))))))
    have hpart : (Rec.p (⟨a71, a72, a73, a74, a75, .slice A80 se77.length c81, se77, .slice A82 pr79.length c83, pr79⟩ : Rec)).part = R.part := by rw [hRp]; exact Classical.not_not.1 h90
    have hR2 := newR_take hR hx70 (recIn_s hpart h143)
    replace H := H.p7.p9.p8.p8.p8.p8.p8.p8.p9.k9.h7 (A := blk b67 (redC (.slice A42 J34.us.length c43) (.slice A47 J34.map.length c48) (.slice A52 J34.comb.length c53) (.slice A57 J34.red.length c58) (.slice A62 J34.marks.length c63) J34 C.w C.t C.o p ep (({ R with sets := R.sets ++ [se77] } : Red).g) hv b41 (.slice A165 ((us ++ [((.slice A159 se77.length c160 : Value), se77)]).length) c166)) 185) (G := prsS (({ R with sets := R.sets ++ [se77] } : Red).g) hv)
    exact q_round (s := (k, R, hv, undef, us)) (k + 1, ({ R with sets := R.sets ++ [se77] } : Red), hv, .slice A165 ((us ++ [((.slice A159 se77.length c160 : Value), se77)]).length) c166, us ++ [((.slice A159 se77.length c160 : Value), se77)]) ⟨rfl, rfl, rfl, rfl, rfl, rfl, rfl, trivial⟩ ⟨H, hR2, hRp, by (try dsimp only); rw [List.map_append, hus]; rfl, by (try dsimp only); omega, by (try dsimp only); rw [List.length_append]; simp only [List.length_cons, List.length_nil]; omega⟩ (by (try dsimp only); omega)
   obtain ⟨A171, c172, rfl, hc173, hm174, hp175⟩ := H.fA 8 rfl
   refine s_bsl (parts := [(0, .tmp 76)]) (vs := [.slice A171 se77.length c172]) (cs := [.slice A171 se77.length c172]) rfl rfl rfl sl144 zr24 rfl (by decide) (by decide) rfl rfl H (fun b170 w H => ?_)
   replace H : Hd _ _ _ [blk b170 [.slice A171 se77.length c172] 24, blk b89 [.int .i64 a71, .int .i64 a72, .int .i64 a73, .int .i64 a74, .int .i64 a75, .slice A80 se77.length c81, .slice A82 pr79.length c83] 37, osl (kHd kPair) (.slice A42 J34.us.length c43) J34.us, osl kIns (.slice A47 J34.map.length c48) J34.map, osl kIns (.slice A52 J34.comb.length c53) J34.comb, osl kIns (.slice A57 J34.red.length c58) J34.red, osl (kInt .i64) (.slice A62 J34.marks.length c63) J34.marks, prsS (R.g) hv, stgI 253 b41 ([]), osl (kInt .i64) (.slice A171 se77.length c172) se77, blk b67 (redC (.slice A42 J34.us.length c43) (.slice A47 J34.map.length c48) (.slice A52 J34.comb.length c53) (.slice A57 J34.red.length c58) (.slice A62 J34.marks.length c63) J34 C.w C.t C.o p ep R.g hv b41 vs) 185, osl (kHd (kInt .i64)) vs us] [rsl (kHd kPair) (.slice A1 C.J.us.length c2) C.J.us, rsl kIns (.slice A6 C.J.map.length c7) C.J.map, rsl kIns (.slice A11 C.J.comb.length c12) C.J.comb, rsl kIns (.slice A16 C.J.red.length c17) C.J.red, rsl (kInt .i64) (.slice A21 C.J.marks.length c22) C.J.marks, rsl kRec (.slice A26 recs.length c27) recs] := H
   replace H := H.p8.p8.p8.p8.p8.p8.p8.p8
   refine d_back ⟨_, H⟩ (d_main rfl (s_val rfl rfl (r_ld rfl ty144 rfl (H.cellI 10 rfl rfl)) (d_back ⟨_, H⟩ (d_main rfl ?_))))
   replace H := H.pick 11 rfl |>.pick 10 rfl |>.pick 10 rfl |>.p2
   refine s_appH rfl rfl rfl sl144 zr24 rfl (by decide) rfl rfl H (by first | omega | (simp only [List.length_append, List.length_cons, List.length_nil]; omega)) (fun v176 w H => ?_)
   replace H := H.h1 (A := osl (kHd (kInt .i64)) v176 (us ++ [((.slice A171 se77.length c172 : Value), se77)])) |>.p8 |>.p8 |>.p8 |>.p8 |>.p8 |>.p8 |>.p8 |>.p8
   refine d_back ⟨_, H⟩ (d_val rfl rfl rfl (fun w ⟨Ar, H⟩ => r_nilP rfl rfl) (d_val rfl rfl rfl (fun w ⟨Ar, H⟩ => r_fa rfl fo185_5 rfl) (d_main rfl ?_)))
   obtain ⟨A177, c178, rfl, hc179, hm180, hp181⟩ := H.fA 8 rfl
   replace H := H.p9
   refine s_st rfl rfl rfl ty144 rfl rfl H rfl (Nat.le_of_ble_eq_true rfl) (fun u hu => by simp [Value.cells] at hu; subst hu; rfl) (fun w H => ?_)
   replace H : Hd _ _ _ [blk b67 (redC (.slice A42 J34.us.length c43) (.slice A47 J34.map.length c48) (.slice A52 J34.comb.length c53) (.slice A57 J34.red.length c58) (.slice A62 J34.marks.length c63) J34 C.w C.t C.o p ep R.g hv b41 (.slice A177 ((us ++ [((.slice A171 se77.length c172 : Value), se77)]).length) c178)) 185, blk b89 [.int .i64 a71, .int .i64 a72, .int .i64 a73, .int .i64 a74, .int .i64 a75, .slice A80 se77.length c81, .slice A82 pr79.length c83] 37, osl (kHd kPair) (.slice A42 J34.us.length c43) J34.us, osl kIns (.slice A47 J34.map.length c48) J34.map, osl kIns (.slice A52 J34.comb.length c53) J34.comb, osl kIns (.slice A57 J34.red.length c58) J34.red, osl (kInt .i64) (.slice A62 J34.marks.length c63) J34.marks, prsS (R.g) hv, stgI 253 b41 ([]), osl (kHd (kInt .i64)) (.slice A177 ((us ++ [((.slice A171 se77.length c172 : Value), se77)]).length) c178) (us ++ [((.slice A171 se77.length c172 : Value), se77)])] [rsl (kHd kPair) (.slice A1 C.J.us.length c2) C.J.us, rsl kIns (.slice A6 C.J.map.length c7) C.J.map, rsl kIns (.slice A11 C.J.comb.length c12) C.J.comb, rsl kIns (.slice A16 C.J.red.length c17) C.J.red, rsl (kInt .i64) (.slice A21 C.J.marks.length c22) C.J.marks, rsl kRec (.slice A26 recs.length c27) recs] := H
   replace H := H.p8.p8.p8.p8.p8.p8.p8.p8
   refine d_back ⟨_, H⟩ (d_nil (q_blockN (q_then (c_reg (s_val rfl rfl (r_add (z := ((k + 1 : Nat) : Int)) rfl rfl rfl (by rw [w64 (by omega) (by omega)]; omega)) (s_1 rfl (s_nil ?_)))))))
   have hpart : (Rec.p (⟨a71, a72, a73, a74, a75, .slice A80 se77.length c81, se77, .slice A82 pr79.length c83, pr79⟩ : Rec)).part = R.part := by rw [hRp]; exact Classical.not_not.1 h90
   have hR2 := newR_take hR hx70 (recIn_s hpart h143)
   replace H := H.p7.p9.p8.p8.p8.p8.p8.p8.p9.k9.h7 (A := blk b67 (redC (.slice A42 J34.us.length c43) (.slice A47 J34.map.length c48) (.slice A52 J34.comb.length c53) (.slice A57 J34.red.length c58) (.slice A62 J34.marks.length c63) J34 C.w C.t C.o p ep (({ R with sets := R.sets ++ [se77] } : Red).g) hv b41 (.slice A177 ((us ++ [((.slice A171 se77.length c172 : Value), se77)]).length) c178)) 185) (G := prsS (({ R with sets := R.sets ++ [se77] } : Red).g) hv)
   exact q_round (s := (k, R, hv, undef, us)) (k + 1, ({ R with sets := R.sets ++ [se77] } : Red), hv, .slice A177 ((us ++ [((.slice A171 se77.length c172 : Value), se77)]).length) c178, us ++ [((.slice A171 se77.length c172 : Value), se77)]) ⟨rfl, rfl, rfl, rfl, rfl, rfl, rfl, trivial⟩ ⟨H, hR2, hRp, by (try dsimp only); rw [List.map_append, hus]; rfl, by (try dsimp only); omega, by (try dsimp only); rw [List.length_append]; simp only [List.length_cons, List.length_nil]; omega⟩ (by (try dsimp only); omega)
  refine c_skip (q_blockN (q_then (c_reg (s_val rfl rfl (r_add (z := ((k + 1 : Nat) : Int)) rfl rfl rfl (by rw [w64 (by omega) (by omega)]; omega)) (s_1 rfl (s_nil ?_))))))
  have hpart : (Rec.p (⟨a71, a72, a73, a74, a75, .slice A80 se77.length c81, se77, .slice A82 pr79.length c83, pr79⟩ : Rec)).part = R.part := by rw [hRp]; exact Classical.not_not.1 h90
  have hR2 := newR_take hR hx70 (recIn_no hpart (fun h => h141 h.1) h143)
  replace H := H.p9.p9.p9.p9.p9.p9.p9.p9.p9.k9
  exact q_round (s := (k, R, hv, undef, us)) (k + 1, R, hv, vs, us) ⟨rfl, rfl, rfl, rfl, rfl, rfl, rfl, trivial⟩ ⟨H, hR2, hRp, by (try dsimp only); exact hus, by (try dsimp only); omega, by (try dsimp only); omega⟩ (by (try dsimp only); omega)
 refine c_exit (q_thenE (q_thenE (q_blockE (q_then (c_seq (c_reg (s_k 3 rfl (s_nil (q_then (c_ret (q_ret2 rfl rfl rfl ?_)))))))))))
 have hkk : R = newR J34.us.length p ep (recs.map Rec.p) := by rw [hR, List.take_of_length_le (by omega)]
 clear hR
 subst hkk
 replace H := H.h8 (A := blk b67 (redC (.slice A42 J34.us.length c43) (.slice A47 J34.map.length c48) (.slice A52 J34.comb.length c53) (.slice A57 J34.red.length c58) (.slice A62 J34.marks.length c63) J34 C.w C.t C.o p ep ((newR J34.us.length p ep (recs.map Rec.p)).g) hv b41 vs) 185) (G := prsS ((newR J34.us.length p ep (recs.map Rec.p)).g) hv) (I := osl (kHd (kInt .i64)) vs us)
 exact fin ⟨b67, (.slice A42 J34.us.length c43), (.slice A47 J34.map.length c48), (.slice A52 J34.comb.length c53), (.slice A57 J34.red.length c58), (.slice A62 J34.marks.length c63), J34, hv, b41, vs, us, rfl, rfl, hsj, hus⟩ H
section
variable {w : World} {F : Foot}
theorem rec_of_flat {v : Value} {us : List Rec} (h : (rsl kRecF v (us.map toF)).P w F) (hu : ∀ r ∈ us, (rsl (kInt .i64) r.sv r.set).P w F ∧ (rsl kPair r.pv r.pairs).P w F) : (rsl kRec v us).P w F := by
 obtain ⟨A, m, c, e, h1, h2, h3, cs, h4, h5⟩ := h
 refine ⟨A, m, c, e, by simpa using h1, h2, h3, cs, h4, ?_⟩
 have hcs : cs = (us.map toF).flatMap encRecF := RepsR.flat_eq.1 h5
 subst hcs
 clear h5 h4 h1 e
 induction us with
 | nil => rfl
 | cons r us ih =>
  obtain ⟨g1, g2⟩ := hu r (List.mem_cons_self ..)
  obtain ⟨A1, c1, e1, _⟩ := rsl_form g1
  obtain ⟨A2, c2, e2, _⟩ := rsl_form g2
  refine ⟨encRecF (toF r), (us.map toF).flatMap encRecF, rfl, ⟨?_, g1, g2⟩, ih fun q hq => hu q (List.mem_cons_of_mem _ hq)⟩
  simp [encRec, encRecF, toF, hdrOf, e1, e2]
def nilV : Value := .slice none 0 0
end
theorem SameJ.out {A B : Job} (h : SameJ A B) (D : Dig) (R : Red) : outR D A R = outR D B R := by
 unfold outR ofR
 rw [h.len, h.red, h.fuel]
theorem home_pos {C : Cf} {p : Int} (hC : mayC C) (h0 : 0 ≤ p) (h1 : p < C.J.parts) : homeC C p ≠ 0 := by
 have e : homeC C p = 1 + p.tmod C.w := if_neg (fun h => h.elim (fun h => h hC) (fun h => by omega))
 have := Int.tmod_nonneg C.w h0
 omega
theorem opens_config {P : Program} {t j i : TypeId}
  (hs : stOf P t = some [(j, 0, 9), (i, 9, 1), (i, 10, 1), (i, 11, 1)]) (hc : P.cellsOf t = 12) (hi : P.underlying i = some (.int .i64))
  {H : Type} (enc : TypeId × Value → H) (w : World) (fuel : Nat) (cs : List Value) (x : DataW H × List MemPlace) (h : DataW.trod enc P w 0 (fun _ => true) true fuel t cs = some x) :
  ∃ (js : List Value) (m : Nat) (y : DataW H × List MemPlace) (n1 n2 n3 : Int), cs = js ++ [.int .i64 n1, .int .i64 n2, .int .i64 n3] ∧ DataW.trod enc P w 0 (fun _ => true) true m j js = some y ∧ js.length = 9 ∧ (In64 n1 ∧ In64 n2 ∧ In64 n3) := by
 obtain ⟨hl, n, hf⟩ := open_st hs h
 rw [hc] at hl
 match cs, hl with
 | [c0, c1, c2, c3, c4, c5, c6, c7, c8, c9, c10, c11], _ =>
  obtain ⟨y0, g0⟩ := hf 0 _ _ _ rfl
  obtain ⟨y1, g1⟩ := hf 1 _ _ _ rfl
  obtain ⟨y2, g2⟩ := hf 2 _ _ _ rfl
  obtain ⟨y3, g3⟩ := hf 3 _ _ _ rfl
  obtain ⟨a1, r1, w1⟩ := opens_int hi enc w n _ _ g1
  obtain ⟨a2, r2, w2⟩ := opens_int hi enc w n _ _ g2
  obtain ⟨a3, r3, w3⟩ := opens_int hi enc w n _ _ g3
  have q1 : [c9] = [Value.int .i64 a1] := r1
  have q2 : [c10] = [Value.int .i64 a2] := r2
  have q3 : [c11] = [Value.int .i64 a3] := r3
  simp only [List.cons.injEq, and_true] at q1 q2 q3
  subst q1 q2 q3
  exact ⟨[c0, c1, c2, c3, c4, c5, c6, c7, c8], n, y0, a1, a2, a3, rfl, g0, rfl, w1, w2, w3⟩
theorem sameInts_ok (v1 v2 : Value) (xs ys : List Int) :
    Cn Tryz.prog 33 [v1, v2] [] [rsl (kInt .i64) v1 xs, rsl (kInt .i64) v2 ys] (fun v Bs => v = .bool (decide (xs = ys)) ∧ Bs = []) := by
 intro w0 F0 H
 obtain ⟨A1, c2, rfl, hc3, hm4, hp5⟩ := H.fR 0 rfl
 obtain ⟨A6, c7, rfl, hc8, hm9, hp10⟩ := H.fR 1 rfl
 refine enter Tryz.func33 rfl rfl (Nat.le_of_ble_eq_true rfl) (c_seq (c_reg (s_1 rfl (s_nil (q_then ?_)))))
 replace H : Hd _ _ _ [] [rsl (kInt .i64) (.slice A1 xs.length c2) xs, rsl (kInt .i64) (.slice A6 ys.length c7) ys] := H
 refine c_seq (c_seq (c_reg (s_1 rfl (s_val rfl rfl (r_lenL rfl un24 rfl) (s_1 rfl (s_val rfl rfl (r_lenL rfl un24 rfl) (s_val rfl rfl (r_ne rfl rfl rfl) (s_nil (q_then ?_)))))))))
 refine c_dec rfl (fun h11 => ?_) (fun h11 => ?_)
 ·refine c_seq (c_reg (s_1 rfl (s_nil (q_then (c_ret (q_thenR (q_ret1 rfl rfl ?_)))))))
  have e : ¬ xs = ys := fun e => h11 (by rw [e])
  exact fin ⟨by rw [decide_eq_false e] <;> rfl, rfl⟩ H
 refine c_skip (q_then (c_seq (c_seq (c_reg (s_1 rfl (s_nil (q_then (c_block ?_))))))))
 have hle : xs.length = ys.length := by omega
 refine c_loop (σ := Nat) (fun k => [(0, .slice A1 xs.length c2), (1, .slice A6 ys.length c7), (5, .int .i64 ((k : Nat) : Int))]) (fun k w => (Hd w0 F0 w [] [rsl (kInt .i64) (.slice A1 xs.length c2) xs, rsl (kInt .i64) (.slice A6 ys.length c7) ys]) ∧ (k ≤ xs.length) ∧ (xs.length = ys.length) ∧ (xs.take k = ys.take k)) (fun k => xs.length - k) 0 ⟨rfl, rfl, rfl, trivial⟩ ⟨H, by omega, hle, rfl⟩ ?_
 rintro k w ⟨H, hk, hle, ht⟩
 refine c_seq (c_seq (c_reg (s_k 2 rfl (s_val rfl rfl (r_lenL rfl un24 rfl) (s_val rfl rfl (r_lt rfl rfl rfl) (s_nil (q_then ?_)))))))
 refine c_dec rfl (fun h12 => ?_) (fun h12 => ?_)
 ·refine c_skip (q_then (c_seq (c_block (c_seq (c_draw mo (by kernel_rfl) H (u_k 2 rfl ?_))))))
  obtain ⟨x13, hx14⟩ : ∃ z9, xs[k]? = some z9 := ⟨_, List.getElem?_eq_getElem (show k < xs.length by omega)⟩
  have th15 := H.thR 0 rfl hx14
  refine u_val rfl rfl (fun w H => r_iaE (p := oOf A1 + k * 1) rfl sl24 rfl rfl (by omega) (by omega) th15 rfl) (u_val rfl rfl (fun w H => r_ld rfl ty3 rfl (H.elR 0 rfl hx14 (q := 0) rfl rfl)) (u_k 2 rfl ?_))
  obtain ⟨x16, hx17⟩ : ∃ z9, ys[k]? = some z9 := ⟨_, List.getElem?_eq_getElem (show k < ys.length by omega)⟩
  have th18 := H.thR 1 rfl hx17
  refine u_val rfl rfl (fun w H => r_iaE (p := oOf A6 + k * 1) rfl sl24 rfl rfl (by omega) (by omega) th18 rfl) (u_val rfl rfl (fun w H => r_ld rfl ty3 rfl (H.elR 1 rfl hx17 (q := 0) rfl rfl)) (u_val rfl rfl (fun w H => r_ne rfl rfl rfl) (u_end (fun w H => (q_then ?_)))))
  refine c_dec rfl (fun h19 => ?_) (fun h19 => ?_)
  ·refine c_seq (c_reg (s_1 rfl (s_nil (q_then (c_ret (q_blockR (q_thenR (q_thenR (q_blockR (q_thenR (q_ret1 rfl rfl ?_)))))))))))
   have e : ¬ xs = ys := fun e => h19 (by rw [e, hx17] at hx14; exact (Option.some.inj hx14).symm)
   exact fin ⟨by rw [decide_eq_false e] <;> rfl, rfl⟩ H
  refine c_skip (q_blockN (q_then (c_reg (s_1 rfl (s_val rfl rfl (r_add (z := ((k + 1 : Nat) : Int)) rfl rfl rfl (by rw [w64 (by omega) (by omega)]; omega)) (s_1 rfl (s_nil ?_)))))))
  have e : x13 = x16 := Classical.not_not.1 h19
  subst e
  exact q_round (s := k) (k + 1) ⟨rfl, rfl, rfl, trivial⟩ ⟨H, by omega, hle, take_more hx14 hx17 ht⟩ (by (try dsimp only); omega)
 refine c_exit (q_thenE (q_thenE (q_blockE (q_then (c_seq (c_reg (s_1 rfl (s_nil (q_then (c_ret (q_ret1 rfl rfl ?_)))))))))))
 have e : xs = ys := by rw [← take_all (xs := xs) (k := k) (by omega), ← take_all (xs := ys) (k := k) (by omega)]; exact ht
 exact fin ⟨by rw [decide_eq_true e] <;> rfl, rfl⟩ H
theorem ended_ok (vxs : Value) (xs : List RecF) :
    Cn Tryz.prog 90 [vxs] [] [rsl kRecF vxs xs] (fun v Bs => v = .tuple #[.int .i64 ((endedL xs).1), .int .i64 ((endedL xs).2.1), .int .i64 ((endedL xs).2.2.1), .bool ((endedL xs).2.2.2)] ∧ Bs = []) := by
 intro w0 F0 H
 obtain ⟨A1, c2, rfl, hc3, hm4, hp5⟩ := H.fR 0 rfl
 refine enter Tryz.func90 rfl rfl (Nat.le_of_ble_eq_true rfl) (c_seq (c_reg (s_k 4 rfl (s_nil (q_then ?_)))))
 replace H : Hd _ _ _ [] [rsl kRecF (.slice A1 xs.length c2) xs] := H
 refine c_seq (c_seq (c_reg (s_1 rfl (s_val rfl rfl (r_lenL rfl un29 rfl) (s_1 rfl (s_nil (q_then (c_block (c_loop (σ := Nat) (fun k => [(8, .slice A1 xs.length c2), (9, .int .i64 ((xs.length : Nat) : Int)), (10, .int .i64 ((k : Nat) : Int))]) (fun k w => (Hd w0 F0 w [] [rsl kRecF (.slice A1 xs.length c2) xs]) ∧ (k ≤ xs.length) ∧ (endedL (xs.drop k) = endedL xs)) (fun k => xs.length - k) 0 ⟨rfl, rfl, rfl, trivial⟩ ⟨H, by (try dsimp only); omega, rfl⟩ ?_)))))))))
 rintro k w ⟨H, hk, hd⟩
 refine c_seq (c_reg (s_val rfl rfl (r_lt rfl rfl rfl) (s_nil (q_then (c_seq ?_)))))
 refine c_dec rfl (fun h6 => ?_) (fun h6 => ?_)
 ·refine c_skip (q_then (c_seq (c_block (c_seq (c_reg ?_)))))
  obtain ⟨x7, hx8⟩ : ∃ z9, xs[k]? = some z9 := ⟨_, List.getElem?_eq_getElem (show k < xs.length by omega)⟩
  have th9 := H.thR 0 rfl hx8
  refine s_val rfl rfl (r_iaE (p := oOf A1 + k * 7) rfl sl29 rfl rfl (by omega) (by omega) th9 rfl) (s_val rfl rfl (r_ldA (cs := [.int .i64 x7.kind, .int .i64 x7.part, .int .i64 x7.sp, .int .i64 x7.att, .int .i64 x7.why, .slice x7.hs.A x7.hs.n x7.hs.c, .slice x7.hp.A x7.hp.n x7.hp.c]) rfl ty37 rfl rfl (H.elsR 0 rfl hx8 rfl)) (s_alloc rfl rfl rfl zr37 H (fun b10 w H => (s_st rfl rfl rfl ty37 rfl rfl H rfl (Nat.le_of_ble_eq_true rfl) (fun u hu => by simp [Value.cells] at hu; rcases hu with rfl | rfl | rfl | rfl | rfl | rfl | rfl <;> rfl) (fun w H => ?_)))))
  replace H := H.h1 (A := blk b10 [.int .i64 x7.kind, .int .i64 x7.part, .int .i64 x7.sp, .int .i64 x7.att, .int .i64 x7.why, .slice x7.hs.A x7.hs.n x7.hs.c, .slice x7.hp.A x7.hp.n x7.hp.c] 37)
  refine s_nil (q_then (c_block (c_seq (c_reg (s_val rfl rfl (r_fa rfl fo37_0 rfl) (s_val rfl rfl (r_ld rfl ty3 rfl (H.cellI 0 rfl rfl)) (s_val rfl rfl (r_eq rfl rfl rfl) (s_1 rfl (s_nil (q_then ?_))))))))))
  refine c_dec rfl (fun h11 => ?_) (fun h11 => ?_)
  ·refine c_seq (c_reg (s_k 4 rfl (s_nil (q_then (c_ret (q_blockR (q_blockR (q_thenR (q_thenR (q_blockR (q_thenR (q_ret4 rfl rfl rfl rfl rfl ?_))))))))))))
   have e : endedL xs = (1, 0, 0, false) := by rw [← hd, drop_at hx8, endedL, if_pos h11]
   replace H := H.nil
   exact fin ⟨by rw [e] <;> rfl, rfl⟩ H
  refine c_seq (c_reg (s_val rfl rfl (r_fa rfl fo37_0 rfl) (s_val rfl rfl (r_ld rfl ty3 rfl (H.cellI 0 rfl rfl)) (s_val rfl rfl (r_eq rfl rfl rfl) (s_1 rfl ?_)))))
  refine s_dec (d := 22) rfl (fun h12 => ?_) (fun h12 => ?_)
  ·refine s_val rfl rfl (r_fa rfl fo37_3 rfl) (s_val rfl rfl (r_ld rfl ty3 rfl (H.cellI 0 rfl rfl)) (s_val rfl rfl (r_eq rfl rfl rfl) (s_k 2 rfl (s_nil (q_then ?_)))))
   refine c_dec rfl (fun h13 => ?_) (fun h13 => ?_)
   ·refine c_seq (c_draw mo (by kernel_rfl) H (u_val rfl rfl (fun w H => r_fa rfl fo37_4 rfl) (u_val rfl rfl (fun w H => r_ld rfl ty3 rfl (H.cellI 0 rfl rfl)) (u_val rfl rfl (fun w H => r_fa rfl fo37_1 rfl) (u_val rfl rfl (fun w H => r_ld rfl ty3 rfl (H.cellI 0 rfl rfl)) (u_k 4 rfl (u_end (fun w H => (q_then (c_ret (q_blockR (q_blockR (q_thenR (q_thenR (q_blockR (q_thenR (q_ret4 rfl rfl rfl rfl rfl ?_)))))))))))))))))
    have e : endedL xs = (2, x7.why, x7.part, true) := by rw [← hd, drop_at hx8, endedL, if_neg h11, if_pos h12, if_pos h13]
    replace H := H.nil
    exact fin ⟨by rw [e] <;> rfl, rfl⟩ H
   refine c_seq (c_reg (s_val rfl rfl (r_fa rfl fo37_0 rfl) (s_val rfl rfl (r_ld rfl ty3 rfl (H.cellI 0 rfl rfl)) (s_val rfl rfl (r_eq rfl rfl rfl) (s_1 rfl (s_nil (q_then ?_)))))))
   refine c_dec rfl (fun h14 => ?_) (fun h14 => ?_)
   ·refine c_seq (c_draw mo (by kernel_rfl) H (u_val rfl rfl (fun w H => r_fa rfl fo37_4 rfl) (u_val rfl rfl (fun w H => r_ld rfl ty3 rfl (H.cellI 0 rfl rfl)) (u_val rfl rfl (fun w H => r_fa rfl fo37_2 rfl) (u_val rfl rfl (fun w H => r_ld rfl ty3 rfl (H.cellI 0 rfl rfl)) (u_k 4 rfl (u_end (fun w H => (q_then (c_ret (q_blockR (q_blockR (q_thenR (q_thenR (q_blockR (q_thenR (q_ret4 rfl rfl rfl rfl rfl ?_)))))))))))))))))
    have e : endedL xs = (2, x7.why, x7.sp, false) := by rw [← hd, drop_at hx8, endedL, if_neg h11, if_pos h14, if_neg h13]
    replace H := H.nil
    exact fin ⟨by rw [e] <;> rfl, rfl⟩ H
   exact absurd h12 h14
  refine s_k 5 rfl (s_nil (q_then (c_no rfl (c_seq (c_reg (s_val rfl rfl (r_fa rfl fo37_0 rfl) (s_val rfl rfl (r_ld rfl ty3 rfl (H.cellI 0 rfl rfl)) (s_val rfl rfl (r_eq rfl rfl rfl) (s_1 rfl (s_nil (q_then ?_)))))))))))
  refine c_dec rfl (fun h15 => ?_) (fun h15 => ?_)
  ·exact absurd h15 h12
  refine c_skip (q_blockN (q_blockN (q_then (c_reg (s_val rfl rfl (r_add (z := ((k + 1 : Nat) : Int)) rfl rfl rfl (by rw [w64 (by omega) (by omega)]; omega)) (s_1 rfl (s_nil ?_)))))))
  have hd2 : endedL (xs.drop (k + 1)) = endedL xs := by rw [← hd, drop_at hx8, endedL, if_neg h11, if_neg h15]
  replace H := H.nil
  exact q_round (s := k) (k + 1) ⟨rfl, rfl, rfl, trivial⟩ ⟨H, by (try dsimp only); omega, hd2⟩ (by (try dsimp only); omega)
 refine c_exit (q_thenE (q_thenE (q_blockE (q_then (c_seq (c_reg (s_k 4 rfl (s_nil (q_then (c_ret (q_ret4 rfl rfl rfl rfl rfl ?_)))))))))))
 have e : endedL xs = (0, 0, 0, false) := by rw [← hd, List.drop_eq_nil_of_le (by omega)]; rfl
 exact fin ⟨by rw [e] <;> rfl, rfl⟩ H
theorem won_ok (vxs : Value) (xs : List RecF) (s : Int) :
    Cn Tryz.prog 91 [vxs, .int .i64 s] [] [rsl kRecF vxs xs] (fun v Bs => v = .tuple #[.int .i64 ((wonL s xs).1), .bool ((wonL s xs).2)] ∧ Bs = []) := by
 intro w0 F0 H
 obtain ⟨A1, c2, rfl, hc3, hm4, hp5⟩ := H.fR 0 rfl
 refine enter Tryz.func91 rfl rfl (Nat.le_of_ble_eq_true rfl) (c_seq (c_reg (s_k 2 rfl (s_nil (q_then ?_)))))
 replace H : Hd _ _ _ [] [rsl kRecF (.slice A1 xs.length c2) xs] := H
 refine c_seq (c_seq (c_reg (s_1 rfl (s_val rfl rfl (r_lenL rfl un29 rfl) (s_1 rfl (s_nil (q_then (c_block (c_loop (σ := Nat) (fun k => [(1, .int .i64 s), (8, .slice A1 xs.length c2), (9, .int .i64 ((xs.length : Nat) : Int)), (10, .int .i64 ((k : Nat) : Int))]) (fun k w => (Hd w0 F0 w [] [rsl kRecF (.slice A1 xs.length c2) xs]) ∧ (k ≤ xs.length) ∧ (wonL s (xs.drop k) = wonL s xs)) (fun k => xs.length - k) 0 ⟨rfl, rfl, rfl, rfl, trivial⟩ ⟨H, by (try dsimp only); omega, rfl⟩ ?_)))))))))
 rintro k w ⟨H, hk, hd⟩
 refine c_seq (c_reg (s_val rfl rfl (r_lt rfl rfl rfl) (s_nil (q_then (c_seq ?_)))))
 refine c_dec rfl (fun h6 => ?_) (fun h6 => ?_)
 ·refine c_skip (q_then (c_seq (c_block (c_seq (c_reg ?_)))))
  obtain ⟨x7, hx8⟩ : ∃ z9, xs[k]? = some z9 := ⟨_, List.getElem?_eq_getElem (show k < xs.length by omega)⟩
  have th9 := H.thR 0 rfl hx8
  refine s_val rfl rfl (r_iaE (p := oOf A1 + k * 7) rfl sl29 rfl rfl (by omega) (by omega) th9 rfl) (s_val rfl rfl (r_ldA (cs := [.int .i64 x7.kind, .int .i64 x7.part, .int .i64 x7.sp, .int .i64 x7.att, .int .i64 x7.why, .slice x7.hs.A x7.hs.n x7.hs.c, .slice x7.hp.A x7.hp.n x7.hp.c]) rfl ty37 rfl rfl (H.elsR 0 rfl hx8 rfl)) (s_alloc rfl rfl rfl zr37 H (fun b10 w H => (s_st rfl rfl rfl ty37 rfl rfl H rfl (Nat.le_of_ble_eq_true rfl) (fun u hu => by simp [Value.cells] at hu; rcases hu with rfl | rfl | rfl | rfl | rfl | rfl | rfl <;> rfl) (fun w H => ?_)))))
  replace H := H.h1 (A := blk b10 [.int .i64 x7.kind, .int .i64 x7.part, .int .i64 x7.sp, .int .i64 x7.att, .int .i64 x7.why, .slice x7.hs.A x7.hs.n x7.hs.c, .slice x7.hp.A x7.hp.n x7.hp.c] 37)
  refine s_nil (q_then (c_seq (c_reg (s_val rfl rfl (r_fa rfl fo37_0 rfl) (s_val rfl rfl (r_ld rfl ty3 rfl (H.cellI 0 rfl rfl)) (s_val rfl rfl (r_eq rfl rfl rfl) (s_1 rfl ?_)))))))
  refine s_dec (d := 17) rfl (fun h11 => ?_) (fun h11 => ?_)
  ·refine s_val rfl rfl (r_fa rfl fo37_2 rfl) (s_val rfl rfl (r_ld rfl ty3 rfl (H.cellI 0 rfl rfl)) (s_1 rfl (s_val rfl rfl (r_eq rfl rfl rfl) (s_1 rfl (s_nil (q_then ?_))))))
   refine c_dec rfl (fun h12 => ?_) (fun h12 => ?_)
   ·refine c_seq (c_reg (s_val rfl rfl (r_fa rfl fo37_3 rfl) (s_val rfl rfl (r_ld rfl ty3 rfl (H.cellI 0 rfl rfl)) (s_k 2 rfl (s_nil (q_then (c_ret (q_blockR (q_thenR (q_thenR (q_blockR (q_thenR (q_ret2 rfl rfl rfl ?_)))))))))))))
    have e : wonL s xs = (x7.att, true) := by rw [← hd, drop_at hx8, wonL, if_pos ⟨h11, h12⟩]
    replace H := H.nil
    exact fin ⟨by rw [e] <;> rfl, rfl⟩ H
   refine c_skip (q_blockN (q_then (c_reg (s_val rfl rfl (r_add (z := ((k + 1 : Nat) : Int)) rfl rfl rfl (by rw [w64 (by omega) (by omega)]; omega)) (s_1 rfl (s_nil ?_))))))
   have hd2 : wonL s (xs.drop (k + 1)) = wonL s xs := by rw [← hd, drop_at hx8, wonL, if_neg (fun h => h12 h.2)]
   replace H := H.nil
   exact q_round (s := k) (k + 1) ⟨rfl, rfl, rfl, rfl, trivial⟩ ⟨H, by (try dsimp only); omega, hd2⟩ (by (try dsimp only); omega)
  refine s_k 5 rfl (s_nil (q_then (c_no rfl (c_skip (q_blockN (q_then (c_reg (s_val rfl rfl (r_add (z := ((k + 1 : Nat) : Int)) rfl rfl rfl (by rw [w64 (by omega) (by omega)]; omega)) (s_1 rfl (s_nil ?_))))))))))
  have hd2 : wonL s (xs.drop (k + 1)) = wonL s xs := by rw [← hd, drop_at hx8, wonL, if_neg (fun h => h11 h.1)]
  replace H := H.nil
  exact q_round (s := k) (k + 1) ⟨rfl, rfl, rfl, rfl, trivial⟩ ⟨H, by (try dsimp only); omega, hd2⟩ (by (try dsimp only); omega)
 refine c_exit (q_thenE (q_thenE (q_blockE (q_then (c_seq (c_reg (s_k 2 rfl (s_nil (q_then (c_ret (q_ret2 rfl rfl rfl ?_)))))))))))
 have e : wonL s xs = (0, false) := by rw [← hd, List.drop_eq_nil_of_le (by omega)]; rfl
 exact fin ⟨by rw [e] <;> rfl, rfl⟩ H
theorem winners_ok (vxs : Value) (xs : List RecF) (hb : xs.length ≤ 1000000) :
    Cn Tryz.prog 92 [vxs] [] [rsl kRecF vxs xs] (fun v Bs => Bs = [osl (kInt .i64) v (winL xs)]) := by
 intro w0 F0 H
 obtain ⟨A1, c2, rfl, hc3, hm4, hp5⟩ := H.fR 0 rfl
 refine enter Tryz.func92 rfl rfl (Nat.le_of_ble_eq_true rfl) (c_seq (c_reg (s_1 rfl (s_nil (q_then ?_)))))
 replace H : Hd _ _ _ [] [rsl kRecF (.slice A1 xs.length c2) xs] := H
 refine c_seq (c_reg (s_1 rfl (s_nil (q_then (c_seq (c_seq (c_reg (s_1 rfl (s_val rfl rfl (r_lenL rfl un29 rfl) (s_1 rfl (s_nil (q_then (c_block ?_)))))))))))))
 replace H := H.newnil (kInt .i64)
 refine c_loop (σ := Nat × Value) (fun (k, l) => [(2, .slice none 0 0), (3, l), (6, .slice A1 xs.length c2), (7, .int .i64 ((xs.length : Nat) : Int)), (8, .int .i64 ((k : Nat) : Int))]) (fun (k, l) w => (Hd w0 F0 w [osl (kInt .i64) l (wlF (xs.take k))] [rsl kRecF (.slice A1 xs.length c2) xs]) ∧ (k ≤ xs.length)) (fun (k, l) => xs.length - k) (0, .slice none 0 0) ⟨rfl, rfl, rfl, rfl, rfl, trivial⟩ ⟨H, by (try dsimp only); omega⟩ ?_
 rintro ⟨k, l⟩ w ⟨H, hk⟩
 have hwl := wl_len (xs.take k)
 have hjt : (xs.take k).length ≤ xs.length := by simp; omega
 refine c_seq (c_reg (s_val rfl rfl (r_lt rfl rfl rfl) (s_nil (q_then (c_seq ?_)))))
 refine c_dec rfl (fun h6 => ?_) (fun h6 => ?_)
 ·refine c_skip (q_then (c_seq (c_block (c_seq (c_reg ?_)))))
  obtain ⟨x7, hx8⟩ : ∃ z9, xs[k]? = some z9 := ⟨_, List.getElem?_eq_getElem (show k < xs.length by omega)⟩
  have th9 := H.thR 0 rfl hx8
  refine s_val rfl rfl (r_iaE (p := oOf A1 + k * 7) rfl sl29 rfl rfl (by omega) (by omega) th9 rfl) (s_val rfl rfl (r_ldA (cs := [.int .i64 x7.kind, .int .i64 x7.part, .int .i64 x7.sp, .int .i64 x7.att, .int .i64 x7.why, .slice x7.hs.A x7.hs.n x7.hs.c, .slice x7.hp.A x7.hp.n x7.hp.c]) rfl ty37 rfl rfl (H.elsR 0 rfl hx8 rfl)) (s_alloc rfl rfl rfl zr37 H (fun b10 w H => (s_st rfl rfl rfl ty37 rfl rfl H rfl (Nat.le_of_ble_eq_true rfl) (fun u hu => by simp [Value.cells] at hu; rcases hu with rfl | rfl | rfl | rfl | rfl | rfl | rfl <;> rfl) (fun w H => ?_)))))
  replace H := H.h2 (A := blk b10 [.int .i64 x7.kind, .int .i64 x7.part, .int .i64 x7.sp, .int .i64 x7.att, .int .i64 x7.why, .slice x7.hs.A x7.hs.n x7.hs.c, .slice x7.hp.A x7.hp.n x7.hp.c] 37) (B := osl (kInt .i64) l (wlF (xs.take k)))
  refine s_nil (q_then (c_seq (c_reg (s_val rfl rfl (r_fa rfl fo37_0 rfl) (s_val rfl rfl (r_ld rfl ty3 rfl (H.cellI 0 rfl rfl)) (s_val rfl rfl (r_eq rfl rfl rfl) (s_nil (q_then ?_))))))))
  refine c_dec rfl (fun h11 => ?_) (fun h11 => ?_)
  ·refine c_reg (s_1 rfl (s_val rfl rfl (r_fa rfl fo37_2 rfl) (s_val rfl rfl (r_ld rfl ty3 rfl (H.cellI 0 rfl rfl)) (s_bsl (parts := [(0, .tmp 17)]) (vs := [.int .i64 x7.sp]) (cs := [.int .i64 x7.sp]) rfl rfl rfl sl24 zr3 rfl (by decide) (by decide) rfl rfl H (fun b12 w H => ?_)))))
   replace H := H.p2
   refine s_appF (xs := wlF (xs.take k)) (ys := [x7.sp]) rfl rfl rfl sl24 zr3 rfl (by decide) rfl rfl H (by first | omega | (simp only [List.length_append, List.length_cons, List.length_nil]; omega)) (fun F hA hR => blk_rsl (hA _ (List.mem_of_getElem? (i := 0) rfl)) rfl (by decide) (RepsR.flat_eq.2 rfl)) (fun v13 w H => (s_1 rfl (s_nil (q_blockN (q_then ?_)))))
   replace H : Hd _ _ _ [osl (kInt .i64) v13 ((wlF (xs.take k)) ++ [x7.sp]), blk b12 [.int .i64 x7.sp] 3, blk b10 [.int .i64 x7.kind, .int .i64 x7.part, .int .i64 x7.sp, .int .i64 x7.att, .int .i64 x7.why, .slice x7.hs.A x7.hs.n x7.hs.c, .slice x7.hp.A x7.hp.n x7.hp.c] 37] [rsl kRecF (.slice A1 xs.length c2) xs] := H
   refine c_reg (s_val rfl rfl (r_add (z := ((k + 1 : Nat) : Int)) rfl rfl rfl (by rw [w64 (by omega) (by omega)]; omega)) (s_1 rfl (s_nil ?_)))
   rw [← wl_yes hx8 h11] at H
   replace H := H.k1
   exact q_round (s := (k, undef)) (k + 1, v13) ⟨rfl, rfl, rfl, rfl, rfl, trivial⟩ ⟨H, by (try dsimp only); omega⟩ (by (try dsimp only); omega)
  refine c_skip (q_blockN (q_then (c_reg (s_val rfl rfl (r_add (z := ((k + 1 : Nat) : Int)) rfl rfl rfl (by rw [w64 (by omega) (by omega)]; omega)) (s_1 rfl (s_nil ?_))))))
  rw [← wl_no hx8 h11] at H
  replace H := H.sel 2 [1] [0] rfl (by kernel_rfl)
  exact q_round (s := (k, undef)) (k + 1, l) ⟨rfl, rfl, rfl, rfl, rfl, trivial⟩ ⟨H, by (try dsimp only); omega⟩ (by (try dsimp only); omega)
 refine c_exit (q_thenE (q_thenE (q_blockE (q_then (c_seq (c_reg (s_1 rfl (sc (sortInt_ok l (wlF (xs.take k)) (by first | omega | (rw [sortI_len]; omega))) H l0 rfl rfl (e_fn kn155 rfl rfl) ?_))))))))
 rintro v14 _ w rfl H
 replace H := H.h1 (A := osl (kInt .i64) l (sortI (wlF (xs.take k))))
 refine s_nil (q_then (c_seq (c_reg (s_1 rfl (sc (compInt_ok l (sortI (wlF (xs.take k))) (by first | omega | (rw [sortI_len]; omega))) H l0 rfl rfl (e_fn kn156 rfl rfl) ?_)))))
 rintro v15 _ w rfl H
 replace H := H.h1 (A := osl (kInt .i64) v15 (Lib.compact (sortI (wlF (xs.take k)))))
 refine s_1 rfl (s_nil (q_then (c_ret (q_ret1 rfl rfl ?_))))
 replace H : Hd w0 F0 w [osl (kInt .i64) v15 (winL xs)] [rsl kRecF (.slice A1 xs.length c2) xs] := by rw [List.take_of_length_le (show xs.length ≤ k by omega)] at H; exact H
 exact fin rfl H
theorem awake26_ok  :
    Cn Tryz.prog 21 [] [] [] (fun v Bs => v = .bool true ∧ Bs = []) := by
 intro w0 F0 H
 refine enter Tryz.func21 rfl rfl (Nat.le_of_ble_eq_true rfl) (c_seq (c_reg (s_1 rfl (s_nil (q_then (c_seq (c_reg (s_val rfl rfl (r_bd (parts := [(0, .const (.int .i64 1)), (3, .const (.int .i64 2))]) (vs := [.int .i64 1, .int .i64 2]) (cs := [.int .i64 1, .int .i64 0, .int .i64 0, .int .i64 2, .int .i64 0, .slice none 0 0, .slice none 0 0]) rfl bd37 rfl rfl) (s_val rfl rfl (r_bd (parts := [(0, .const (.int .i64 3)), (4, .const (.int .i64 3)), (1, .const (.int .i64 1)), (3, .const (.int .i64 1))]) (vs := [.int .i64 3, .int .i64 3, .int .i64 1, .int .i64 1]) (cs := [.int .i64 3, .int .i64 1, .int .i64 0, .int .i64 1, .int .i64 3, .slice none 0 0, .slice none 0 0]) rfl bd37 rfl rfl) (s_bsl (parts := [(0, .tmp 8), (1, .tmp 9)]) (vs := [.agg #[.int .i64 1, .int .i64 0, .int .i64 0, .int .i64 2, .int .i64 0, .slice none 0 0, .slice none 0 0], .agg #[.int .i64 3, .int .i64 1, .int .i64 0, .int .i64 1, .int .i64 3, .slice none 0 0, .slice none 0 0]]) (cs := [.int .i64 1, .int .i64 0, .int .i64 0, .int .i64 2, .int .i64 0, .slice none 0 0, .slice none 0 0, .int .i64 3, .int .i64 1, .int .i64 0, .int .i64 1, .int .i64 3, .slice none 0 0, .slice none 0 0]) rfl rfl rfl sl29 zr37 rfl (by decide) (by decide) rfl rfl H (fun b1 w H => ?_)))))))))))
 refine sc (ended_ok (.slice (some ⟨b1, 0, none⟩) 2 2) [(⟨1, 0, 0, 2, 0, ⟨none, 0, 0⟩, ⟨none, 0, 0⟩⟩ : RecF), (⟨3, 1, 0, 1, 3, ⟨none, 0, 0⟩, ⟨none, 0, 0⟩⟩ : RecF)]) H (lA 0 rfl (fun F h => blk_rsl h rfl (by decide) (RepsR.flat_eq.2 rfl)) l0) rfl rfl (e_fn kn90 rfl rfl) ?_
 rintro _ _ w ⟨rfl, rfl⟩ H
 refine s_k 9 rfl (s_nil (q_then ?_))
 replace H : Hd _ _ _ [blk b1 [.int .i64 1, .int .i64 0, .int .i64 0, .int .i64 2, .int .i64 0, .slice none 0 0, .slice none 0 0, .int .i64 3, .int .i64 1, .int .i64 0, .int .i64 1, .int .i64 3, .slice none 0 0, .slice none 0 0] 37] [] := H
 refine c_seq (c_reg (s_val rfl rfl (r_bd (parts := [(0, .const (.int .i64 1)), (2, .const (.int .i64 3)), (3, .const (.int .i64 2))]) (vs := [.int .i64 1, .int .i64 3, .int .i64 2]) (cs := [.int .i64 1, .int .i64 0, .int .i64 3, .int .i64 2, .int .i64 0, .slice none 0 0, .slice none 0 0]) rfl bd37 rfl rfl) (s_bsl (parts := [(0, .tmp 17)]) (vs := [.agg #[.int .i64 1, .int .i64 0, .int .i64 3, .int .i64 2, .int .i64 0, .slice none 0 0, .slice none 0 0]]) (cs := [.int .i64 1, .int .i64 0, .int .i64 3, .int .i64 2, .int .i64 0, .slice none 0 0, .slice none 0 0]) rfl rfl rfl sl29 zr37 rfl (by decide) (by decide) rfl rfl H (fun b2 w H => (sc (won_ok (.slice (some ⟨b2, 0, none⟩) 1 1) [(⟨1, 0, 3, 2, 0, ⟨none, 0, 0⟩, ⟨none, 0, 0⟩⟩ : RecF)] 3) H (lA 0 rfl (fun F h => blk_rsl h rfl (by decide) (RepsR.flat_eq.2 rfl)) l0) rfl rfl (e_fn kn91 rfl rfl) ?_)))))
 rintro _ _ w ⟨rfl, rfl⟩ H
 replace H := H.h1 (A := blk b2 [.int .i64 1, .int .i64 0, .int .i64 3, .int .i64 2, .int .i64 0, .slice none 0 0, .slice none 0 0] 37)
 refine s_k 5 rfl (s_nil (q_then (c_seq (c_reg (s_1 rfl (s_val rfl rfl (r_eq rfl rfl rfl) (s_1 rfl ?_)))))))
 refine s_dec (d := 24) rfl (fun h3 => ?_) (fun h3 => ?_)
 ·refine s_1 rfl (s_val rfl rfl (r_eq rfl rfl rfl) (s_k 2 rfl ?_))
  refine s_dec (d := 28) rfl (fun h4 => ?_) (fun h4 => ?_)
  ·refine s_1 rfl (s_val rfl rfl (r_eq rfl rfl rfl) (s_k 2 rfl ?_))
   refine s_dec (d := 32) rfl (fun h5 => ?_) (fun h5 => ?_)
   ·refine s_k 3 rfl ?_
    refine s_boo (d := 35) (b := (endedL [(⟨1, 0, 0, 2, 0, ⟨none, 0, 0⟩, ⟨none, 0, 0⟩⟩ : RecF), (⟨3, 1, 0, 1, 3, ⟨none, 0, 0⟩, ⟨none, 0, 0⟩⟩ : RecF)]).2.2.2) rfl (fun h6 => ?_) (fun h6 => ?_)
    ·refine s_1 rfl (s_val rfl rfl (r_eq rfl rfl rfl) (s_k 2 rfl ?_))
     refine s_dec (d := 39) rfl (fun h7 => ?_) (fun h7 => ?_)
     ·refine s_k 3 rfl ?_
      refine s_boo (d := 42) (b := (wonL 3 [(⟨1, 0, 3, 2, 0, ⟨none, 0, 0⟩, ⟨none, 0, 0⟩⟩ : RecF)]).2) rfl (fun h8 => ?_) (fun h8 => ?_)
      ·refine s_val rfl rfl (r_bd (parts := [(0, .const (.int .i64 1)), (2, .const (.int .i64 3))]) (vs := [.int .i64 1, .int .i64 3]) (cs := [.int .i64 1, .int .i64 0, .int .i64 3, .int .i64 0, .int .i64 0, .slice none 0 0, .slice none 0 0]) rfl bd37 rfl rfl) (s_val rfl rfl (r_bd (parts := [(0, .const (.int .i64 1)), (2, .const (.int .i64 1))]) (vs := [.int .i64 1, .int .i64 1]) (cs := [.int .i64 1, .int .i64 0, .int .i64 1, .int .i64 0, .int .i64 0, .slice none 0 0, .slice none 0 0]) rfl bd37 rfl rfl) (s_bsl (parts := [(0, .tmp 43), (1, .tmp 44)]) (vs := [.agg #[.int .i64 1, .int .i64 0, .int .i64 3, .int .i64 0, .int .i64 0, .slice none 0 0, .slice none 0 0], .agg #[.int .i64 1, .int .i64 0, .int .i64 1, .int .i64 0, .int .i64 0, .slice none 0 0, .slice none 0 0]]) (cs := [.int .i64 1, .int .i64 0, .int .i64 3, .int .i64 0, .int .i64 0, .slice none 0 0, .slice none 0 0, .int .i64 1, .int .i64 0, .int .i64 1, .int .i64 0, .int .i64 0, .slice none 0 0, .slice none 0 0]) rfl rfl rfl sl29 zr37 rfl (by decide) (by decide) rfl rfl H (fun b9 w H => ?_)))
       replace H := H.h1 (A := blk b9 [.int .i64 1, .int .i64 0, .int .i64 3, .int .i64 0, .int .i64 0, .slice none 0 0, .slice none 0 0, .int .i64 1, .int .i64 0, .int .i64 1, .int .i64 0, .int .i64 0, .slice none 0 0, .slice none 0 0] 37)
       refine sc (winners_ok (.slice (some ⟨b9, 0, none⟩) 2 2) [(⟨1, 0, 3, 0, 0, ⟨none, 0, 0⟩, ⟨none, 0, 0⟩⟩ : RecF), (⟨1, 0, 1, 0, 0, ⟨none, 0, 0⟩, ⟨none, 0, 0⟩⟩ : RecF)] (by first | omega | decide | (simp only [List.length_append, List.length_cons, List.length_nil]; omega))) H (lA 0 rfl (fun F h => blk_rsl h rfl (by decide) (RepsR.flat_eq.2 rfl)) l0) rfl rfl (e_fn kn92 rfl rfl) ?_
       rintro v10 _ w rfl H
       refine s_bsl (parts := [(0, .const (.int .i64 1)), (1, .const (.int .i64 3))]) (vs := [.int .i64 1, .int .i64 3]) (cs := [.int .i64 1, .int .i64 3]) rfl rfl rfl sl24 zr3 rfl (by decide) (by decide) rfl rfl H (fun b11 w H => (sc (sameInts_ok v10 (.slice (some ⟨b11, 0, none⟩) 2 2) (winL [(⟨1, 0, 3, 0, 0, ⟨none, 0, 0⟩, ⟨none, 0, 0⟩⟩ : RecF), (⟨1, 0, 1, 0, 0, ⟨none, 0, 0⟩, ⟨none, 0, 0⟩⟩ : RecF)]) [1, 3]) H (lA 1 rfl own_rd (lA 0 rfl (fun F h => blk_rsl h rfl (by decide) (RepsR.flat_eq.2 rfl)) l0)) rfl rfl (e_fn kn33 rfl rfl) ?_))
       rintro _ _ w ⟨rfl, rfl⟩ H
       replace H := H.h2 (A := blk b11 [.int .i64 1, .int .i64 3] 3) (B := osl (kInt .i64) v10 (winL [(⟨1, 0, 3, 0, 0, ⟨none, 0, 0⟩, ⟨none, 0, 0⟩⟩ : RecF), (⟨1, 0, 1, 0, 0, ⟨none, 0, 0⟩, ⟨none, 0, 0⟩⟩ : RecF)]))
       refine s_k 2 rfl (s_nil (q_then (c_ret (q_ret1 rfl rfl ?_))))
       replace H := H.nil
       exact fin ⟨congrArg Value.bool (decide_eq_true win_two), rfl⟩ H
      exact absurd h8 (by decide)
     exact (h7 (by decide)).elim
    exact absurd h6 (by decide)
   exact (h5 (by decide)).elim
  exact (h4 (by decide)).elim
 exact (h3 (by decide)).elim
theorem low_ok (x : Int) (n : Int) (hx : In64 x) (h0 : 0 < n) (hn : n ≤ 9223372036854775807) :
    Cn Tryz.prog 22 [.int .i64 x, .int .i64 n] [] [] (fun v Bs => v = .int .i64 (IntKind.u64.wrap x % n) ∧ Bs = []) := by
 intro w0 F0 H
 exact enter Tryz.func22 rfl rfl (Nat.le_of_ble_eq_true rfl) (c_seq (c_reg (s_1 rfl (s_nil (q_then (c_seq (c_reg (s_1 rfl (s_val rfl rfl (r_i2i (z := IntKind.u64.wrap x) rfl rfl un3 un158 rfl) (s_1 rfl (s_val rfl rfl (r_i2i (z := n) rfl rfl un3 un158 (wu64 (by omega) (by omega))) (s_val rfl rfl (r_rem (z := (IntKind.u64.wrap x) % n) rfl rfl rfl (by omega) (Int.tmod_eq_emod_of_nonneg (wrapU x).1)) (s_val rfl rfl (r_i2i (z := (IntKind.u64.wrap x) % n) rfl rfl un158 un3 (w64 (by have := Int.emod_nonneg (IntKind.u64.wrap x) (show n ≠ 0 by omega); omega) (by have := Int.emod_lt_of_pos (IntKind.u64.wrap x) h0; omega))) (s_1 rfl (s_nil (q_then (c_ret (q_ret1 rfl rfl (fin ⟨rfl, rfl⟩ H)))))))))))))))))))
theorem ckOutput_ok (vS : Value) (vM : Value) (vC : Value) (vR : Value) (vK : Value) (C : Cf) (p : Int) (vr : Value) (recs : List Rec) (hC : mayC C) (hp : In64 p) (hh : homeC C p ≠ 0) (hred : ∀ i ∈ C.J.red, In64 i.a) (hrs : ∀ r ∈ recs, (In64 r.sp ∧ r.set.length ≤ 1000) ∧ r.pairs.length ≤ 1000) (hrl : recs.length ≤ 100000) :
    Cn Tryz.prog 24 [.agg #[vS, .int .i64 C.J.parts, vM, vC, vR, .int .i64 C.J.chunk, .int .i64 C.J.window, .int .i64 C.J.fuel, vK, .int .i64 C.w, .int .i64 C.t, .int .i64 C.o], .int .i64 p, vr] [] [rsl (kHd kPair) vS C.J.us, rsl kIns vM C.J.map, rsl kIns vC C.J.comb, rsl kIns vR C.J.red, rsl (kInt .i64) vK C.J.marks, rsl kRec vr recs, gl] (fun v Bs => ∃ u : Value, v = .tuple #[u, .int .i64 ((outR dg C.J (newR C.J.us.length p 1 (recs.map Rec.p))).2.1), .bool ((outR dg C.J (newR C.J.us.length p 1 (recs.map Rec.p))).2.2)] ∧ Bs = [osl kPair u ((outR dg C.J (newR C.J.us.length p 1 (recs.map Rec.p))).1)]) := by
 intro w0 F0 H
 obtain ⟨A1, c2, rfl, hc3, hm4, hp5⟩ := H.fR 0 rfl
 obtain ⟨A6, c7, rfl, hc8, hm9, hp10⟩ := H.fR 1 rfl
 obtain ⟨A11, c12, rfl, hc13, hm14, hp15⟩ := H.fR 2 rfl
 obtain ⟨A16, c17, rfl, hc18, hm19, hp20⟩ := H.fR 3 rfl
 obtain ⟨A21, c22, rfl, hc23, hm24, hp25⟩ := H.fR 4 rfl
 obtain ⟨A26, c27, rfl, hc28, hm29, hp30⟩ := H.fR 5 rfl
 refine enter Tryz.func24 rfl rfl (Nat.le_of_ble_eq_true rfl) (c_seq (c_reg (s_box rfl rfl rfl rfl H (fun b31 w H => (s_k 3 rfl (s_nil (q_then ?_)))))))
 replace H : Hd _ _ _ [blk b31 [.slice A1 C.J.us.length c2, .int .i64 C.J.parts, .slice A6 C.J.map.length c7, .slice A11 C.J.comb.length c12, .slice A16 C.J.red.length c17, .int .i64 C.J.chunk, .int .i64 C.J.window, .int .i64 C.J.fuel, .slice A21 C.J.marks.length c22, .int .i64 C.w, .int .i64 C.t, .int .i64 C.o] 28] [rsl (kHd kPair) (.slice A1 C.J.us.length c2) C.J.us, rsl kIns (.slice A6 C.J.map.length c7) C.J.map, rsl kIns (.slice A11 C.J.comb.length c12) C.J.comb, rsl kIns (.slice A16 C.J.red.length c17) C.J.red, rsl (kInt .i64) (.slice A21 C.J.marks.length c22) C.J.marks, rsl kRec (.slice A26 recs.length c27) recs, gl] := H
 refine c_seq (c_reg (s_val rfl rfl (r_ldA (cs := [.slice A1 C.J.us.length c2, .int .i64 C.J.parts, .slice A6 C.J.map.length c7, .slice A11 C.J.comb.length c12, .slice A16 C.J.red.length c17, .int .i64 C.J.chunk, .int .i64 C.J.window, .int .i64 C.J.fuel, .slice A21 C.J.marks.length c22, .int .i64 C.w, .int .i64 C.t, .int .i64 C.o]) rfl ty28 rfl rfl (H.cellsI 0 rfl rfl)) (s_k 2 rfl (sc (redNew_ok (.slice A1 C.J.us.length c2) (.slice A6 C.J.map.length c7) (.slice A11 C.J.comb.length c12) (.slice A16 C.J.red.length c17) (.slice A21 C.J.marks.length c22) C p 1 (.slice A26 recs.length c27) recs (by first | assumption | omega | exact ⟨hh, by decide⟩ | (unfold In64; omega)) (by first | assumption | omega | exact ⟨hh, by decide⟩ | (unfold In64; omega)) (by first | assumption | omega | exact ⟨hh, by decide⟩ | (unfold In64; omega)) (by first | assumption | omega | exact ⟨hh, by decide⟩ | (unfold In64; omega)) (by first | assumption | omega | exact ⟨hh, by decide⟩ | (unfold In64; omega)) (by first | assumption | omega | exact ⟨hh, by decide⟩ | (unfold In64; omega))) H (lR 0 rfl (lR 1 rfl (lR 2 rfl (lR 3 rfl (lR 4 rfl (lR 5 rfl l0)))))) rfl rfl (e_fn kn56 rfl rfl) ?_))))
 rintro _ _ w ⟨r32, vS33, vM34, vC35, vR36, vK37, J38, hv39, sb40, vs41, us42, rfl, rfl, hf43, hf44⟩ H
 replace H := H.h9 (A := blk r32 (redC vS33 vM34 vC35 vR36 vK37 J38 C.w C.t C.o p 1 ((newR J38.us.length p 1 (recs.map Rec.p)).g) hv39 sb40 vs41) 185) (B := osl (kHd kPair) vS33 J38.us) (C := osl kIns vM34 J38.map) (D := osl kIns vC35 J38.comb) (E := osl kIns vR36 J38.red) (F := osl (kInt .i64) vK37 J38.marks) (G := prsS ((newR J38.us.length p 1 (recs.map Rec.p)).g) hv39) (I := osl (kHd (kInt .i64)) vs41 us42) (J := stgI 253 sb40 ([]))
 have hsj := hf43
 refine s_k 5 rfl (s_nil (q_then (c_seq (c_seq (c_reg (s_1 rfl (s_val rfl rfl (r_ne rfl rfl rfl) (s_nil (q_then (c_no rfl (c_skip (q_then (c_seq ?_)))))))))))))
 obtain ⟨A45, c46, rfl, hc47, hm48, hp49⟩ := H.fA 1 rfl
 have hr2 : ∀ i ∈ J38.red, In64 i.a := by rw [hsj.red]; exact hred
 have hf2 : In64 J38.fuel := by rw [hsj.fuel]; have := hC.1.2.2.2.2.2.2.2.2.2.2; unfold In64; omega
 have h6 : J38.us.length ≤ 6 := by have := hC.1.1; have := hsj.len; omega
 have hbp : ∀ i, ((newR J38.us.length p 1 (recs.map Rec.p)).g i).pairs.length ≤ 1000 := newR_pairs fun r hr => by obtain ⟨x, hx, rfl⟩ := List.mem_map.1 hr; exact (hrs x hx).2
 refine c_reg (s_1 rfl (sc (output_ok r32 A45 c46 vM34 vC35 vR36 vK37 J38 C.w C.t C.o p 1 (newR J38.us.length p 1 (recs.map Rec.p)) hv39 sb40 vs41 (by first | assumption | omega | exact ⟨hh, by decide⟩ | (unfold In64; omega)) (by first | assumption | omega | exact ⟨hh, by decide⟩ | (unfold In64; omega)) (by first | assumption | omega | exact ⟨hh, by decide⟩ | (unfold In64; omega)) (by first | assumption | omega | exact ⟨hh, by decide⟩ | (unfold In64; omega))) H (lA 0 rfl (fun _ h => h) (lA 6 rfl (fun _ h => h) (lA 4 rfl own_rd (lR 6 rfl l0)))) rfl rfl (e_fn kn60 rfl rfl) ?_))
 rintro _ _ w ⟨u50, rfl, rfl⟩ H
 replace H := H.h1 (A := osl kPair u50 ((outR dg J38 (newR J38.us.length p 1 (recs.map Rec.p))).1))
 refine s_k 6 rfl (s_nil (q_then (c_ret (q_ret3 rfl rfl rfl rfl ?_))))
 have e : outR dg J38 (newR J38.us.length p 1 (recs.map Rec.p)) = outR dg C.J (newR C.J.us.length p 1 (recs.map Rec.p)) := by rw [hsj.out, hsj.len]
 replace H := H.k1
 exact fin ⟨u50, by rw [e] <;> rfl, by rw [e] <;> rfl⟩ H
/-! ### Once -/
/-! ### Records -/
structure RelR (n : Nat) (R N : Red) : Prop where
 part : N.part = R.part
 g : ∀ s, s < n → (N.g s).merged = (R.g s).merged ∧ (N.g s).pairs = (R.g s).pairs
 sets : N.sets = R.sets
structure WinD where
 c : Int
 s : Int
 e : Int
 x : Int
def cutSz (chunk att : Int) : Int := if att.tmod 2 ≠ 0 then chunk + 1 else chunk
def chunksN (n size : Int) : Int := if n < 1 ∨ size < 1 then 0 else (n - 1).tdiv size + 1
def cutL (ps : List Pair) (size q : Int) : List Pair := if q < 0 ∨ chunksN ps.length size ≤ q then [] else (ps.drop (q * size).toNat).take size.toNat
structure Mpr where
 sp : Nat
 att : Int
 ws : List WinD
def chunkM (D : Dig) (J : Job) (s : Nat) (att p q : Int) : List Pair := if p < 0 then [] else cutL (onlyM D J s p) (cutSz J.chunk att) q
def ackMay (m : Mpr) (p : Int) : Prop := 0 ≤ p ∧ p < m.ws.length
instance (m : Mpr) (p : Int) : Decidable (ackMay m p) := by unfold ackMay; infer_instance
def cntN (D : Dig) (J : Job) (s : Nat) (att p : Int) : Nat := ((onlyM D J s p).length + (cutSz J.chunk att).toNat - 1) / (cutSz J.chunk att).toNat
def chs (D : Dig) (J : Job) (s : Nat) (att p : Int) (k : Nat) : List (List Pair) := (List.range k).map fun (q : Nat) => chunkM D J s att p q
section
variable {D : Dig} {J : Job} (hJ : OkJ J) {s : Nat} {att p : Int} (hp : 0 ≤ p)
include hJ hp
end
/-! ### What waits -/
structure FedR (D : Dig) (J : Job) (p : Int) (win : Nat → Int) (R : Red) : Prop where
 part : R.part = p
 told : ∀ s, s < J.us.length → (R.g s).told = true → (R.g s).att = win s ∧ (R.g s).cnt = cntN D J s (win s) p ∧ (splitM D J s).2 = 0
 st : ∀ (s : Nat) (a : Int), s < J.us.length → ∃ k, k ≤ cntN D J s a p ∧ sgOf R.st s a = chs D J s a p k
 merged : ∀ s, s < J.us.length → (R.g s).merged = true → (R.g s).pairs = onlyM D J s p ∧ (splitM D J s).2 = 0
 sets : ∀ set ∈ R.sets, (∀ x ∈ set, x ∈ mergedL J.us.length R) ∧ (set.length : Int) ∈ J.marks
 grow : R.sets.Pairwise fun a b => ∀ x ∈ a, x ∈ b
/-! ### What the model tells of some splits -/
/-! ### Split by split -/
def stB (st : Stg) : Prop := ∀ a b, (sgOf st a b).length ≤ 40 ∧ ∀ x ∈ sgOf st a b, x.length ≤ 8
structure OkR (n : Nat) (R : Red) : Prop where
 pairs : ∀ i, (R.g i).pairs.length ≤ 1000
 st : stB R.st
 sets : R.sets.length ≤ n
 setl : ∀ s ∈ R.sets, s.length ≤ 1000
theorem OkR.mono {n m : Nat} {R : Red} (h : OkR n R) (hm : n ≤ m) : OkR m R := ⟨h.pairs, h.st, Nat.le_trans h.sets hm, h.setl⟩
theorem flat_le {l : List (List Pair)} {n m : Nat} (h1 : l.length ≤ n) (h2 : ∀ x ∈ l, x.length ≤ m) : l.flatten.length ≤ n * m := by
 have : ∀ l : List (List Pair), (∀ x ∈ l, x.length ≤ m) → l.flatten.length ≤ l.length * m := by
  intro l
  induction l with
  | nil => intro _; simp
  | cons x l ih =>
   intro h
   have h3 := ih fun y hy => h y (List.mem_cons_of_mem _ hy)
   have h4 := h x (List.mem_cons_self ..)
   rw [List.flatten_cons, List.length_append, List.length_cons, Nat.succ_mul]
   omega
 exact Nat.le_trans (this l h2) (Nat.mul_le_mul_right _ h1)
theorem OkR.flat {n : Nat} {R : Red} (h : OkR n R) (a b : Int) : (sgOf R.st a b).flatten.length ≤ 320 := flat_le (h.st a b).1 (h.st a b).2
theorem sgOf_drop (c a b : Int) : ∀ st : Stg, sgOf (sgDrop st c) a b = if a = c then [] else sgOf st a b
 | [] => by unfold sgDrop; simp [sgOf]
 | e :: s => by
  have ih := sgOf_drop c a b s
  unfold sgDrop at ih ⊢
  by_cases h : e.1.1 = c
  ·rw [List.filter_cons_of_neg (by simpa using h), ih]
   by_cases h2 : a = c
   ·rw [if_pos h2, if_pos h2]
   ·rw [if_neg h2, if_neg h2]
    exact (if_neg (fun h3 => h2 (h3.1.symm.trans h))).symm
  ·rw [List.filter_cons_of_pos (p := fun e : (Int × Int) × List (List Pair) => decide (e.1.1 ≠ c)) (decide_eq_true h)]
   show (if e.1.1 = a ∧ e.1.2 = b then e.2 else sgOf (List.filter _ s) a b) = if a = c then [] else (if e.1.1 = a ∧ e.1.2 = b then e.2 else sgOf s a b)
   rw [ih]
   by_cases h2 : a = c
   ·rw [if_pos h2, if_pos h2, if_neg fun h3 => h (h3.1.trans h2)]
   ·rw [if_neg h2, if_neg h2]
theorem sgOf_add2 (c d a b : Int) (x : List Pair) : ∀ st : Stg, sgOf (sgAdd st c d x) a b = if c = a ∧ d = b then sgOf st a b ++ [x] else sgOf st a b
 | [] => by
  show (if c = a ∧ d = b then [x] else sgOf [] a b) = _
  split <;> rfl
 | e :: s => by
  have ih := sgOf_add2 c d a b x s
  show sgOf (if e.1.1 = c ∧ e.1.2 = d then (e.1, e.2 ++ [x]) :: s else e :: sgAdd s c d x) a b = if c = a ∧ d = b then (if e.1.1 = a ∧ e.1.2 = b then e.2 else sgOf s a b) ++ [x] else (if e.1.1 = a ∧ e.1.2 = b then e.2 else sgOf s a b)
  by_cases h : e.1.1 = c ∧ e.1.2 = d
  ·rw [if_pos h]
   show (if e.1.1 = a ∧ e.1.2 = b then e.2 ++ [x] else sgOf s a b) = _
   by_cases h2 : c = a ∧ d = b
   ·have h3 : e.1.1 = a ∧ e.1.2 = b := ⟨h.1.trans h2.1, h.2.trans h2.2⟩
    rw [if_pos h2, if_pos h3, if_pos h3]
   ·have h3 : ¬ (e.1.1 = a ∧ e.1.2 = b) := fun h4 => h2 ⟨h.1.symm.trans h4.1, h.2.symm.trans h4.2⟩
    rw [if_neg h2, if_neg h3, if_neg h3]
  ·rw [if_neg h]
   show (if e.1.1 = a ∧ e.1.2 = b then e.2 else sgOf (sgAdd s c d x) a b) = _
   rw [ih]
   by_cases h2 : c = a ∧ d = b
   ·have h3 : ¬ (e.1.1 = a ∧ e.1.2 = b) := fun h4 => h ⟨h4.1.trans h2.1.symm, h4.2.trans h2.2.symm⟩
    rw [if_pos h2, if_neg h3, if_neg h3, if_pos h2]
   ·rw [if_neg h2, if_neg h2]
theorem stB.drop {st : Stg} (h : stB st) (c : Int) : stB (sgDrop st c) := by
 intro a b
 rw [sgOf_drop]
 split
 ·exact ⟨by simp, fun x hx => by cases hx⟩
 ·exact h a b
theorem stB.put {st : Stg} (h : stB st) {a b q : Int} {x : List Pair} (hx : x.length ≤ 8) : stB (sgPut st a b q x) := by
 unfold sgPut
 split
 ·rename_i hm
  intro c d
  rw [sgOf_add2]
  split
  ·rename_i e
   obtain ⟨rfl, rfl⟩ := e
   have h1 := hm.1
   have h2 := hm.2.2.2
   unfold sgNext at h1
   refine ⟨by rw [List.length_append, List.length_singleton]; omega, fun y hy => ?_⟩
   rcases List.mem_append.1 hy with hy | hy
   ·exact (h _ _).2 y hy
   ·rw [List.mem_singleton.1 hy]; exact hx
  ·exact h c d
 ·exact h
theorem OkR.looks {n : Nat} {J : Job} {R : Red} (h : OkR n R) (h6 : J.us.length ≤ 6) (k : Nat) : OkR (n + 1) (looksR J R k).1 := by
 have hg : ∀ ps : List Pair, ps.length ≤ 40 → ∀ i, ((setD R.g k { R.g k with merged := true, pairs := ps } : Nat → SpD) i).pairs.length ≤ 1000 := fun ps hps i => by
  by_cases e : i = k
  ·subst e
   rw [setD_self]
   show ps.length ≤ 1000
   omega
  ·rw [setD_ne _ _ e]
   exact h.pairs i
 have h' : OkR (n + 1) R := h.mono (Nat.le_succ n)
 unfold looksR
 split
 ·exact h'
 ·split
  ·exact h'
  ·split
   ·exact h'
   ·rename_i hl
    dsimp only
    split
    ·refine ⟨hg _ (by omega), h.st.drop _, by show (R.sets ++ [_]).length ≤ n + 1; rw [List.length_append, List.length_singleton]; have := h.sets; omega, fun s hs => ?_⟩
     rcases List.mem_append.1 hs with hs | hs
     ·exact h.setl s hs
     ·rw [List.mem_singleton.1 hs]
      exact Nat.le_trans (merged_len _ _) (by omega)
    ·exact ⟨hg _ (by omega), h.st.drop _, Nat.le_succ_of_le h.sets, h.setl⟩
theorem OkR.push {n : Nat} {J : Job} {R : Red} (h : OkR n R) (h6 : J.us.length ≤ 6) (m : Msg) : OkR (n + 1) (pushR J R m).1 := by
 unfold pushR
 split
 ·exact h.mono (Nat.le_succ n)
 ·show OkR (n + 1) (pushS J R m).1
  unfold pushS
  split
  ·rename_i ht
   exact OkR.looks (R := { R with st := sgPut R.st m.sp m.att m.seq m.pairs }) ⟨h.pairs, h.st.put ht.2.1, h.sets, h.setl⟩ h6 _
  ·exact h.mono (Nat.le_succ n)
theorem new_sets (n : Nat) (p ep : Int) (rs : List RecP) : (newR n p ep rs).sets.length ≤ rs.length := by
 have key : ∀ rs : List RecP, (newR n p ep rs.reverse).sets.length ≤ rs.length := by
  intro rs
  induction rs with
  | nil => simp [newR, red0]
  | cons x rs ih =>
   rw [List.reverse_cons, newR_snoc, List.length_cons]
   have hx : ∀ R : Red, (recIn n R x).sets.length ≤ R.sets.length + 1 := by
    intro R
    unfold recIn
    dsimp only
    split
    ·omega
    ·split <;> split <;> simp
   have := hx (newR n p ep rs.reverse)
   omega
 have := key rs.reverse
 rwa [List.reverse_reverse, List.length_reverse] at this
theorem new_setl (n : Nat) (p ep : Int) (b : Nat) (rs : List RecP) (h : ∀ r ∈ rs, r.set.length ≤ b) : ∀ s ∈ (newR n p ep rs).sets, s.length ≤ b := by
 have key : ∀ (rs : List RecP) (R : Red), (∀ r ∈ rs, r.set.length ≤ b) → (∀ s ∈ R.sets, s.length ≤ b) → ∀ s ∈ (rs.foldl (recIn n) R).sets, s.length ≤ b := by
  intro rs
  induction rs with
  | nil => intro R _ h; exact h
  | cons x rs ih =>
   intro R hr hR
   refine ih (recIn n R x) (fun r hq => hr r (List.mem_cons_of_mem _ hq)) ?_
   have hx := hr x (List.mem_cons_self ..)
   have hc : ∀ R1 : Red, R1.sets = R.sets → ∀ s ∈ (if x.kind = 5 then ({ R1 with sets := R1.sets ++ [x.set] } : Red) else R1).sets, s.length ≤ b := by
    intro R1 e s hs
    split at hs
    ·rcases List.mem_append.1 hs with hs | hs
     ·rw [e] at hs; exact hR s hs
     ·rw [List.mem_singleton.1 hs]; exact hx
    ·rw [e] at hs; exact hR s hs
   unfold recIn
   dsimp only
   split
   ·exact hR
   ·refine hc _ ?_
    split <;> rfl
 exact key rs (red0 p ep) h fun s hs => by cases hs
theorem OkR.new {n : Nat} {p ep : Int} {rs : List RecP} (h : ∀ r ∈ rs, r.pairs.length ≤ 1000 ∧ r.set.length ≤ 1000) : OkR rs.length (newR n p ep rs) := ⟨newR_pairs fun r hr => (h r hr).1, by rw [(newR_part n p ep rs).2.2]; exact fun a b => ⟨by simp [sgOf], fun x hx => by cases hx⟩, new_sets n p ep rs, new_setl n p ep 1000 rs fun r hr => (h r hr).2⟩
section
variable {J : Job} {R R1 : Red} {k : Nat} {n : Int} {ps : List Pair}
end
def recT (r : Rec) : SP := star [osl (kInt .i64) r.sv r.set, osl kPair r.pv r.pairs]
def recS (us : List Rec) : SP := bigS recT us
section
variable {w0 w : World} {F F0 : Foot} {As Rs : List SP} {v : Value} {us : List Rec}
theorem Hd.recN {r : Rec} (H : Hd w0 F0 w (osl (kInt .i64) r.sv r.set :: osl kPair r.pv r.pairs :: recS us :: As) Rs) : Hd w0 F0 w (recS (us ++ [r]) :: As) Rs :=
 Hd.bigN (f := recT) (x := r) (Hd.stI (Bs := [osl (kInt .i64) r.sv r.set, osl kPair r.pv r.pairs]) H)
theorem Hd.rec0 (H : Hd w0 F0 w As Rs) : Hd w0 F0 w (recS [] :: As) Rs := H.big0 recT
end
/-! ### Six slices in a row -/
structure OrdI (D : Dig) (J : Job) (p : Int) (R : Red) (dn : Nat → Bool) : Prop where
 part : R.part = p
 st : R.st = []
 yes : ∀ i, i < J.us.length → dn i = true → (R.g i).merged = true ∧ (R.g i).pairs = onlyM D J i p ∧ (splitM D J i).2 = 0
 no : ∀ i, i < J.us.length → dn i = false → (R.g i).merged = false ∧ (R.g i).told = false
theorem merged_upto {n : Nat} {R : Red} (h : ∀ i, i < n → (R.g i).merged = true) : mergedL n R = upto n := by
 unfold mergedL upto
 rw [List.filter_eq_self.2 fun i hi => h i (List.mem_range.1 hi)]
theorem runs_all {D : Dig} {J : Job} {p : Int} {R : Red} : ∀ {n : Nat} {set : List Int}, (∀ i, i < n → (R.g i).merged = true ∧ (R.g i).pairs = onlyM D J i p) → (∀ i, i < n → (i : Int) ∈ set) → runsOf n R set = allOf D J p n
 | 0, _, _, _ => rfl
 | n + 1, set, h, hs => by
  have h1 := runs_all (n := n) (set := set) (fun i hi => h i (by omega)) (fun i hi => hs i (by omega))
  have h2 := h n (by omega)
  unfold runsOf at h1 ⊢
  have e : ([n].filter fun i => (R.g i).merged && decide ((i : Int) ∈ set)) = [n] := by rw [List.filter_cons_of_pos (by simp [h2.1, hs n (by omega)])]; rfl
  rw [List.range_succ, List.filter_append, List.flatMap_append, h1, e, List.flatMap_cons, List.flatMap_nil, List.append_nil, h2.2]
  rfl
theorem ord_end {D : Dig} {J : Job} {p : Int} {R : Red} {dn : Nat → Bool} (h : OrdI D J p R dn) (hd : ∀ i, i < J.us.length → dn i = true) :
  mergedL J.us.length R = upto J.us.length ∧ outR D J R = ((partM D J p).1, (partM D J p).2, true) ∧ R.st.length = 0 ∧ ∀ s, s < J.us.length → (splitM D J s).2 = 0 := by
 have hm := merged_upto (R := R) fun i hi => (h.yes i hi (hd i hi)).1
 have hul : (upto J.us.length).length = J.us.length := by unfold upto; simp
 have hr : runsOf J.us.length R (upto J.us.length) = allOf D J p J.us.length := runs_all (fun i hi => ⟨(h.yes i hi (hd i hi)).1, (h.yes i hi (hd i hi)).2.1⟩) fun i hi => List.mem_map.2 ⟨i, List.mem_range.2 hi, rfl⟩
 refine ⟨hm, ?_, by rw [h.st]; rfl, fun s hs => (h.yes s hs (hd s hs)).2.2⟩
 unfold outR ofR partM
 rw [hm, hul, if_neg (Nat.lt_irrefl _), hr]
/-! ### Six truth values in a row -/
def keyP (r : RecP) : Int × Int := (r.part, r.sp)
def mgBad (D : Dig) (C : Cf) (ks : List (Int × Int)) (r : RecP) : Prop :=
 (homeC C r.part = 0 ∨ r.sp < 0 ∨ (C.J.us.length : Int) ≤ r.sp ∨ keyP r ∈ ks) ∨ (runJ D C.J r.sp.toNat r.part).2 ≠ 0 ∨ ¬ (runJ D C.J r.sp.toNat r.part).1 = r.pairs
instance mgBadD (D : Dig) (C : Cf) (ks : List (Int × Int)) (r : RecP) : Decidable (mgBad D C ks r) := by unfold mgBad; infer_instance
def mergesGo (D : Dig) (C : Cf) : List (Int × Int) → List RecP → Bool
 | _, [] => true
 | ks, r :: rs => if r.kind ≠ 4 then mergesGo D C ks rs else if mgBad D C ks r then false else mergesGo D C (ks ++ [keyP r]) rs
section
variable {D : Dig} {C : Cf} {ks : List (Int × Int)} {rs : List RecP} {k : Nat} {r : RecP}
theorem mg_end (h : rs.length ≤ k) : mergesGo D C ks (rs.drop k) = true := by rw [List.drop_eq_nil_of_le h]; rfl
theorem mg_skip (hx : rs[k]? = some r) (h : r.kind ≠ 4) : mergesGo D C ks (rs.drop (k + 1)) = mergesGo D C ks (rs.drop k) := by
 obtain ⟨l, e⟩ := List.getElem?_eq_some_iff.1 hx
 rw [List.drop_eq_getElem_cons l, e]
 conv => rhs; unfold mergesGo
 rw [if_pos h]
theorem mg_bad (hx : rs[k]? = some r) (h : ¬ r.kind ≠ 4) (hb : mgBad D C ks r) : mergesGo D C ks (rs.drop k) = false := by
 obtain ⟨l, e⟩ := List.getElem?_eq_some_iff.1 hx
 rw [List.drop_eq_getElem_cons l, e]
 unfold mergesGo
 rw [if_neg h, if_pos hb]
theorem mg_next (hx : rs[k]? = some r) (h : ¬ r.kind ≠ 4) (hb : ¬ mgBad D C ks r) : mergesGo D C (ks ++ [keyP r]) (rs.drop (k + 1)) = mergesGo D C ks (rs.drop k) := by
 obtain ⟨l, e⟩ := List.getElem?_eq_some_iff.1 hx
 rw [List.drop_eq_getElem_cons l, e]
 conv => rhs; unfold mergesGo
 rw [if_neg h, if_neg hb]
end
/-! ### Places seen -/
def seenK (ks : List (Int × Int)) : List ((Int × Int) × Value) := ks.map fun k => (k, .bool true)
theorem seen_look (k : Int × Int) : ∀ ks : List (Int × Int), (lookK k (seenK ks)).getD (.bool false) = .bool (decide (k ∈ ks))
 | [] => rfl
 | q :: ks => by
  have ih := seen_look k ks
  unfold seenK at ih ⊢
  rw [List.map_cons]
  unfold lookK
  by_cases h : q = k
  ·subst h; simp
  ·rw [if_neg h, ih]
   simp [show ¬ k = q from fun g => h g.symm]
theorem seen_put {k : Int × Int} {ks : List (Int × Int)} (h : ¬ k ∈ ks) : setK k (.bool true) (seenK ks) = seenK (ks ++ [k]) := by
 rw [set_none]
 ·unfold seenK; rw [List.map_append]; rfl
 ·intro p hp
  obtain ⟨q, hq, rfl⟩ := List.mem_map.1 hp
  exact fun e => h (e ▸ hq)
/-! ### Each part and split once -/
def runP (D : Dig) (C : Cf) (r : RecP) : Prop := r.kind = 4 ∧ (0 ≤ r.part ∧ r.part < C.J.parts) ∧ (0 ≤ r.sp ∧ r.sp < C.J.us.length) ∧ r.pairs = onlyM D C.J r.sp.toNat r.part
structure MgI (D : Dig) (C : Cf) (rs : List RecP) : Prop where
 each : ∀ r ∈ rs, runP D C r
 inj : ∀ (i j : Nat) (r r' : RecP), rs[i]? = some r → rs[j]? = some r' → keyP r = keyP r' → i = j
structure MgOk (D : Dig) (C : Cf) (rs : List RecP) : Prop extends MgI D C rs where
 full : ∀ p s : Nat, (p : Int) < C.J.parts → s < C.J.us.length → ∃ r ∈ rs, keyP r = ((p : Int), (s : Int))
section
variable {D : Dig} {C : Cf} {rs : List RecP} (h0 : ∀ s, s < C.J.us.length → (splitM D C.J s).2 = 0)
include h0
theorem run_fine {r : RecP} (h : runP D C r) : runJ D C.J r.sp.toNat r.part = (r.pairs, 0) := by
 obtain ⟨_, _, h2, h3⟩ := h
 unfold runJ
 rw [if_neg (fun g => g (h0 _ (by omega))), ← h3]
theorem mg_out (h : MgOk D C rs) {p : Nat} (hp : (p : Int) < C.J.parts) : outR D C.J (newR C.J.us.length p 1 rs) = ((partM D C.J p).1, (partM D C.J p).2, true) := by
 have ho : OrdI D C.J p (newR C.J.us.length p 1 rs) (fun _ => true) := by
  refine ⟨(newR_part _ _ _ _).1, (newR_part _ _ _ _).2.2, fun i hi _ => ?_, fun i hi g => by cases g⟩
  obtain ⟨r, hr, hk⟩ := h.full p i hp hi
  have hg := newR_find C.J.us.length p 1 i hi rs
  cases hf : rs.find? (hitR p i) with
  | none =>
   have := List.find?_eq_none.1 hf r hr
   exact absurd (hitR_iff.2 ⟨congrArg Prod.fst hk, (h.each r hr).1, congrArg Prod.snd hk⟩) this
  | some x =>
   rw [hf] at hg
   have h1 := hitR_iff.1 (List.find?_some hf)
   have h2 := h.each x (List.mem_of_find?_eq_some hf)
   rw [hg]
   refine ⟨rfl, ?_, h0 i hi⟩
   show x.pairs = _
   rw [h2.2.2.2, h1.1, h1.2.2, Int.toNat_natCast]
 exact (ord_end ho fun i _ => rfl).2.1
variable (hC : mayC C)
include hC
theorem mg_pre (h : MgI D C rs) : ∀ (k : Nat) (rest : List RecP), k ≤ rs.length → mergesGo D C [] (rs.take k ++ rest) = mergesGo D C ((rs.take k).map keyP) rest
 | 0, rest, _ => by rw [List.take_zero]; rfl
 | k + 1, rest, hk => by
  have hx : rs[k]? = some rs[k] := List.getElem?_eq_getElem (by omega)
  rw [take_snoc hx, List.append_assoc, List.singleton_append, mg_pre h k _ (by omega), List.map_append]
  have hr := h.each _ (List.mem_of_getElem? hx)
  have hf := run_fine h0 hr
  conv => lhs; unfold mergesGo
  rw [if_neg (fun g => g hr.1), if_neg]
  ·rfl
  ·rintro ((g | g | g | g) | g | g)
   ·exact home_pos hC (by have := hr.2.1; omega) (by have := hr.2.1; omega) g
   ·have := hr.2.2.1; omega
   ·have := hr.2.2.1; omega
   ·obtain ⟨y, hy, e⟩ := List.mem_map.1 g
    obtain ⟨j, hj, e2⟩ := List.getElem_of_mem hy
    rw [List.length_take] at hj
    rw [List.getElem_take] at e2
    have := h.inj j k y _ (by rw [← e2]; exact List.getElem?_eq_getElem (by omega)) hx e
    omega
   ·rw [hf] at g; exact g rfl
   ·rw [hf] at g; exact g rfl
theorem mg_take (h : MgI D C rs) (k : Nat) : mergesGo D C [] (rs.take k) = true := by
 rcases Nat.le_total k rs.length with hk | hk
 ·have := mg_pre h0 hC h k [] hk
  rw [List.append_nil] at this
  rw [this]; rfl
 ·have := mg_pre h0 hC h rs.length [] (Nat.le_refl _)
  rw [List.append_nil, List.take_length] at this
  rw [List.take_of_length_le hk, this]; rfl
theorem mg_all (h : MgI D C rs) : mergesGo D C [] rs = true := by
 have := mg_take h0 hC h rs.length
 rwa [List.take_length] at this
theorem mg_twice (h : MgI D C rs) {k : Nat} {r : RecP} (hx : rs[k]? = some r) : mergesGo D C [] (rs ++ [r]) = false := by
 have := mg_pre h0 hC h rs.length [r] (Nat.le_refl _)
 rw [List.take_length] at this
 rw [this]
 unfold mergesGo
 rw [if_neg (fun g => g (h.each _ (List.mem_of_getElem? hx)).1), if_pos (.inl (.inr (.inr (.inr (List.mem_map_of_mem (List.mem_of_getElem? hx))))))]
theorem mg_more (h : MgI D C rs) {k : Nat} {r y : RecP} (hx : rs[k]? = some r) (hy : y.kind = 4 ∧ y.part = r.part ∧ y.sp = r.sp ∧ y.pairs.length ≠ r.pairs.length) : mergesGo D C [] (rs.set k y) = false := by
 obtain ⟨l, e⟩ := List.getElem?_eq_some_iff.1 hx
 rw [List.set_eq_take_append_cons_drop, if_pos l, mg_pre h0 hC h k _ (by omega)]
 unfold mergesGo
 rw [if_neg (fun g => g hy.1), if_pos]
 refine .inr (.inr fun g => ?_)
 rw [hy.2.1, hy.2.2.1, run_fine h0 (h.each _ (List.mem_of_getElem? hx))] at g
 exact hy.2.2.2 (by rw [← g])
end
/-! ### How they are told, and turned -/
structure MgB (D : Dig) (C : Cf) (p s : Nat) (rs : List RecP) : Prop extends MgI D C rs where
 full : ∀ p' s' : Nat, (p' < p ∧ s' < C.J.us.length) ∨ (p' = p ∧ s' < s) → ∃ r ∈ rs, keyP r = ((p' : Int), (s' : Int))
 old : ∀ r ∈ rs, r.part < p ∨ (r.part = p ∧ r.sp < s)
 len : rs.length = p * C.J.us.length + s
theorem mgB_0 (D : Dig) (C : Cf) : MgB D C 0 0 [] where
 each := fun r h => by cases h
 inj := fun i j r r' h => by simp at h
 full := fun p' s' h => by omega
 old := fun r h => by cases h
 len := by simp
theorem mgB_next {D : Dig} {C : Cf} {p s : Nat} {rs : List RecP} (h : MgB D C p s rs) {r : RecP} (hr : runP D C r) (hp : r.part = p) (hs : r.sp = s) : MgB D C p (s + 1) (rs ++ [r]) where
 each := fun x hx => (List.mem_append.1 hx).elim (h.each x) fun g => by rw [List.mem_singleton.1 g]; exact hr
 inj := fun i j x y hx hy e => by
  have old : ∀ {i : Nat} {x : RecP}, (rs ++ [r])[i]? = some x → (i < rs.length ∧ rs[i]? = some x) ∨ (i = rs.length ∧ x = r) := by
   intro i x hx
   rcases Nat.lt_or_ge i rs.length with g | g
   ·rw [List.getElem?_append_left g] at hx; exact .inl ⟨g, hx⟩
   ·rw [List.getElem?_append_right g] at hx
    have := lt_of_some hx
    simp only [List.length_cons, List.length_nil] at this
    rw [show i - rs.length = 0 by omega] at hx
    exact .inr ⟨by omega, (Option.some.inj hx).symm⟩
  have no : ∀ {i : Nat} {x : RecP}, rs[i]? = some x → ¬ keyP x = keyP r := by
   intro i x hx e
   have h1 := h.old x (List.mem_of_getElem? hx)
   have e1 : x.part = r.part := congrArg Prod.fst e
   have e2 : x.sp = r.sp := congrArg Prod.snd e
   omega
  rcases old hx with ⟨g1, g2⟩ | ⟨g1, g2⟩ <;> rcases old hy with ⟨k1, k2⟩ | ⟨k1, k2⟩
  ·exact h.inj i j x y g2 k2 e
  ·subst k2; exact absurd e (no g2)
  ·subst g2; exact absurd e.symm (no k2)
  ·omega
 full := fun p' s' g => by
  by_cases e : p' = p ∧ s' = s
  ·exact ⟨r, List.mem_append_right _ (List.mem_singleton.2 rfl), by unfold keyP; rw [hp, hs, e.1, e.2]⟩
  ·obtain ⟨x, h1, h2⟩ := h.full p' s' (by omega)
   exact ⟨x, List.mem_append_left _ h1, h2⟩
 old := fun x hx => (List.mem_append.1 hx).elim (fun g => by have := h.old x g; omega) fun g => by rw [List.mem_singleton.1 g]; omega
 len := by rw [List.length_append, h.len]; rfl
theorem mgB_row {D : Dig} {C : Cf} {p : Nat} {rs : List RecP} (h : MgB D C p C.J.us.length rs) : MgB D C (p + 1) 0 rs where
 each := h.each
 inj := h.inj
 full := fun p' s' g => h.full p' s' (by omega)
 old := fun x hx => by have := h.old x hx; omega
 len := by rw [h.len, Nat.succ_mul]; rfl
theorem mgB_end {D : Dig} {C : Cf} {p : Nat} {rs : List RecP} (h : MgB D C p 0 rs) (hp : C.J.parts = p) : MgOk D C rs where
 each := h.each
 inj := h.inj
 full := fun p' s' g1 g2 => h.full p' s' (.inl ⟨by omega, g2⟩)
theorem swap_at {α : Type} {l : List α} {a b : Nat} {x y : α} (ha : l[a]? = some x) (hb : l[b]? = some y) (i : Nat) : ((l.set a y).set b x)[i]? = l[if i = b then a else if i = a then b else i]? := by
 have h1 := lt_of_some ha
 have h2 := lt_of_some hb
 rw [List.getElem?_set, List.length_set, List.getElem?_set]
 by_cases e : b = i
 ·rw [if_pos e, if_pos (by omega), if_pos e.symm, ha]
 ·rw [if_neg e, if_neg (Ne.symm e)]
  by_cases e2 : a = i
  ·rw [if_pos e2, if_pos (by omega), if_pos e2.symm, hb]
  ·rw [if_neg e2, if_neg (Ne.symm e2)]
theorem swap_mem {α : Type} {l : List α} {a b : Nat} {x y : α} (ha : l[a]? = some x) (hb : l[b]? = some y) {z : α} : z ∈ (l.set a y).set b x ↔ z ∈ l := by
 rw [List.mem_iff_getElem?, List.mem_iff_getElem?]
 constructor
 ·rintro ⟨i, hi⟩
  rw [swap_at ha hb] at hi
  exact ⟨_, hi⟩
 ·rintro ⟨i, hi⟩
  refine ⟨if i = b then a else if i = a then b else i, ?_⟩
  rw [swap_at ha hb, ← hi]
  congr 1
  by_cases e : i = b
  ·rw [if_pos e]
   by_cases e2 : a = b
   ·rw [if_pos e2]; omega
   ·rw [if_neg e2, if_pos rfl]; exact e.symm
  ·rw [if_neg e]
   by_cases e2 : i = a
   ·rw [if_pos e2, if_pos rfl]; exact e2.symm
   ·rw [if_neg e2, if_neg e, if_neg e2]
theorem MgOk.swap {D : Dig} {C : Cf} {rs : List RecP} (h : MgOk D C rs) {a b : Nat} {x y : RecP} (ha : rs[a]? = some x) (hb : rs[b]? = some y) : MgOk D C ((rs.set a y).set b x) where
 each := fun r hr => h.each r ((swap_mem ha hb).1 hr)
 inj := fun i j r r' hr hr' e => by
  rw [swap_at ha hb] at hr hr'
  have := h.inj _ _ _ _ hr hr' e
  revert this
  split <;> split <;> (try split) <;> (try split) <;> omega
 full := fun p s h1 h2 => by
  obtain ⟨r, hr, e⟩ := h.full p s h1 h2
  exact ⟨r, (swap_mem ha hb).2 hr, e⟩
/-! ### As they stand in memory -/
def mrec (p s : Int) (v : Value) (x : List Pair) : Rec := ⟨4, p, s, 1, 0, nilV, [], v, x⟩
theorem recS_rd {w : World} {F : Foot} {al : List Rec} (h : (recS al).P w F) {r : Rec} (hr : r ∈ al) : (rsl (kInt .i64) r.sv r.set).P w F ∧ (rsl kPair r.pv r.pairs).P w F := by
 have h1 := big_rd h hr
 exact ⟨own_rd F (Star.mem h1 (List.mem_cons_self ..)), own_rd F (Star.mem h1 (List.mem_cons_of_mem _ (List.mem_cons_self ..)))⟩
theorem recS_rds {w : World} {F : Foot} {al rs : List Rec} (hs : ∀ r ∈ rs, r ∈ al) (h : (recS al).P w F) : ∀ r ∈ rs, (rsl (kInt .i64) r.sv r.set).P w F ∧ (rsl kPair r.pv r.pairs).P w F := fun r hr => recS_rd h (hs r hr)
theorem swapF {α β : Type} {f : α → β} {l : List α} {a b : Nat} {x y : β} (ha : (l.map f)[a]? = some x) (hb : (l.map f)[b]? = some y) : ∃ u v, l[a]? = some u ∧ l[b]? = some v ∧ x = f u ∧ y = f v ∧ ((l.map f).set a y).set b x = ((l.set a v).set b u).map f := by
 rw [List.getElem?_map] at ha hb
 obtain ⟨u, hu, rfl⟩ := Option.map_eq_some_iff.1 ha
 obtain ⟨v, hv, rfl⟩ := Option.map_eq_some_iff.1 hb
 exact ⟨u, v, hu, hv, rfl, rfl, by rw [List.map_set, List.map_set]⟩
theorem mapP {l : List Rec} {a : Nat} {u : Rec} (h : l[a]? = some u) : (l.map Rec.p)[a]? = some u.p := by rw [List.getElem?_map, h]; rfl
theorem swapP {D : Dig} {C : Cf} {l : List Rec} {a b : Nat} {u v : Rec} (h : MgOk D C (l.map Rec.p)) (ha : l[a]? = some u) (hb : l[b]? = some v) : MgOk D C (((l.set a v).set b u).map Rec.p) := by
 have := h.swap (mapP ha) (mapP hb)
 rwa [List.map_set, List.map_set]
theorem whole_yes {D : Dig} {J : Job} {zs : List (Value × List Pair)} (hz : zs.map (·.2) = (wholeM D J).1) (h : ¬ (wholeM D J).2.1 ≠ 0) (hp : 0 ≤ J.parts) : (zs.length : Int) = J.parts ∧ (∀ s, s < J.us.length → (splitM D J s).2 = 0) ∧ (∀ p : Nat, (p : Int) < J.parts → (partM D J p).2 = 0) ∧ ∀ (p : Nat) u x, zs[p]? = some (u, x) → (partM D J p).1 = x := by
 rcases whole_spec D J with h1 | ⟨_, h2, h3, h4⟩
 ·exact absurd h1.1 h
 ·refine ⟨?_, h3, fun p hp => h4 p (by omega), fun p u x hx => ?_⟩
  ·have := congrArg List.length hz
   rw [List.length_map, h2, List.length_map, List.length_range] at this
   omega
  ·have h5 : (zs.map (·.2))[p]? = some x := by rw [List.getElem?_map, hx]; rfl
   rw [hz, h2, List.getElem?_map] at h5
   cases hr : (List.range J.parts.toNat)[p]? with
   | none => rw [hr] at h5; cases h5
   | some q =>
    rw [hr] at h5
    obtain ⟨l, e⟩ := List.getElem?_eq_some_iff.1 hr
    rw [List.getElem_range] at e
    subst e
    exact Option.some.inj h5
theorem mgB_rec {D : Dig} {C : Cf} {p s : Nat} {al : List Rec} {v : Value} (h : MgB D C p s (al.map Rec.p)) (hp : (p : Int) < C.J.parts) (hs : s < C.J.us.length) : MgB D C p (s + 1) ((al ++ [mrec p s v (onlyM D C.J s p)]).map Rec.p) := by
 rw [List.map_append]
 exact mgB_next h (r := (mrec p s v (onlyM D C.J s p)).p) ⟨rfl, ⟨Int.natCast_nonneg _, hp⟩, ⟨Int.natCast_nonneg _, Int.ofNat_lt.2 hs⟩, rfl⟩ rfl rfl
theorem runJ_fine {D : Dig} {J : Job} {s : Nat} {p : Int} (h : (splitM D J s).2 = 0) : runJ D J s p = (onlyM D J s p, 0) := if_neg (fun g => g h)
theorem mgRec_small {D : Dig} {C : Cf} {al : List Rec} (hC : mayC C) (hu : C.J.us.length ≤ 6) (h : MgI D C (al.map Rec.p)) (hs : ∀ r ∈ al, r.set = []) : ∀ r ∈ al, ((In64 r.part ∧ In64 r.sp) ∧ r.set.length ≤ 1000) ∧ r.pairs.length ≤ 1000 := by
 intro r hr
 have h1 := h.each r.p (List.mem_map_of_mem hr)
 obtain ⟨_, h2, h3, h4⟩ := h1
 have h5 : r.pairs.length ≤ 40 := by
  show r.p.pairs.length ≤ 40
  rw [h4]; exact onlyM_len _ _ _ _
 have hpp := hC.1.2.1
 have h6 : r.p.part = r.part := rfl
 have h7 : r.p.sp = r.sp := rfl
 rw [h6] at h2
 rw [h7] at h3
 refine ⟨⟨⟨?_, ?_⟩, by rw [hs r hr]; exact Nat.zero_le _⟩, by omega⟩ <;> unfold In64 <;> omega
theorem puts_sub {P E S cs : List Value} {q : Nat} (hq : q + cs.length ≤ E.length) : puts (P ++ (E ++ S)) (P.length + q) cs = P ++ (puts E q cs ++ S) := by
 rw [puts_eq _ _ _ (by simp only [List.length_append]; omega), puts_eq _ _ _ hq, Nat.add_assoc, List.take_length_add_append, List.drop_length_add_append, List.take_append_of_le_length (by omega), List.drop_append_of_le_length hq]
 simp only [List.append_assoc]
theorem flat_split {α : Type} {enc : α → List Value} {xs : List α} {i : Nat} {x : α} (hx : xs[i]? = some x) : xs.flatMap enc = (xs.take i).flatMap enc ++ (enc x ++ (xs.drop (i + 1)).flatMap enc) := by
 obtain ⟨l, e⟩ := List.getElem?_eq_some_iff.1 hx
 conv => lhs; rw [← List.take_append_drop i xs]
 rw [List.flatMap_append, List.drop_eq_getElem_cons l, e, List.flatMap_cons]
theorem flat_set {α : Type} {enc : α → List Value} {xs : List α} {i : Nat} {a : α} (hi : i < xs.length) : (xs.set i a).flatMap enc = (xs.take i).flatMap enc ++ (enc a ++ (xs.drop (i + 1)).flatMap enc) := by
 rw [List.set_eq_take_append_cons_drop, if_pos hi, List.flatMap_append, List.flatMap_cons]
section
variable {w w0 : World} {F0 : Foot} {As Rs : List SP} {α : Type} {enc : α → List Value} {sz : Nat} {hp : 0 < sz} {hl : ∀ x, (enc x).length = sz} {h1 : ∀ x, ∀ c ∈ enc x, c.oneCell' = true} {A : Option Addr} {m c : Nat} {xs : List α}
variable {P : Program} {ops : Array Oper} {Q : Exit → Act → World → Prop} {rest : List Oper} {n : Nat} {l : Env} {o : Oper} {v : Value} {x y : Operand} {t : TypeId}
theorem s_stP {i p q k : Nat} {a e : α} {B : Bool} {cs : List Value} (hg : gd ops l o = some true) (hd : o.dst = none) (ho : o.op = .store t x y) (ht : tyOf P t = some (B, k)) (hx : ev l x = some (.pointer (some ⟨bOf A, p, none⟩))) (hy : ev l y = some v) (hv : v.cells.toList = cs) (hk : cs.length = k) (h1c : ∀ u ∈ cs, u.oneCell' = true)
  (H : Hd w0 F0 w (osl (flat enc sz hp hl h1) (.slice A m c) xs :: As) Rs) (hxi : xs[i]? = some e) (hpi : oOf A + i * sz + q = p) (ha : enc a = puts (enc e) q cs) (hq : q + cs.length ≤ sz) (h : ∀ w', Hd w0 F0 w' (osl (flat enc sz hp hl h1) (.slice A m c) (xs.set i a) :: As) Rs → WL P ops Q rest n l w') : WL P ops Q (o :: rest) n l w := by
 have hi : i < xs.length := (List.getElem?_eq_some_iff.1 hxi).1
 obtain ⟨b, bt, spare, rfl, hm, hle, hmax, hr, H'⟩ := H.toBlk (by omega)
 simp only [bOf, oOf, Nat.zero_add] at hx hpi
 subst hpi
 have hpl : ((xs.take i).flatMap enc).length = i * sz := by rw [flat_len hl, List.length_take, Nat.min_eq_left (by omega)]
 have hs := flat_split (enc := enc) hxi
 have hfl : (xs.flatMap enc).length = xs.length * sz := flat_len hl xs
 have hfit : i * sz + sz ≤ (xs.flatMap enc).length := by rw [flat_len hl, ← Nat.succ_mul]; exact Nat.mul_le_mul_right _ hi
 refine s_st hg hd ho ht hx hy H' (by rw [← Array.length_toList, hv, hk]) (by rw [List.length_append]; omega) (by rw [hv]; exact h1c) (fun w' H2 => h w' ?_)
 rw [hv] at H2
 have hp2 : puts (xs.flatMap enc ++ spare) (i * sz + q) cs = (xs.set i a).flatMap enc ++ spare := by
  rw [hs, flat_set hi, ha, List.append_assoc, List.append_assoc, ← hpl, puts_sub (by rw [hl]; exact hq)]
  simp only [List.append_assoc]
 rw [hp2] at H2
 exact H2.ofBlk (by rw [List.length_set]; exact hm) hle hmax hr
end
theorem bd200 : bdOf Tryz.prog 200 = some (#[.int .i64 0, .int .i64 0], #[(0, 1), (1, 1)]) := by kernel_rfl
theorem eq200 : EqT Tryz.prog 200 [⟨ "part", 3, 0, false, "", "staithe/check", 0⟩, ⟨ "split", 3, 1, false, "", "staithe/check", 8⟩] := ⟨by kernel_rfl, by kernel_rfl, by kernel_rfl⟩
theorem kn133 : Known Tryz.prog 133 := known Tryz.func133 rfl rfl
theorem kn64 : Known Tryz.prog 64 := known Tryz.func64 rfl rfl
theorem kn65 : Known Tryz.prog 65 := known Tryz.func65 rfl rfl
theorem ty200 : tyOf Tryz.prog 200 = some (true, 2) := by kernel_rfl
theorem un198 : Tryz.prog.underlying 198 = some (.map 200 4) := by kernel_rfl
theorem zr200 : zrOf Tryz.prog 200 = some (.agg #[.int .i64 0, .int .i64 0]) := by kernel_rfl
theorem zr4 : zrOf Tryz.prog 4 = some (.bool false) := by kernel_rfl
theorem zkt200 : KeyT Tryz.prog 200 key2 := keyT_2 ⟨⟨_, _, eq200, by decide, by decide, rfl, rfl, rfl, rfl⟩, un3, ty3⟩
theorem jrunI_ok (vS : Value) (vM : Value) (vC : Value) (vR : Value) (vK : Value) (J : Job) (s : Int) (p : Int) (hJ : OkJ J) (h0 : 0 ≤ s) (hs : s < ((J.us.length : Nat) : Int)) : Cn Tryz.prog 54 [.agg #[vS, .int .i64 J.parts, vM, vC, vR, .int .i64 J.chunk, .int .i64 J.window, .int .i64 J.fuel, vK], .int .i64 s, .int .i64 p] [] [rsl (kHd kPair) vS J.us, rsl kIns vM J.map, rsl kIns vC J.comb, rsl kIns vR J.red, rsl (kInt .i64) vK J.marks, gl] (fun v Bs => ∃ u : Value, v = .tuple #[u, .int .i64 ((runJ dg J s.toNat p).2)] ∧ Bs = [osl kPair u ((runJ dg J s.toNat p).1)]) := by
 obtain ⟨m, rfl⟩ : ∃ z : Nat, s = (z : Int) := ⟨s.toNat, by omega⟩
 rw [Int.toNat_natCast]
 exact jrun_ok vS vM vC vR vK J hJ m p (by omega)
theorem ckMerges_ok (vS : Value) (vM : Value) (vC : Value) (vR : Value) (vK : Value) (C : Cf) (vr : Value) (recs : List Rec) (hC : mayC C) (hJ : OkJ C.J) (hrs : ∀ r ∈ recs, ((In64 r.part ∧ In64 r.sp) ∧ r.set.length ≤ 1000) ∧ r.pairs.length ≤ 1000) :
    Cn Tryz.prog 65 [.agg #[vS, .int .i64 C.J.parts, vM, vC, vR, .int .i64 C.J.chunk, .int .i64 C.J.window, .int .i64 C.J.fuel, vK, .int .i64 C.w, .int .i64 C.t, .int .i64 C.o], vr] [] [rsl (kHd kPair) vS C.J.us, rsl kIns vM C.J.map, rsl kIns vC C.J.comb, rsl kIns vR C.J.red, rsl (kInt .i64) vK C.J.marks, rsl kRec vr recs, gl] (fun v Bs => v = .bool (mergesGo dg C [] (recs.map Rec.p)) ∧ Bs = []) := by
 intro w0 F0 H
 obtain ⟨A1, c2, rfl, hc3, hm4, hp5⟩ := H.fR 0 rfl
 obtain ⟨A6, c7, rfl, hc8, hm9, hp10⟩ := H.fR 1 rfl
 obtain ⟨A11, c12, rfl, hc13, hm14, hp15⟩ := H.fR 2 rfl
 obtain ⟨A16, c17, rfl, hc18, hm19, hp20⟩ := H.fR 3 rfl
 obtain ⟨A21, c22, rfl, hc23, hm24, hp25⟩ := H.fR 4 rfl
 obtain ⟨A26, c27, rfl, hc28, hm29, hp30⟩ := H.fR 5 rfl
 have hus := hJ.us
 have hpt := hJ.parts
 refine enter Tryz.func65 rfl rfl (Nat.le_of_ble_eq_true rfl) (c_seq (c_reg (s_box rfl rfl rfl rfl H (fun b31 w H => (s_1 rfl (s_nil (q_then ?_)))))))
 replace H : Hd _ _ _ [blk b31 [.slice A1 C.J.us.length c2, .int .i64 C.J.parts, .slice A6 C.J.map.length c7, .slice A11 C.J.comb.length c12, .slice A16 C.J.red.length c17, .int .i64 C.J.chunk, .int .i64 C.J.window, .int .i64 C.J.fuel, .slice A21 C.J.marks.length c22, .int .i64 C.w, .int .i64 C.t, .int .i64 C.o] 28] [rsl (kHd kPair) (.slice A1 C.J.us.length c2) C.J.us, rsl kIns (.slice A6 C.J.map.length c7) C.J.map, rsl kIns (.slice A11 C.J.comb.length c12) C.J.comb, rsl kIns (.slice A16 C.J.red.length c17) C.J.red, rsl (kInt .i64) (.slice A21 C.J.marks.length c22) C.J.marks, rsl kRec (.slice A26 recs.length c27) recs, gl] := H
 refine c_seq (c_seq (c_reg (s_val rfl rfl (r_ldA (cs := [.slice A1 C.J.us.length c2, .int .i64 C.J.parts, .slice A6 C.J.map.length c7, .slice A11 C.J.comb.length c12, .slice A16 C.J.red.length c17, .int .i64 C.J.chunk, .int .i64 C.J.window, .int .i64 C.J.fuel, .slice A21 C.J.marks.length c22, .int .i64 C.w, .int .i64 C.t, .int .i64 C.o]) rfl ty28 rfl rfl (H.cellsI 0 rfl rfl)) (sc (mayC_ok (.slice A1 C.J.us.length c2) (.slice A6 C.J.map.length c7) (.slice A11 C.J.comb.length c12) (.slice A16 C.J.red.length c17) (.slice A21 C.J.marks.length c22) C) H (lR 0 rfl (lR 1 rfl (lR 2 rfl (lR 3 rfl (lR 4 rfl l0))))) rfl rfl (e_fn kn19 rfl rfl) ?_))))
 rintro _ _ w ⟨rfl, rfl⟩ H
 refine s_val rfl rfl (r_notP rfl rfl) (s_nil (q_then ?_))
 refine c_dec rfl (fun h32 => ?_) (fun h32 => ?_)
 ·exact (h32 hC).elim
 refine c_skip (q_then (c_seq (c_reg (s_mkmapK key2 rfl rfl rfl H (fun b33 w H => ?_)))))
 replace H := H.h1 (A := mapK key2 b33 [])
 refine s_1 rfl (s_nil (q_then (c_seq (c_seq (c_reg (s_1 rfl (s_val rfl rfl (r_lenL rfl un29 rfl) (s_1 rfl (s_nil (q_then (c_block ?_)))))))))))
 replace H := H.p1.h2 (B := mapK key2 b33 (seenK []))
 refine c_loop (σ := Nat × List (Int × Int)) (fun (k, ks) => [(2, .pointer (some ⟨b31, 0, none⟩)), (5, .map (some b33)), (15, .slice A26 recs.length c27), (16, .int .i64 ((recs.length : Nat) : Int)), (17, .int .i64 ((k : Nat) : Int))]) (fun (k, ks) w => (Hd w0 F0 w [blk b31 [.slice A1 C.J.us.length c2, .int .i64 C.J.parts, .slice A6 C.J.map.length c7, .slice A11 C.J.comb.length c12, .slice A16 C.J.red.length c17, .int .i64 C.J.chunk, .int .i64 C.J.window, .int .i64 C.J.fuel, .slice A21 C.J.marks.length c22, .int .i64 C.w, .int .i64 C.t, .int .i64 C.o] 28, mapK key2 b33 (seenK ks)] [rsl (kHd kPair) (.slice A1 C.J.us.length c2) C.J.us, rsl kIns (.slice A6 C.J.map.length c7) C.J.map, rsl kIns (.slice A11 C.J.comb.length c12) C.J.comb, rsl kIns (.slice A16 C.J.red.length c17) C.J.red, rsl (kInt .i64) (.slice A21 C.J.marks.length c22) C.J.marks, rsl kRec (.slice A26 recs.length c27) recs, gl]) ∧ (k ≤ recs.length) ∧ (mergesGo dg C ks ((recs.map Rec.p).drop k) = mergesGo dg C [] (recs.map Rec.p)) ∧ (ks.length ≤ k)) (fun (k, ks) => recs.length - k) (0, []) ⟨rfl, rfl, rfl, rfl, rfl, trivial⟩ ⟨H, Nat.zero_le _, rfl, Nat.zero_le _⟩ ?_
 rintro ⟨k, ks⟩ w ⟨H, hk, hg, hkl⟩
 refine c_seq (c_reg (s_val rfl rfl (r_lt rfl rfl rfl) (s_nil (q_then (c_seq ?_)))))
 refine c_dec rfl (fun h34 => ?_) (fun h34 => ?_)
 ·refine c_skip (q_then (c_seq (c_block (c_seq ?_))))
  obtain ⟨⟨a37, a38, a39, a40, a41, sv42, se43, pv44, pr45⟩, hx36⟩ : ∃ z9, recs[k]? = some z9 := ⟨_, List.getElem?_eq_getElem (show k < recs.length by omega)⟩
  obtain ⟨A46, c47, A48, c49, rfl, rfl, m50, m51, m52, m53⟩ := H.nestRr 5 rfl hx36
  have hr1 := hrs _ (at_mem hx36)
  unfold In64 at hr1
  dsimp only at hr1
  have hr64 : In64 a38 := hr1.1.1.1
  refine c_reg ?_
  have th54 := H.thRr 5 rfl hx36
  refine s_val rfl rfl (r_iaE (p := oOf A26 + k * 7) rfl sl29 rfl rfl (by omega) (by omega) th54 rfl) (s_val rfl rfl (r_ldA (cs := [.int .i64 a37, .int .i64 a38, .int .i64 a39, .int .i64 a40, .int .i64 a41, .slice A46 se43.length c47, .slice A48 pr45.length c49]) rfl ty37 rfl rfl (H.elsRr 5 rfl hx36 rfl)) (s_alloc rfl rfl rfl zr37 H (fun b55 w H => (s_st rfl rfl rfl ty37 rfl rfl H rfl (Nat.le_of_ble_eq_true rfl) (fun u hu => by simp [Value.cells] at hu; rcases hu with rfl | rfl | rfl | rfl | rfl | rfl | rfl <;> rfl) (fun w H => ?_)))))
  replace H : Hd _ _ _ [blk b55 [.int .i64 a37, .int .i64 a38, .int .i64 a39, .int .i64 a40, .int .i64 a41, .slice A46 se43.length c47, .slice A48 pr45.length c49] 37, blk b31 [.slice A1 C.J.us.length c2, .int .i64 C.J.parts, .slice A6 C.J.map.length c7, .slice A11 C.J.comb.length c12, .slice A16 C.J.red.length c17, .int .i64 C.J.chunk, .int .i64 C.J.window, .int .i64 C.J.fuel, .slice A21 C.J.marks.length c22, .int .i64 C.w, .int .i64 C.t, .int .i64 C.o] 28, mapK key2 b33 (seenK ks)] [rsl (kHd kPair) (.slice A1 C.J.us.length c2) C.J.us, rsl kIns (.slice A6 C.J.map.length c7) C.J.map, rsl kIns (.slice A11 C.J.comb.length c12) C.J.comb, rsl kIns (.slice A16 C.J.red.length c17) C.J.red, rsl (kInt .i64) (.slice A21 C.J.marks.length c22) C.J.marks, rsl kRec (.slice A26 recs.length c27) recs, gl] := H
  refine s_nil (q_then (c_seq (c_seq (c_reg (s_val rfl rfl (r_fa rfl fo37_0 rfl) (s_val rfl rfl (r_ld rfl ty3 rfl (H.cellI 0 rfl rfl)) (s_val rfl rfl (r_ne rfl rfl rfl) (s_nil (q_then ?_)))))))))
  refine c_dec rfl (fun h56 => ?_) (fun h56 => ?_)
  ·refine c_exit (q_thenE (q_blockE (q_then (c_reg (s_val rfl rfl (r_add (z := ((k + 1 : Nat) : Int)) rfl rfl rfl (by rw [w64 (by omega) (by omega)]; omega)) (s_1 rfl (s_nil ?_)))))))
   have hxp := mapP hx36
   replace H := H.p2.p2.k2
   exact q_round (s := (k, ks)) (k + 1, ks) ⟨rfl, rfl, rfl, rfl, rfl, trivial⟩ ⟨H, by (try dsimp only); omega, (mg_skip hxp h56).trans hg, by (try dsimp only); omega⟩ (by (try dsimp only); omega)
  refine c_skip (q_then (c_seq (c_reg (s_val rfl rfl (r_fa rfl fo37_1 rfl) (s_val rfl rfl (r_ld rfl ty3 rfl (H.cellI 0 rfl rfl)) (s_val rfl rfl (r_fa rfl fo37_2 rfl) (s_val rfl rfl (r_ld rfl ty3 rfl (H.cellI 0 rfl rfl)) (s_val rfl rfl (r_bd (parts := [(0, .tmp 25), (1, .tmp 27)]) (vs := [.int .i64 a38, .int .i64 a39]) (cs := [.int .i64 a38, .int .i64 a39]) rfl bd200 rfl rfl) (s_alloc rfl rfl rfl zr200 H (fun b57 w H => (s_st rfl rfl rfl ty200 rfl rfl H rfl (Nat.le_of_ble_eq_true rfl) (fun u hu => by simp [Value.cells] at hu; rcases hu with rfl | rfl <;> rfl) (fun w H => ?_))))))))))))
  replace H := H.h1 (A := blk b57 [.int .i64 a38, .int .i64 a39] 200)
  refine s_nil (q_then (c_seq (c_seq (c_reg (s_val rfl rfl (r_ldA (cs := [.slice A1 C.J.us.length c2, .int .i64 C.J.parts, .slice A6 C.J.map.length c7, .slice A11 C.J.comb.length c12, .slice A16 C.J.red.length c17, .int .i64 C.J.chunk, .int .i64 C.J.window, .int .i64 C.J.fuel, .slice A21 C.J.marks.length c22, .int .i64 C.w, .int .i64 C.t, .int .i64 C.o]) rfl ty28 rfl rfl (H.cellsI 2 rfl rfl)) (s_val rfl rfl (r_fa rfl fo37_1 rfl) (s_val rfl rfl (r_ld rfl ty3 rfl (H.cellI 1 rfl rfl)) (sc (home_ok (.slice A1 C.J.us.length c2) (.slice A6 C.J.map.length c7) (.slice A11 C.J.comb.length c12) (.slice A16 C.J.red.length c17) (.slice A21 C.J.marks.length c22) C a38 (by first | assumption | omega)) H (lR 0 rfl (lR 1 rfl (lR 2 rfl (lR 3 rfl (lR 4 rfl l0))))) rfl rfl (e_fn kn71 rfl rfl) ?_))))))))
  rintro _ _ w ⟨rfl, rfl⟩ H
  refine s_val rfl rfl (r_eq rfl rfl rfl) (s_1 rfl ?_)
  refine s_dec (d := 34) rfl (fun h58 => ?_) (fun h58 => ?_)
  ·refine s_k 12 rfl (s_k 6 rfl (s_nil (q_then ?_)))
   replace H : Hd _ _ _ [blk b57 [.int .i64 a38, .int .i64 a39] 200, blk b55 [.int .i64 a37, .int .i64 a38, .int .i64 a39, .int .i64 a40, .int .i64 a41, .slice A46 se43.length c47, .slice A48 pr45.length c49] 37, blk b31 [.slice A1 C.J.us.length c2, .int .i64 C.J.parts, .slice A6 C.J.map.length c7, .slice A11 C.J.comb.length c12, .slice A16 C.J.red.length c17, .int .i64 C.J.chunk, .int .i64 C.J.window, .int .i64 C.J.fuel, .slice A21 C.J.marks.length c22, .int .i64 C.w, .int .i64 C.t, .int .i64 C.o] 28, mapK key2 b33 (seenK ks)] [rsl (kHd kPair) (.slice A1 C.J.us.length c2) C.J.us, rsl kIns (.slice A6 C.J.map.length c7) C.J.map, rsl kIns (.slice A11 C.J.comb.length c12) C.J.comb, rsl kIns (.slice A16 C.J.red.length c17) C.J.red, rsl (kInt .i64) (.slice A21 C.J.marks.length c22) C.J.marks, rsl kRec (.slice A26 recs.length c27) recs, gl] := H
   refine c_yes rfl (c_seq (c_reg (s_1 rfl (s_nil (q_then (c_ret (q_thenR (q_blockR (q_thenR (q_thenR (q_blockR (q_thenR (q_ret1 rfl rfl ?_)))))))))))))
   replace H := H.nil
   have hxp := mapP hx36
   have hbd : mgBad dg C ks (Rec.p (⟨a37, a38, a39, a40, a41, .slice A46 se43.length c47, se43, .slice A48 pr45.length c49, pr45⟩ : Rec)) := by first | exact .inl (.inl h58) | exact .inl (.inr (.inl h58)) | exact .inl (.inr (.inr (.inl h58))) | exact .inl (.inr (.inr (.inr h58))) | exact .inr (.inl h58) | exact .inr (.inr h58)
   have e : mergesGo dg C [] (recs.map Rec.p) = false := by rw [← hg]; exact mg_bad hxp h56 hbd
   exact fin ⟨by rw [e] <;> rfl, rfl⟩ H
  refine s_val rfl rfl (r_fa rfl fo37_2 rfl) (s_val rfl rfl (r_ld rfl ty3 rfl (H.cellI 1 rfl rfl)) (s_val rfl rfl (r_lt rfl rfl rfl) (s_k 2 rfl ?_)))
  refine s_dec (d := 39) rfl (fun h59 => ?_) (fun h59 => ?_)
  ·refine s_k 12 rfl (s_1 rfl (s_nil (q_then ?_)))
   replace H : Hd _ _ _ [blk b57 [.int .i64 a38, .int .i64 a39] 200, blk b55 [.int .i64 a37, .int .i64 a38, .int .i64 a39, .int .i64 a40, .int .i64 a41, .slice A46 se43.length c47, .slice A48 pr45.length c49] 37, blk b31 [.slice A1 C.J.us.length c2, .int .i64 C.J.parts, .slice A6 C.J.map.length c7, .slice A11 C.J.comb.length c12, .slice A16 C.J.red.length c17, .int .i64 C.J.chunk, .int .i64 C.J.window, .int .i64 C.J.fuel, .slice A21 C.J.marks.length c22, .int .i64 C.w, .int .i64 C.t, .int .i64 C.o] 28, mapK key2 b33 (seenK ks)] [rsl (kHd kPair) (.slice A1 C.J.us.length c2) C.J.us, rsl kIns (.slice A6 C.J.map.length c7) C.J.map, rsl kIns (.slice A11 C.J.comb.length c12) C.J.comb, rsl kIns (.slice A16 C.J.red.length c17) C.J.red, rsl (kInt .i64) (.slice A21 C.J.marks.length c22) C.J.marks, rsl kRec (.slice A26 recs.length c27) recs, gl] := H
   refine c_yes rfl (c_seq (c_reg (s_1 rfl (s_nil (q_then (c_ret (q_thenR (q_blockR (q_thenR (q_thenR (q_blockR (q_thenR (q_ret1 rfl rfl ?_)))))))))))))
   replace H := H.nil
   have hxp := mapP hx36
   have hbd : mgBad dg C ks (Rec.p (⟨a37, a38, a39, a40, a41, .slice A46 se43.length c47, se43, .slice A48 pr45.length c49, pr45⟩ : Rec)) := by first | exact .inl (.inl h59) | exact .inl (.inr (.inl h59)) | exact .inl (.inr (.inr (.inl h59))) | exact .inl (.inr (.inr (.inr h59))) | exact .inr (.inl h59) | exact .inr (.inr h59)
   have e : mergesGo dg C [] (recs.map Rec.p) = false := by rw [← hg]; exact mg_bad hxp h56 hbd
   exact fin ⟨by rw [e] <;> rfl, rfl⟩ H
  refine s_val rfl rfl (r_fa rfl fo37_2 rfl) (s_val rfl rfl (r_ld rfl ty3 rfl (H.cellI 1 rfl rfl)) (s_val rfl rfl (r_fa rfl fo28_0 rfl) (s_val rfl rfl (r_fa rfl fo26_0 rfl) (s_val rfl rfl (r_ld rfl ty22 rfl (H.cellI 2 rfl rfl)) (s_val rfl rfl (r_lenL rfl un22 rfl) (s_val rfl rfl (r_ge rfl rfl rfl) (s_k 2 rfl ?_)))))))
  refine s_dec (d := 48) rfl (fun h60 => ?_) (fun h60 => ?_)
  ·refine s_k 4 rfl (s_nil (q_then ?_))
   replace H : Hd _ _ _ [blk b57 [.int .i64 a38, .int .i64 a39] 200, blk b55 [.int .i64 a37, .int .i64 a38, .int .i64 a39, .int .i64 a40, .int .i64 a41, .slice A46 se43.length c47, .slice A48 pr45.length c49] 37, blk b31 [.slice A1 C.J.us.length c2, .int .i64 C.J.parts, .slice A6 C.J.map.length c7, .slice A11 C.J.comb.length c12, .slice A16 C.J.red.length c17, .int .i64 C.J.chunk, .int .i64 C.J.window, .int .i64 C.J.fuel, .slice A21 C.J.marks.length c22, .int .i64 C.w, .int .i64 C.t, .int .i64 C.o] 28, mapK key2 b33 (seenK ks)] [rsl (kHd kPair) (.slice A1 C.J.us.length c2) C.J.us, rsl kIns (.slice A6 C.J.map.length c7) C.J.map, rsl kIns (.slice A11 C.J.comb.length c12) C.J.comb, rsl kIns (.slice A16 C.J.red.length c17) C.J.red, rsl (kInt .i64) (.slice A21 C.J.marks.length c22) C.J.marks, rsl kRec (.slice A26 recs.length c27) recs, gl] := H
   refine c_yes rfl (c_seq (c_reg (s_1 rfl (s_nil (q_then (c_ret (q_thenR (q_blockR (q_thenR (q_thenR (q_blockR (q_thenR (q_ret1 rfl rfl ?_)))))))))))))
   replace H := H.nil
   have hxp := mapP hx36
   have hbd : mgBad dg C ks (Rec.p (⟨a37, a38, a39, a40, a41, .slice A46 se43.length c47, se43, .slice A48 pr45.length c49, pr45⟩ : Rec)) := by first | exact .inl (.inl h60) | exact .inl (.inr (.inl h60)) | exact .inl (.inr (.inr (.inl h60))) | exact .inl (.inr (.inr (.inr h60))) | exact .inr (.inl h60) | exact .inr (.inr h60)
   have e : mergesGo dg C [] (recs.map Rec.p) = false := by rw [← hg]; exact mg_bad hxp h56 hbd
   exact fin ⟨by rw [e] <;> rfl, rfl⟩ H
  refine s_1 rfl (s_val rfl rfl (r_ldA (cs := [.int .i64 a38, .int .i64 a39]) rfl ty200 rfl rfl (H.cellsI 0 rfl rfl)) (s_val rfl rfl (r_lookK1 zkt200 rfl un198 zr4 rfl (a38, a39) rfl H 3 rfl (seen_look _ _)) (s_1 rfl (s_nil (q_then ?_)))))
  replace H : Hd _ _ _ [blk b57 [.int .i64 a38, .int .i64 a39] 200, blk b55 [.int .i64 a37, .int .i64 a38, .int .i64 a39, .int .i64 a40, .int .i64 a41, .slice A46 se43.length c47, .slice A48 pr45.length c49] 37, blk b31 [.slice A1 C.J.us.length c2, .int .i64 C.J.parts, .slice A6 C.J.map.length c7, .slice A11 C.J.comb.length c12, .slice A16 C.J.red.length c17, .int .i64 C.J.chunk, .int .i64 C.J.window, .int .i64 C.J.fuel, .slice A21 C.J.marks.length c22, .int .i64 C.w, .int .i64 C.t, .int .i64 C.o] 28, mapK key2 b33 (seenK ks)] [rsl (kHd kPair) (.slice A1 C.J.us.length c2) C.J.us, rsl kIns (.slice A6 C.J.map.length c7) C.J.map, rsl kIns (.slice A11 C.J.comb.length c12) C.J.comb, rsl kIns (.slice A16 C.J.red.length c17) C.J.red, rsl (kInt .i64) (.slice A21 C.J.marks.length c22) C.J.marks, rsl kRec (.slice A26 recs.length c27) recs, gl] := H
  refine c_dec rfl (fun h61 => ?_) (fun h61 => ?_)
  ·refine c_seq (c_reg (s_1 rfl (s_nil (q_then (c_ret (q_thenR (q_blockR (q_thenR (q_thenR (q_blockR (q_thenR (q_ret1 rfl rfl ?_))))))))))))
   replace H := H.nil
   have hxp := mapP hx36
   have hbd : mgBad dg C ks (Rec.p (⟨a37, a38, a39, a40, a41, .slice A46 se43.length c47, se43, .slice A48 pr45.length c49, pr45⟩ : Rec)) := by first | exact .inl (.inl h61) | exact .inl (.inr (.inl h61)) | exact .inl (.inr (.inr (.inl h61))) | exact .inl (.inr (.inr (.inr h61))) | exact .inr (.inl h61) | exact .inr (.inr h61)
   have e : mergesGo dg C [] (recs.map Rec.p) = false := by rw [← hg]; exact mg_bad hxp h56 hbd
   exact fin ⟨by rw [e] <;> rfl, rfl⟩ H
  refine c_skip (q_then (c_seq (c_reg (s_1 rfl (s_val rfl rfl (r_ldA (cs := [.int .i64 a38, .int .i64 a39]) rfl ty200 rfl rfl (H.cellsI 0 rfl rfl)) ?_)))))
  replace H := H.p3
  refine s_msetK zkt200 rfl rfl rfl un198 rfl (a38, a39) rfl rfl H (fun w H => ?_)
  replace H := H.h1 (A := mapK key2 b33 (setK (a38, a39) (.bool true) (seenK ks)))
  rw [seen_put h61] at H
  replace H : Hd _ _ _ [mapK key2 b33 (seenK (ks ++ [(a38, a39)])), blk b57 [.int .i64 a38, .int .i64 a39] 200, blk b55 [.int .i64 a37, .int .i64 a38, .int .i64 a39, .int .i64 a40, .int .i64 a41, .slice A46 se43.length c47, .slice A48 pr45.length c49] 37, blk b31 [.slice A1 C.J.us.length c2, .int .i64 C.J.parts, .slice A6 C.J.map.length c7, .slice A11 C.J.comb.length c12, .slice A16 C.J.red.length c17, .int .i64 C.J.chunk, .int .i64 C.J.window, .int .i64 C.J.fuel, .slice A21 C.J.marks.length c22, .int .i64 C.w, .int .i64 C.t, .int .i64 C.o] 28] [rsl (kHd kPair) (.slice A1 C.J.us.length c2) C.J.us, rsl kIns (.slice A6 C.J.map.length c7) C.J.map, rsl kIns (.slice A11 C.J.comb.length c12) C.J.comb, rsl kIns (.slice A16 C.J.red.length c17) C.J.red, rsl (kInt .i64) (.slice A21 C.J.marks.length c22) C.J.marks, rsl kRec (.slice A26 recs.length c27) recs, gl] := H
  refine s_nil (q_then (c_seq (c_reg (s_val rfl rfl (r_fa rfl fo28_0 rfl) (s_val rfl rfl (r_ldA (cs := [.slice A1 C.J.us.length c2, .int .i64 C.J.parts, .slice A6 C.J.map.length c7, .slice A11 C.J.comb.length c12, .slice A16 C.J.red.length c17, .int .i64 C.J.chunk, .int .i64 C.J.window, .int .i64 C.J.fuel, .slice A21 C.J.marks.length c22]) rfl ty26 rfl rfl (H.cellsI 3 rfl rfl)) (s_val rfl rfl (r_fa rfl fo37_2 rfl) (s_val rfl rfl (r_ld rfl ty3 rfl (H.cellI 2 rfl rfl)) (s_val rfl rfl (r_fa rfl fo37_1 rfl) (s_val rfl rfl (r_ld rfl ty3 rfl (H.cellI 2 rfl rfl)) (sc (jrunI_ok (.slice A1 C.J.us.length c2) (.slice A6 C.J.map.length c7) (.slice A11 C.J.comb.length c12) (.slice A16 C.J.red.length c17) (.slice A21 C.J.marks.length c22) C.J a39 a38 hJ (by first | assumption | omega) (by first | assumption | omega)) H (lR 0 rfl (lR 1 rfl (lR 2 rfl (lR 3 rfl (lR 4 rfl (lR 6 rfl l0)))))) rfl rfl (e_fn kn54 rfl rfl) ?_))))))))))
  rintro _ _ w ⟨u62, rfl, rfl⟩ H
  replace H := H.h1 (A := osl kPair u62 ((runJ dg C.J a39.toNat a38).1))
  refine s_k 5 rfl (s_nil (q_then (c_seq (c_reg (s_1 rfl (s_val rfl rfl (r_ne rfl rfl rfl) (s_1 rfl ?_)))))))
  refine s_dec (d := 67) rfl (fun h63 => ?_) (fun h63 => ?_)
  ·refine s_k 6 rfl (s_nil (q_then (c_yes rfl (c_seq (c_reg (s_1 rfl (s_nil (q_then (c_ret (q_blockR (q_thenR (q_thenR (q_blockR (q_thenR (q_ret1 rfl rfl ?_)))))))))))))))
   replace H := H.nil
   have hxp := mapP hx36
   have hbd : mgBad dg C ks (Rec.p (⟨a37, a38, a39, a40, a41, .slice A46 se43.length c47, se43, .slice A48 pr45.length c49, pr45⟩ : Rec)) := by first | exact .inl (.inl h63) | exact .inl (.inr (.inl h63)) | exact .inl (.inr (.inr (.inl h63))) | exact .inl (.inr (.inr (.inr h63))) | exact .inr (.inl h63) | exact .inr (.inr h63)
   have e : mergesGo dg C [] (recs.map Rec.p) = false := by rw [← hg]; exact mg_bad hxp h56 hbd
   exact fin ⟨by rw [e] <;> rfl, rfl⟩ H
  refine s_1 rfl (s_val rfl rfl (r_fa rfl fo37_6 rfl) (s_val rfl rfl (r_ld rfl ty35 rfl (H.cellI 3 rfl rfl)) (sc (pSame_ok u62 ((runJ dg C.J a39.toNat a38).1) (.slice A48 pr45.length c49) pr45) H (lA 0 rfl own_rd (lX (fun F hA hR => rec_pairs (hR _ (List.mem_of_getElem? (i := 5) rfl)) hx36) l0)) rfl rfl (e_fn kn133 rfl rfl) ?_)))
  rintro _ _ w ⟨rfl, rfl⟩ H
  refine s_val rfl rfl (r_notP rfl rfl) (s_1 rfl (s_nil (q_then ?_)))
  refine c_dec rfl (fun h64 => ?_) (fun h64 => ?_)
  ·refine c_seq (c_reg (s_1 rfl (s_nil (q_then (c_ret (q_blockR (q_thenR (q_thenR (q_blockR (q_thenR (q_ret1 rfl rfl ?_)))))))))))
   replace H := H.nil
   have hxp := mapP hx36
   have hbd : mgBad dg C ks (Rec.p (⟨a37, a38, a39, a40, a41, .slice A46 se43.length c47, se43, .slice A48 pr45.length c49, pr45⟩ : Rec)) := by first | exact .inl (.inl h64) | exact .inl (.inr (.inl h64)) | exact .inl (.inr (.inr (.inl h64))) | exact .inl (.inr (.inr (.inr h64))) | exact .inr (.inl h64) | exact .inr (.inr h64)
   have e : mergesGo dg C [] (recs.map Rec.p) = false := by rw [← hg]; exact mg_bad hxp h56 hbd
   replace H : Hd _ _ _ [] [rsl (kHd kPair) (.slice A1 C.J.us.length c2) C.J.us, rsl kIns (.slice A6 C.J.map.length c7) C.J.map, rsl kIns (.slice A11 C.J.comb.length c12) C.J.comb, rsl kIns (.slice A16 C.J.red.length c17) C.J.red, rsl (kInt .i64) (.slice A21 C.J.marks.length c22) C.J.marks, rsl kRec (.slice A26 recs.length c27) recs, gl] := H
   exact fin ⟨by rw [e] <;> rfl, rfl⟩ H
  refine c_skip (q_blockN (q_then (c_reg (s_val rfl rfl (r_add (z := ((k + 1 : Nat) : Int)) rfl rfl rfl (by rw [w64 (by omega) (by omega)]; omega)) (s_1 rfl (s_nil ?_))))))
  have hxp := mapP hx36
  have hnb : ¬ mgBad dg C ks (Rec.p (⟨a37, a38, a39, a40, a41, .slice A46 se43.length c47, se43, .slice A48 pr45.length c49, pr45⟩ : Rec)) := by rintro ((g | g | g | g) | g | g) <;> first | contradiction | (dsimp only [Rec.p] at g; omega)
  replace H := H.sel 5 [4, 1] [0, 2, 3] rfl (by kernel_rfl)
  exact q_round (s := (k, ks)) (k + 1, ks ++ [(a38, a39)]) ⟨rfl, rfl, rfl, rfl, rfl, trivial⟩ ⟨H, by (try dsimp only); omega, (mg_next hxp h56 hnb).trans hg, by (try dsimp only); rw [List.length_append]; simp only [List.length_cons, List.length_nil]; omega⟩ (by (try dsimp only); omega)
 refine c_exit (q_thenE (q_thenE (q_blockE (q_then (c_seq (c_reg (s_1 rfl (s_nil (q_then (c_ret (q_ret1 rfl rfl ?_)))))))))))
 replace H := H.nil
 have e : mergesGo dg C [] (recs.map Rec.p) = true := by rw [← hg]; exact mg_end (by rw [List.length_map]; omega)
 exact fin ⟨by rw [e] <;> rfl, rfl⟩ H
end Go.Proofs.YthgehekecfpikaaGreatDoor.X
