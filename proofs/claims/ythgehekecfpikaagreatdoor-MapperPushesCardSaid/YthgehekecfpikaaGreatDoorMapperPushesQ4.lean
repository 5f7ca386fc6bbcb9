/- MapperPushes: texts P2, P3, F2, J1, XRed, XRed2, C1, M1, K1, K2, J2, joined by a program of ours; what nothing names is left out. -/
import Derived.Test.YthgehekecfpikaaGreatDoorMapperPushesQ3
import Derived.Test.YthgehekecfpikaaGreatDoorShelf
set_option linter.unusedVariables false
set_option linter.unusedSimpArgs false
namespace Go.Proofs.YthgehekecfpikaaGreatDoor.X
open Go
set_option maxHeartbeats 1000000 in
theorem nanS_ok (s : ByteArray) :
    Cn Tryz.prog 279 [.string s] [] [] (fun v Bs => v = .bool false ∧ Bs = []) := by
 intro w0 F0 H
 exact enter Tryz.func279 rfl rfl (Nat.le_of_ble_eq_true rfl) (c_seq (c_reg (s_1 rfl (s_nil (q_then (c_seq (c_reg (s_k 2 rfl (s_val rfl rfl (r_neS rfl rfl rfl) (s_1 rfl (s_nil (q_then (c_ret (q_ret1 rfl rfl (fin ⟨congrArg Value.bool (decide_eq_false (fun h => h rfl)), rfl⟩ H)))))))))))))))
set_option maxHeartbeats 1000000 in
theorem cmpS_ok (a : ByteArray) (b : ByteArray) :
    Cn Tryz.prog 245 [.string a, .string b] [] [] (fun v Bs => v = .int .i64 (cmpK a b) ∧ Bs = []) := by
 intro w0 F0 H
 refine enter Tryz.func245 rfl rfl (Nat.le_of_ble_eq_true rfl) (c_seq (c_reg (s_1 rfl (s_nil (q_then (c_seq (c_reg (s_1 rfl (sc (nanS_ok a) H l0 rfl rfl (e_fn kn279 rfl rfl) ?_)))))))))
 rintro _ _ w ⟨rfl, rfl⟩ H
 refine s_1 rfl (s_nil (q_then (c_seq (c_reg (s_1 rfl (sc (nanS_ok b) H l0 rfl rfl (e_fn kn279 rfl rfl) ?_))))))
 rintro _ _ w ⟨rfl, rfl⟩ H
 refine s_1 rfl (s_nil (q_then (c_seq (c_seq (c_reg (s_1 rfl (s_nil (q_then (c_no rfl (c_skip (q_then (c_seq (c_seq (c_reg (s_1 rfl (s_nil (q_then (c_no rfl (c_skip (q_then (c_seq (c_seq (c_reg (s_k 2 rfl (s_val rfl rfl (r_ltS rfl rfl rfl) (s_nil (q_then ?_)))))))))))))))))))))))))))
 refine c_dec rfl (fun h1 => ?_) (fun h1 => ?_)
 ·exact c_seq (c_reg (s_1 rfl (s_nil (q_then (c_ret (q_thenR (q_ret1 rfl rfl (fin ⟨by rw [cmpK_lt h1] <;> rfl, rfl⟩ H))))))))
 ·refine c_skip (q_then (c_seq (c_seq (c_reg (s_k 2 rfl (s_val rfl rfl (r_gtS rfl rfl rfl) (s_nil (q_then ?_))))))))
  refine c_cond (b := !(ltS a b || decide (a = b))) rfl (fun h2 => ?_) (fun h2 => ?_)
  ·exact c_seq (c_reg (s_1 rfl (s_nil (q_then (c_ret (q_thenR (q_ret1 rfl rfl (fin ⟨by rw [cmpK_gt h1 h2] <;> rfl, rfl⟩ H))))))))
  ·exact c_skip (q_then (c_seq (c_reg (s_1 rfl (s_nil (q_then (c_ret (q_ret1 rfl rfl (fin ⟨by rw [cmpK_eq h1 h2] <;> rfl, rfl⟩ H)))))))))
set_option maxHeartbeats 1000000 in
theorem order_ok (p q : Pair) :
    Cn Tryz.prog 209 [.agg #[.string p.key, .string p.val], .agg #[.string q.key, .string q.val]] [] [] (fun v Bs => v = .int .i64 (cmpK p.key q.key) ∧ Bs = []) := by
 intro w0 F0 H
 refine enter Tryz.func209 rfl rfl (Nat.le_of_ble_eq_true rfl) (c_seq (c_reg (s_box rfl rfl rfl rfl H (fun b1 w H => (s_box rfl rfl rfl rfl H (fun b2 w H => (s_1 rfl (s_nil (q_then ?_)))))))))
 replace H : Hd _ _ _ [blk b2 [.string q.key, .string q.val] 106, blk b1 [.string p.key, .string p.val] 106] [] := H
 refine c_seq (c_reg (s_val rfl rfl (r_fa rfl fo106_0 rfl) (s_val rfl rfl (r_ld rfl ty9 rfl (H.cellI 1 rfl rfl)) (s_val rfl rfl (r_fa rfl fo106_0 rfl) (s_val rfl rfl (r_ld rfl ty9 rfl (H.cellI 0 rfl rfl)) (sc (cmpS_ok p.key q.key) H l0 rfl rfl (e_fn kn245 rfl rfl) ?_))))))
 rintro _ _ w ⟨rfl, rfl⟩ H
 refine s_1 rfl (s_nil (q_then (c_ret (q_ret1 rfl rfl ?_))))
 replace H := H.nil
 exact fin ⟨rfl, rfl⟩ H
set_option maxHeartbeats 1000000 in
theorem swapRange_ok (v : Value) (xs : List Pair) (a : Nat) (b : Nat) (n : Nat) (h1 : a + n ≤ b) (h2 : b + n ≤ xs.length) (hb : xs.length ≤ 1000000) :
    Cn Tryz.prog 329 [v, .int .i64 ((a : Nat) : Int), .int .i64 ((b : Nat) : Int), .int .i64 ((n : Nat) : Int), .func (.func 209) #[] #[]] [osl kPair v xs] [] (fun _ Bs => ∃ ys, Bs = [osl kPair v ys] ∧ Via xs ys (swapI a b n)) := by
 intro w0 F0 H
 obtain ⟨A1, c2, rfl, hc3, hm4, hp5⟩ := H.fA 0 rfl
 refine enter Tryz.func329 rfl rfl (Nat.le_of_ble_eq_true rfl) (c_seq (c_reg (s_1 rfl (s_nil (q_then ?_)))))
 replace H : Hd _ _ _ [osl kPair (.slice A1 xs.length c2) xs] [] := H
 refine c_block (c_loop (σ := Nat × List Pair) (fun (k, ys) => [(0, .slice A1 xs.length c2), (1, .int .i64 ((a : Nat) : Int)), (2, .int .i64 ((b : Nat) : Int)), (3, .int .i64 ((n : Nat) : Int)), (10, .int .i64 ((k : Nat) : Int))]) (fun (k, ys) w => (Hd w0 F0 w [osl kPair (.slice A1 xs.length c2) ys] []) ∧ (k ≤ n) ∧ (Via xs ys (swapI a b k))) (fun (k, ys) => n - k) (0, xs) ⟨rfl, rfl, rfl, rfl, rfl, trivial⟩ ⟨H, by omega, via_refl xs (fun t => by unfold swapI; rw [if_neg (by omega), if_neg (by omega)])⟩ ?_)
 rintro ⟨k, ys⟩ w ⟨H, hk, hv⟩
 have hl := hv.1
 refine c_seq (c_seq (c_reg (s_k 2 rfl (s_val rfl rfl (r_lt rfl rfl rfl) (s_nil (q_then ?_))))))
 refine c_dec rfl (fun h6 => ?_) (fun h6 => ?_)
 ·refine c_skip (q_then (c_seq (c_block (c_ord (.e 0 (.e 1 (.e 2 (.e 3 (.e 4 (.e 5 (.e 6 (.e 7 (.e 8 (.e 9 (.e 10 (.e 11 (.e 12 (.e 14 (.e 15 (.e 16 (.e 17 (.e 18 (.p 13 19 (.e 20 (.m 21 (.e 22 (.m 23 .z))))))))))))))))))))))) (fun w => ∃ Ar, Hd w0 F0 w (Ar) []) mo (by kernel_rfl) (fun w H => ⟨_, H⟩) H (fun w H => (d_1 rfl (d_1 rfl (d_1 rfl (d_val rfl rfl rfl (fun w ⟨Ar, H⟩ => r_add (z := ((a + k : Nat) : Int)) rfl rfl rfl (by rw [w64 (by omega) (by omega)]; omega)) (d_1 rfl (d_1 rfl (d_1 rfl (d_val rfl rfl rfl (fun w ⟨Ar, H⟩ => r_add (z := ((b + k : Nat) : Int)) rfl rfl rfl (by rw [w64 (by omega) (by omega)]; omega)) (d_1 rfl (d_1 rfl (d_1 rfl (d_val rfl rfl rfl (fun w ⟨Ar, H⟩ => r_add (z := ((b + k : Nat) : Int)) rfl rfl rfl (by rw [w64 (by omega) (by omega)]; omega)) ?_)))))))))))))))))
  obtain ⟨x7, hx8⟩ : ∃ z9, ys[b + k]? = some z9 := ⟨_, List.getElem?_eq_getElem (show b + k < ys.length by omega)⟩
  have th9 := H.thA 0 rfl hx8
  refine d_val rfl rfl rfl (fun w ⟨Ar, H⟩ => r_iaE (p := oOf A1 + (b + k) * 2) rfl sl35 rfl rfl (by omega) (by omega) th9 rfl) (d_1 rfl (d_1 rfl (d_1 rfl (d_val rfl rfl rfl (fun w ⟨Ar, H⟩ => r_add (z := ((a + k : Nat) : Int)) rfl rfl rfl (by rw [w64 (by omega) (by omega)]; omega)) ?_))))
  obtain ⟨x10, hx11⟩ : ∃ z9, ys[a + k]? = some z9 := ⟨_, List.getElem?_eq_getElem (show a + k < ys.length by omega)⟩
  have th12 := H.thA 0 rfl hx11
  refine d_val rfl rfl rfl (fun w ⟨Ar, H⟩ => r_iaE (p := oOf A1 + (a + k) * 2) rfl sl35 rfl rfl (by omega) (by omega) th12 rfl) (d_pair rfl rfl rfl rfl rfl rfl rfl rfl (by decide) (r_ldA (cs := [.string x7.key, .string x7.val]) rfl ty106 rfl rfl (H.elsA 0 rfl hx8 rfl)) (r_ldA (cs := [.string x10.key, .string x10.val]) rfl ty106 rfl rfl (H.elsA 0 rfl hx11 rfl)) ?_)
  have th13 := H.thA 0 rfl hx11
  refine d_val rfl rfl rfl (fun w ⟨Ar, H⟩ => r_iaE (p := oOf A1 + (a + k) * 2) rfl sl35 rfl rfl (by omega) (by omega) th13 rfl) (d_main rfl (s_stO (i := a + k) (a := x7) rfl rfl rfl ty106 rfl rfl rfl H (by omega) rfl (fun w H => ?_)))
  replace H := H.h1 (A := osl kPair (.slice A1 xs.length c2) (ys.set (a + k) x7))
  refine d_back ⟨_, H⟩ ?_
  obtain ⟨x14, hx15⟩ : ∃ z9, (ys.set (a + k) x7)[b + k]? = some z9 := ⟨_, List.getElem?_eq_getElem (show b + k < (ys.set (a + k) x7).length by simp only [List.length_set]; omega)⟩
  have th16 := H.thA 0 rfl hx15
  refine d_val rfl rfl rfl (fun w ⟨Ar, H⟩ => r_iaE (p := oOf A1 + (b + k) * 2) rfl sl35 rfl rfl (by omega) (by omega) th16 rfl) (d_main rfl (s_stO (i := b + k) (a := x10) rfl rfl rfl ty106 rfl rfl rfl H (by simp only [List.length_set]; omega) rfl (fun w H => ?_)))
  replace H := H.h1 (A := osl kPair (.slice A1 xs.length c2) ((ys.set (a + k) x7).set (b + k) x10))
  exact d_back ⟨_, H⟩ (d_nil (q_blockN (q_then (c_reg (s_1 rfl (s_val rfl rfl (r_add (z := ((k + 1 : Nat) : Int)) rfl rfl rfl (by rw [w64 (by omega) (by omega)]; omega)) (s_1 rfl (s_nil (q_round (s := (k, ys)) (k + 1, (ys.set (a + k) x7).set (b + k) x10) ⟨rfl, rfl, rfl, rfl, rfl, trivial⟩ ⟨H, by omega, via_set2 (by omega) hv hx11 hx8⟩ (by (try dsimp only); omega))))))))))
 ·exact c_exit (q_thenE (q_thenE (q_blockE (q_end rfl (fin ⟨_, rfl, (by omega : k = n) ▸ hv⟩ H)))))
set_option maxHeartbeats 1000000 in
theorem rotate_ok (v : Value) (xs : List Pair) (a : Nat) (m : Nat) (b : Nat) (h1 : a < m) (h2 : m < b) (h3 : b ≤ xs.length) (hb : xs.length ≤ 1000000) :
    Cn Tryz.prog 306 [v, .int .i64 ((a : Nat) : Int), .int .i64 ((m : Nat) : Int), .int .i64 ((b : Nat) : Int), .func (.func 209) #[] #[]] [osl kPair v xs] [] (fun _ Bs => ∃ ys, Bs = [osl kPair v ys] ∧ Via xs ys (rotI a m b)) := by
 intro w0 F0 H
 obtain ⟨A1, c2, rfl, hc3, hm4, hp5⟩ := H.fA 0 rfl
 refine enter Tryz.func306 rfl rfl (Nat.le_of_ble_eq_true rfl) (c_seq (c_reg (s_k 2 rfl (s_val rfl rfl (r_sub (z := ((m - a : Nat) : Int)) rfl rfl rfl (by rw [w64 (by omega) (by omega)]; omega)) (s_1 rfl (s_nil (q_then ?_)))))))
 replace H : Hd _ _ _ [osl kPair (.slice A1 xs.length c2) xs] [] := H
 refine c_seq (c_reg (s_k 2 rfl (s_val rfl rfl (r_sub (z := ((b - m : Nat) : Int)) rfl rfl rfl (by rw [w64 (by omega) (by omega)]; omega)) (s_1 rfl (s_nil (q_then (c_seq (c_block (c_loop (σ := Nat × Nat × List Pair) (fun (i, j, ys) => [(0, .slice A1 xs.length c2), (2, .int .i64 ((m : Nat) : Int)), (4, .func (.func 209) #[] #[]), (10, .int .i64 ((i : Nat) : Int)), (11, .int .i64 ((j : Nat) : Int))]) (fun (i, j, ys) w => (Hd w0 F0 w [osl kPair (.slice A1 xs.length c2) ys] []) ∧ (0 < i ∧ i ≤ m ∧ 0 < j ∧ m + j ≤ xs.length) ∧ (ys.length = xs.length) ∧ (∀ t, xs[rotI a m b t]? = ys[rotI (m - i) m (m + j) t]?)) (fun (i, j, ys) => i + j) (m - a, b - m, xs) ⟨rfl, rfl, rfl, rfl, rfl, trivial⟩ ⟨H, by (try dsimp only); omega, rfl, fun t => by (try dsimp only); rw [show m - (m - a) = a by omega, show m + (b - m) = b by omega]⟩ ?_)))))))))
 rintro ⟨i, j, ys⟩ w ⟨H, hi, hl, hv⟩
 refine c_seq (c_seq (c_reg (s_k 2 rfl (s_val rfl rfl (r_ne rfl rfl rfl) (s_nil (q_then ?_))))))
 refine c_dec rfl (fun h6 => ?_) (fun h6 => ?_)
 ·refine c_skip (q_then (c_block (c_seq (c_reg (s_k 2 rfl (s_val rfl rfl (r_gt rfl rfl rfl) (s_nil (q_then ?_))))))))
  refine c_dec rfl (fun h7 => ?_) (fun h7 => ?_)
  ·refine c_seq (c_reg (s_k 3 rfl (s_val rfl rfl (r_sub (z := ((m - i : Nat) : Int)) rfl rfl rfl (by rw [w64 (by omega) (by omega)]; omega)) (s_k 3 rfl (sc (swapRange_ok (.slice A1 xs.length c2) ys (m - i) m j (by omega) (by omega) (by omega)) H l0 rfl rfl (e_fn kn329 rfl rfl) ?_)))))
   rintro _ _ w ⟨ys8, rfl, hv9⟩ H
   replace H := H.h1 (A := osl kPair (.slice A1 xs.length c2) ys8)
   refine s_nil (q_then (c_reg (s_k 2 rfl (s_val rfl rfl (r_sub (z := ((i - j : Nat) : Int)) rfl rfl rfl (by rw [w64 (by omega) (by omega)]; omega)) (s_1 rfl (s_nil (q_blockN ?_)))))))
   have hw := rot_gt (m := m) (i := i) (j := j) (by omega) (by omega) hv9
   exact q_round (s := (i, j, ys)) (i - j, j, ys8) ⟨rfl, rfl, rfl, rfl, rfl, trivial⟩ ⟨H, by (try dsimp only); omega, by (try dsimp only); rw [hv9.1]; exact hl, fun t => (hv t).trans (hw t)⟩ (by (try dsimp only); omega)
  ·refine c_seq (c_reg (s_k 3 rfl (s_val rfl rfl (r_sub (z := ((m - i : Nat) : Int)) rfl rfl rfl (by rw [w64 (by omega) (by omega)]; omega)) (s_k 2 rfl (s_val rfl rfl (r_add (z := ((m + j : Nat) : Int)) rfl rfl rfl (by rw [w64 (by omega) (by omega)]; omega)) (s_1 rfl (s_val rfl rfl (r_sub (z := ((m + j - i : Nat) : Int)) rfl rfl rfl (by rw [w64 (by omega) (by omega)]; omega)) (s_k 2 rfl (sc (swapRange_ok (.slice A1 xs.length c2) ys (m - i) (m + j - i) i (by omega) (by omega) (by omega)) H l0 rfl rfl (e_fn kn329 rfl rfl) ?_)))))))))
   rintro _ _ w ⟨ys10, rfl, hv11⟩ H
   replace H := H.h1 (A := osl kPair (.slice A1 xs.length c2) ys10)
   refine s_nil (q_then (c_reg (s_k 2 rfl (s_val rfl rfl (r_sub (z := ((j - i : Nat) : Int)) rfl rfl rfl (by rw [w64 (by omega) (by omega)]; omega)) (s_1 rfl (s_nil (q_blockN ?_)))))))
   have hw := rot_lt (m := m) (i := i) (j := j) (by omega) (by omega) hv11
   exact q_round (s := (i, j, ys)) (i, j - i, ys10) ⟨rfl, rfl, rfl, rfl, rfl, trivial⟩ ⟨H, by (try dsimp only); omega, by (try dsimp only); rw [hv11.1]; exact hl, fun t => (hv t).trans (hw t)⟩ (by (try dsimp only); omega)
 ·refine c_exit (q_thenE (q_thenE (q_blockE (q_then (c_reg (s_k 3 rfl (s_val rfl rfl (r_sub (z := ((m - i : Nat) : Int)) rfl rfl rfl (by rw [w64 (by omega) (by omega)]; omega)) (s_k 3 rfl (sc (swapRange_ok (.slice A1 xs.length c2) ys (m - i) m i (by omega) (by omega) (by omega)) H l0 rfl rfl (e_fn kn329 rfl rfl) ?_)))))))))
  rintro _ _ w ⟨ys12, rfl, hv13⟩ H
  refine s_nil (q_end rfl ?_)
  obtain rfl : i = j := by omega
  exact fin ⟨_, rfl, hv13.1.trans hl, fun t => by rw [hv, hv13.2, rot_eq (by omega)] <;> rfl⟩ H
set_option maxHeartbeats 1000000 in
theorem insSort_ok (v : Value) (xs : List Pair) (a : Nat) (b : Nat) (h1 : a ≤ b) (h2 : b ≤ xs.length) (hb : xs.length ≤ 1000000) :
    Cn Tryz.prog 277 [v, .int .i64 ((a : Nat) : Int), .int .i64 ((b : Nat) : Int), .func (.func 209) #[] #[]] [osl kPair v xs] [] (fun _ Bs => ∃ ys, Bs = [osl kPair v ys] ∧ Sorts xs ys a b) := by
 intro w0 F0 H
 obtain ⟨A1, c2, rfl, hc3, hm4, hp5⟩ := H.fA 0 rfl
 refine enter Tryz.func277 rfl rfl (Nat.le_of_ble_eq_true rfl) (c_seq (c_reg (s_1 rfl (s_val rfl rfl (r_add (z := ((a + 1 : Nat) : Int)) rfl rfl rfl (by rw [w64 (by omega) (by omega)]; omega)) (s_1 rfl (s_nil (q_then ?_)))))))
 replace H : Hd _ _ _ [osl kPair (.slice A1 xs.length c2) xs] [] := H
 refine c_block (c_loop (σ := Nat × List Pair) (fun (i, ys) => [(0, .slice A1 xs.length c2), (1, .int .i64 ((a : Nat) : Int)), (2, .int .i64 ((b : Nat) : Int)), (3, .func (.func 209) #[] #[]), (8, .int .i64 ((i : Nat) : Int))]) (fun (i, ys) w => (Hd w0 F0 w [osl kPair (.slice A1 xs.length c2) ys] []) ∧ (a + 1 ≤ i ∧ (i ≤ b ∨ i = a + 1)) ∧ (Stab xs ys) ∧ (InI xs ys a b) ∧ (SrtI ys a i)) (fun (i, ys) => b - i) (a + 1, xs) ⟨rfl, rfl, rfl, rfl, rfl, trivial⟩ ⟨H, by (try dsimp only); omega, Stab.refl _, InI.refl _ _ _, SrtI.one xs (Nat.le_refl _)⟩ ?_)
 rintro ⟨i, ys⟩ w ⟨H, hi, hst, hin, hso⟩
 have hl := hin.1
 refine c_seq (c_seq (c_reg (s_k 2 rfl (s_val rfl rfl (r_lt rfl rfl rfl) (s_nil (q_then ?_))))))
 refine c_dec rfl (fun h6 => ?_) (fun h6 => ?_)
 ·refine c_skip (q_then (c_seq (c_block (c_seq (c_reg (s_k 2 rfl (s_nil (q_then (c_block (c_loop (σ := Nat × List Pair) (fun (j, zs) => [(0, .slice A1 xs.length c2), (1, .int .i64 ((a : Nat) : Int)), (2, .int .i64 ((b : Nat) : Int)), (3, .func (.func 209) #[] #[]), (8, .int .i64 ((i : Nat) : Int)), (9, .int .i64 ((j : Nat) : Int))]) (fun (j, zs) w => (Hd w0 F0 w [osl kPair (.slice A1 xs.length c2) zs] []) ∧ (a ≤ j ∧ j ≤ i) ∧ (Stab xs zs) ∧ (InI xs zs a b) ∧ (ButI zs a (i + 1) j)) (fun (j, zs) => j) (i, ys) ⟨rfl, rfl, rfl, rfl, rfl, rfl, trivial⟩ ⟨H, by (try dsimp only); omega, hst, hin, but_start hso⟩ ?_))))))))))
  rintro ⟨j, zs⟩ w ⟨H, hj, hst2, hin2, hbu⟩
  have hl2 := hin2.1
  refine c_seq (c_seq (c_ord (.e 0 (.e 1 (.e 2 (.e 3 (.e 4 (.e 5 (.e 6 (.e 7 (.e 8 (.e 9 (.e 10 (.e 11 (.e 12 (.e 13 (.m 14 (.e 15 (.e 16 .z))))))))))))))))) (fun w => ∃ Ar, Hd w0 F0 w (osl kPair (.slice A1 xs.length c2) zs :: Ar) []) mo (by kernel_rfl) (fun w H => ⟨_, H⟩) H (fun w H => (d_1 rfl (d_1 rfl (d_val rfl rfl rfl (fun w ⟨Ar, H⟩ => r_gt rfl rfl rfl) (d_1 rfl ?_)))))))
  refine d_dec (d := 21) rfl (fun h7 => ?_) (fun h7 => ?_)
  ·refine d_1 rfl (d_1 rfl (d_1 rfl ?_))
   obtain ⟨x8, hx9⟩ : ∃ z9, zs[j]? = some z9 := ⟨_, List.getElem?_eq_getElem (show j < zs.length by omega)⟩
   have th10 := H.thA 0 rfl hx9
   refine d_val rfl rfl rfl (fun w ⟨Ar, H⟩ => r_iaE (p := oOf A1 + j * 2) rfl sl35 rfl rfl (by omega) (by omega) th10 rfl) (d_val rfl rfl rfl (fun w ⟨Ar, H⟩ => r_ldA (cs := [.string x8.key, .string x8.val]) rfl ty106 rfl rfl (H.elsA 0 rfl hx9 rfl)) (d_1 rfl (d_1 rfl (d_val rfl rfl rfl (fun w ⟨Ar, H⟩ => r_sub (z := ((j - 1 : Nat) : Int)) rfl rfl rfl (by rw [w64 (by omega) (by omega)]; omega)) ?_))))
   obtain ⟨x11, hx12⟩ : ∃ z9, zs[j - 1]? = some z9 := ⟨_, List.getElem?_eq_getElem (show j - 1 < zs.length by omega)⟩
   have th13 := H.thA 0 rfl hx12
   refine d_val rfl rfl rfl (fun w ⟨Ar, H⟩ => r_iaE (p := oOf A1 + (j - 1) * 2) rfl sl35 rfl rfl (by omega) (by omega) th13 rfl) (d_val rfl rfl rfl (fun w ⟨Ar, H⟩ => r_ldA (cs := [.string x11.key, .string x11.val]) rfl ty106 rfl rfl (H.elsA 0 rfl hx12 rfl)) (d_main rfl (sc (order_ok x8 x11) H l0 rfl rfl (e_val (vs := [.agg #[.string x8.key, .string x8.val], .agg #[.string x11.key, .string x11.val]]) (fs := #[]) (cs := #[]) kn209 rfl rfl rfl) ?_)))
   rintro _ _ w ⟨rfl, rfl⟩ H
   refine d_back ⟨_, H⟩ (d_val rfl rfl rfl (fun w ⟨Ar, H⟩ => r_lt rfl rfl rfl) (d_1 rfl (d_nil (q_then ?_))))
   refine c_dec rfl (fun h14 => ?_) (fun h14 => ?_)
   ·refine c_skip (q_then (c_seq (c_block (c_ord (.e 0 (.e 1 (.e 2 (.e 3 (.e 4 (.e 5 (.e 6 (.e 7 (.e 8 (.e 10 (.e 11 (.e 12 (.p 9 13 (.e 14 (.m 15 (.e 16 (.m 17 .z))))))))))))))))) (fun w => ∃ Ar, Hd w0 F0 w (Ar) []) mo (by kernel_rfl) (fun w H => ⟨_, H⟩) H (fun w H => (d_1 rfl (d_1 rfl (d_1 rfl (d_1 rfl (d_val rfl rfl rfl (fun w ⟨Ar, H⟩ => r_sub (z := ((j - 1 : Nat) : Int)) rfl rfl rfl (by rw [w64 (by omega) (by omega)]; omega)) (d_1 rfl (d_1 rfl (d_val rfl rfl rfl (fun w ⟨Ar, H⟩ => r_sub (z := ((j - 1 : Nat) : Int)) rfl rfl rfl (by rw [w64 (by omega) (by omega)]; omega)) ?_)))))))))))))
    have th15 := H.thA 0 rfl hx12
    refine d_val rfl rfl rfl (fun w ⟨Ar, H⟩ => r_iaE (p := oOf A1 + (j - 1) * 2) rfl sl35 rfl rfl (by omega) (by omega) th15 rfl) (d_1 rfl (d_1 rfl ?_))
    have th16 := H.thA 0 rfl hx9
    refine d_val rfl rfl rfl (fun w ⟨Ar, H⟩ => r_iaE (p := oOf A1 + j * 2) rfl sl35 rfl rfl (by omega) (by omega) th16 rfl) (d_pair rfl rfl rfl rfl rfl rfl rfl rfl (by decide) (r_ldA (cs := [.string x11.key, .string x11.val]) rfl ty106 rfl rfl (H.elsA 0 rfl hx12 rfl)) (r_ldA (cs := [.string x8.key, .string x8.val]) rfl ty106 rfl rfl (H.elsA 0 rfl hx9 rfl)) ?_)
    have th17 := H.thA 0 rfl hx9
    refine d_val rfl rfl rfl (fun w ⟨Ar, H⟩ => r_iaE (p := oOf A1 + j * 2) rfl sl35 rfl rfl (by omega) (by omega) th17 rfl) (d_main rfl (s_stO (i := j) (a := x11) rfl rfl rfl ty106 rfl rfl rfl H (by omega) rfl (fun w H => ?_)))
    replace H : Hd _ _ _ [osl kPair (.slice A1 xs.length c2) (zs.set j x11)] [] := H
    refine d_back ⟨_, H⟩ ?_
    obtain ⟨x18, hx19⟩ : ∃ z9, (zs.set j x11)[j - 1]? = some z9 := ⟨_, List.getElem?_eq_getElem (show j - 1 < (zs.set j x11).length by simp only [List.length_set]; omega)⟩
    have th20 := H.thA 0 rfl hx19
    refine d_val rfl rfl rfl (fun w ⟨Ar, H⟩ => r_iaE (p := oOf A1 + (j - 1) * 2) rfl sl35 rfl rfl (by omega) (by omega) th20 rfl) (d_main rfl (s_stO (i := j - 1) (a := x8) rfl rfl rfl ty106 rfl rfl rfl H (by simp only [List.length_set]; omega) rfl (fun w H => ?_)))
    replace H := H.h1 (A := osl kPair (.slice A1 xs.length c2) ((zs.set j x11).set (j - 1) x8))
    refine d_back ⟨_, H⟩ (d_nil (q_blockN (q_then (c_reg (s_1 rfl (s_val rfl rfl (r_sub (z := ((j - 1 : Nat) : Int)) rfl rfl rfl (by rw [w64 (by omega) (by omega)]; omega)) (s_1 rfl (s_nil ?_))))))))
    have hsw := swap_stab' (by omega) hx12 hx9 (cmpK_neg.1 h14)
    exact q_round (s := (j, zs)) (j - 1, (zs.set j x11).set (j - 1) x8) ⟨rfl, rfl, rfl, rfl, rfl, rfl, trivial⟩ ⟨H, by (try dsimp only); omega, hst2.trans hsw.1, hin2.trans (hsw.2.wider (by omega) (by omega)), but_step' hbu (by omega) hx12 hx9 (cmpK_neg.1 h14) (by omega)⟩ (by (try dsimp only); omega)
   ·exact c_exit (q_thenE (q_thenE (q_blockE (q_blockN (q_then (c_reg (s_1 rfl (s_val rfl rfl (r_add (z := ((i + 1 : Nat) : Int)) rfl rfl rfl (by rw [w64 (by omega) (by omega)]; omega)) (s_1 rfl (s_nil (q_round (s := (i, ys)) (i + 1, zs) ⟨rfl, rfl, rfl, rfl, rfl, trivial⟩ ⟨H, by (try dsimp only); omega, hst2, hin2, but_stop' hbu (by omega) hx12 hx9 (cmpK_nneg h14)⟩ (by (try dsimp only); omega))))))))))))
  ·exact d_1 rfl (d_1 rfl (d_1 rfl (d_1 rfl (d_1 rfl (d_1 rfl (d_1 rfl (d_1 rfl (d_1 rfl (d_1 rfl (d_mno rfl ⟨_, H⟩ rfl rfl (d_1 rfl (d_1 rfl (d_nil (q_then (c_no rfl (c_exit (q_thenE (q_thenE (q_blockE (q_blockN (q_then (c_reg (s_1 rfl (s_val rfl rfl (r_add (z := ((i + 1 : Nat) : Int)) rfl rfl rfl (by rw [w64 (by omega) (by omega)]; omega)) (s_1 rfl (s_nil (q_round (s := (i, ys)) (i + 1, zs) ⟨rfl, rfl, rfl, rfl, rfl, trivial⟩ ⟨H, by (try dsimp only); omega, hst2, hin2, but_low ((by omega : j = a) ▸ hbu)⟩ (by (try dsimp only); omega))))))))))))))))))))))))))))
 ·exact c_exit (q_thenE (q_thenE (q_blockE (q_end rfl (fin ⟨_, rfl, hst, hin, hso.sub (Nat.le_refl _) (by omega)⟩ H)))))
set_option maxHeartbeats 1000000 in
theorem symMerge_step (N : Nat) (ih : ∀ (v : Value) (xs : List Pair) (a m b : Nat), b - a < N → a < m → m < b → b ≤ xs.length → xs.length ≤ 1000000 → SrtI xs a m → SrtI xs m b → Cn Tryz.prog 278 [v, .int .i64 ((a : Nat) : Int), .int .i64 ((m : Nat) : Int), .int .i64 ((b : Nat) : Int), .func (.func 209) #[] #[]] [osl kPair v xs] [] (fun _ Bs => ∃ ys, Bs = [osl kPair v ys] ∧ Sorts xs ys a b)) (v : Value) (xs : List Pair) (a : Nat) (m : Nat) (b : Nat) (hN : b - a < N + 1) (h1 : a < m) (h2 : m < b) (h3 : b ≤ xs.length) (hb : xs.length ≤ 1000000) (hs1 : SrtI xs a m) (hs2 : SrtI xs m b) :
    Cn Tryz.prog 278 [v, .int .i64 ((a : Nat) : Int), .int .i64 ((m : Nat) : Int), .int .i64 ((b : Nat) : Int), .func (.func 209) #[] #[]] [osl kPair v xs] [] (fun _ Bs => ∃ ys, Bs = [osl kPair v ys] ∧ Sorts xs ys a b) := by
 intro w0 F0 H
 obtain ⟨A1, c2, rfl, hc3, hm4, hp5⟩ := H.fA 0 rfl
 refine enter Tryz.func278 rfl rfl (Nat.le_of_ble_eq_true rfl) (c_seq (c_seq (c_reg (s_k 2 rfl (s_val rfl rfl (r_sub (z := ((m - a : Nat) : Int)) rfl rfl rfl (by rw [w64 (by omega) (by omega)]; omega)) (s_val rfl rfl (r_eq rfl rfl rfl) (s_nil (q_then ?_))))))))
 replace H : Hd _ _ _ [osl kPair (.slice A1 xs.length c2) xs] [] := H
 refine c_dec rfl (fun h6 => ?_) (fun h6 => ?_)
 ·refine c_seq ?_
  have hm : m = a + 1 := by omega
  obtain ⟨x0, hx0⟩ : ∃ z9, xs[a]? = some z9 := ⟨_, List.getElem?_eq_getElem (show a < xs.length by omega)⟩
  refine c_reg (s_k 2 rfl (s_nil (q_then (c_seq (c_reg (s_k 2 rfl (s_nil (q_then (c_seq (c_block (c_loop (σ := Nat × Nat) (fun (i, j) => [(0, .slice A1 xs.length c2), (1, .int .i64 ((a : Nat) : Int)), (2, .int .i64 ((m : Nat) : Int)), (3, .int .i64 ((b : Nat) : Int)), (4, .func (.func 209) #[] #[]), (10, .int .i64 ((i : Nat) : Int)), (11, .int .i64 ((j : Nat) : Int))]) (fun (i, j) w => (Hd w0 F0 w [osl kPair (.slice A1 xs.length c2) xs] []) ∧ (m ≤ i ∧ i ≤ j ∧ j ≤ b) ∧ (i = m ∨ ∃ u, xs[i - 1]? = some u ∧ ltS u.key x0.key = true) ∧ (j = b ∨ ∃ u, xs[j]? = some u ∧ ltS u.key x0.key = false)) (fun (i, j) => j - i) (m, b) ⟨rfl, rfl, rfl, rfl, rfl, rfl, rfl, trivial⟩ ⟨H, by (try dsimp only); omega, .inl rfl, .inl rfl⟩ ?_)))))))))))
  rintro ⟨i, j⟩ w ⟨H, hij, hlow, hup⟩
  refine c_seq (c_seq (c_reg (s_k 2 rfl (s_val rfl rfl (r_lt rfl rfl rfl) (s_nil (q_then ?_))))))
  refine c_dec rfl (fun h7 => ?_) (fun h7 => ?_)
  ·refine c_skip (q_then (c_block (c_seq (c_reg (s_k 2 rfl (s_val rfl rfl (r_add (z := ((i + j : Nat) : Int)) rfl rfl rfl (by rw [w64 (by omega) (by omega)]; omega)) (s_val rfl rfl (r_i2i (z := ((i + j : Nat) : Int)) rfl rfl un3 un158 (wu64 (by omega) (by omega))) (s_val rfl rfl (r_shr (z := (((i + j) / 2 : Nat) : Int)) rfl rfl rfl (by omega) (half_u64 _)) (s_val rfl rfl (r_i2i (z := (((i + j) / 2 : Nat) : Int)) rfl rfl un158 un3 (w64 (by omega) (by omega))) (s_1 rfl (s_nil (q_then (c_seq (c_ord (.e 0 (.e 1 (.e 2 (.e 3 (.e 4 (.e 5 (.e 6 (.e 7 (.e 8 (.m 9 (.e 10 .z))))))))))) (fun w => ∃ Ar, Hd w0 F0 w (osl kPair (.slice A1 xs.length c2) xs :: Ar) []) mo (by kernel_rfl) (fun w H => ⟨_, H⟩) H (fun w H => (d_1 rfl (d_1 rfl (d_1 rfl ?_))))))))))))))))))
   obtain ⟨x8, hx9⟩ : ∃ z9, xs[(i + j) / 2]? = some z9 := ⟨_, List.getElem?_eq_getElem (show (i + j) / 2 < xs.length by omega)⟩
   have th10 := H.thA 0 rfl hx9
   refine d_val rfl rfl rfl (fun w ⟨Ar, H⟩ => r_iaE (p := oOf A1 + ((i + j) / 2) * 2) rfl sl35 rfl rfl (by omega) (by omega) th10 rfl) (d_val rfl rfl rfl (fun w ⟨Ar, H⟩ => r_ldA (cs := [.string x8.key, .string x8.val]) rfl ty106 rfl rfl (H.elsA 0 rfl hx9 rfl)) (d_1 rfl (d_1 rfl ?_)))
   obtain ⟨x11, hx12⟩ : ∃ z9, xs[a]? = some z9 := ⟨_, List.getElem?_eq_getElem (show a < xs.length by omega)⟩
   have th13 := H.thA 0 rfl hx12
   refine d_val rfl rfl rfl (fun w ⟨Ar, H⟩ => r_iaE (p := oOf A1 + a * 2) rfl sl35 rfl rfl (by omega) (by omega) th13 rfl) (d_val rfl rfl rfl (fun w ⟨Ar, H⟩ => r_ldA (cs := [.string x11.key, .string x11.val]) rfl ty106 rfl rfl (H.elsA 0 rfl hx12 rfl)) (d_main rfl (sc (order_ok x8 x11) H l0 rfl rfl (e_val (vs := [.agg #[.string x8.key, .string x8.val], .agg #[.string x11.key, .string x11.val]]) (fs := #[]) (cs := #[]) kn209 rfl rfl rfl) ?_)))
   rintro _ _ w ⟨rfl, rfl⟩ H
   refine d_back ⟨_, H⟩ (d_val rfl rfl rfl (fun w ⟨Ar, H⟩ => r_lt rfl rfl rfl) (d_nil (q_then ?_)))
   refine c_dec rfl (fun h14 => ?_) (fun h14 => ?_)
   ·obtain rfl : x11 = x0 := Option.some.inj (hx12.symm.trans hx0)
    exact c_reg (s_1 rfl (s_val rfl rfl (r_add (z := (((i + j) / 2 + 1 : Nat) : Int)) rfl rfl rfl (by rw [w64 (by omega) (by omega)]; omega)) (s_1 rfl (s_nil (q_blockN (q_round (s := (i, j)) ((i + j) / 2 + 1, j) ⟨rfl, rfl, rfl, rfl, rfl, rfl, rfl, trivial⟩ ⟨H, by (try dsimp only); omega, .inr ⟨x8, by rw [Nat.add_sub_cancel]; exact hx9, cmpK_neg.1 h14⟩, hup⟩ (by (try dsimp only); omega)))))))
   ·obtain rfl : x11 = x0 := Option.some.inj (hx12.symm.trans hx0)
    exact c_reg (s_k 2 rfl (s_nil (q_blockN (q_round (s := (i, j)) (i, (i + j) / 2) ⟨rfl, rfl, rfl, rfl, rfl, rfl, rfl, trivial⟩ ⟨H, by (try dsimp only); omega, hlow, .inr ⟨x8, hx9, cmpK_nneg h14⟩⟩ (by (try dsimp only); omega)))))
  ·refine c_exit (q_thenE (q_thenE (q_blockE (q_then (c_seq (c_seq (c_reg (s_k 2 rfl (s_nil (q_then (c_block (c_loop (σ := Nat × List Pair) (fun (k, ys) => [(0, .slice A1 xs.length c2), (1, .int .i64 ((a : Nat) : Int)), (2, .int .i64 ((m : Nat) : Int)), (3, .int .i64 ((b : Nat) : Int)), (4, .func (.func 209) #[] #[]), (10, .int .i64 ((i : Nat) : Int)), (13, .int .i64 ((k : Nat) : Int))]) (fun (k, ys) w => (Hd w0 F0 w [osl kPair (.slice A1 xs.length c2) ys] []) ∧ (a ≤ k ∧ k + 1 ≤ i) ∧ (Via xs ys (rotI a m (k + 1)))) (fun (k, ys) => i - k) (a, xs) ⟨rfl, rfl, rfl, rfl, rfl, rfl, rfl, trivial⟩ ⟨H, by (try dsimp only); omega, by rw [hm]; exact via_one xs a⟩ ?_))))))))))))
   rintro ⟨k, ys⟩ w ⟨H, hk, hv⟩
   have hl := hv.1
   refine c_seq (c_seq (c_reg (s_k 2 rfl (s_val rfl rfl (r_sub (z := ((i - 1 : Nat) : Int)) rfl rfl rfl (by rw [w64 (by omega) (by omega)]; omega)) (s_val rfl rfl (r_lt rfl rfl rfl) (s_nil (q_then ?_)))))))
   refine c_dec rfl (fun h15 => ?_) (fun h15 => ?_)
   ·refine c_skip (q_then (c_seq (c_block (c_ord (.e 0 (.e 1 (.e 2 (.e 3 (.e 4 (.e 5 (.e 6 (.e 7 (.e 8 (.e 10 (.e 11 (.e 12 (.p 9 13 (.e 14 (.m 15 (.e 16 (.m 17 .z))))))))))))))))) (fun w => ∃ Ar, Hd w0 F0 w (Ar) []) mo (by kernel_rfl) (fun w H => ⟨_, H⟩) H (fun w H => (d_1 rfl (d_1 rfl (d_1 rfl (d_1 rfl (d_val rfl rfl rfl (fun w ⟨Ar, H⟩ => r_add (z := ((k + 1 : Nat) : Int)) rfl rfl rfl (by rw [w64 (by omega) (by omega)]; omega)) (d_1 rfl (d_1 rfl (d_val rfl rfl rfl (fun w ⟨Ar, H⟩ => r_add (z := ((k + 1 : Nat) : Int)) rfl rfl rfl (by rw [w64 (by omega) (by omega)]; omega)) ?_)))))))))))))
    obtain ⟨x16, hx17⟩ : ∃ z9, ys[k + 1]? = some z9 := ⟨_, List.getElem?_eq_getElem (show k + 1 < ys.length by omega)⟩
    have th18 := H.thA 0 rfl hx17
    refine d_val rfl rfl rfl (fun w ⟨Ar, H⟩ => r_iaE (p := oOf A1 + (k + 1) * 2) rfl sl35 rfl rfl (by omega) (by omega) th18 rfl) (d_1 rfl (d_1 rfl ?_))
    obtain ⟨x19, hx20⟩ : ∃ z9, ys[k]? = some z9 := ⟨_, List.getElem?_eq_getElem (show k < ys.length by omega)⟩
    have th21 := H.thA 0 rfl hx20
    refine d_val rfl rfl rfl (fun w ⟨Ar, H⟩ => r_iaE (p := oOf A1 + k * 2) rfl sl35 rfl rfl (by omega) (by omega) th21 rfl) (d_pair rfl rfl rfl rfl rfl rfl rfl rfl (by decide) (r_ldA (cs := [.string x16.key, .string x16.val]) rfl ty106 rfl rfl (H.elsA 0 rfl hx17 rfl)) (r_ldA (cs := [.string x19.key, .string x19.val]) rfl ty106 rfl rfl (H.elsA 0 rfl hx20 rfl)) ?_)
    have th22 := H.thA 0 rfl hx20
    refine d_val rfl rfl rfl (fun w ⟨Ar, H⟩ => r_iaE (p := oOf A1 + k * 2) rfl sl35 rfl rfl (by omega) (by omega) th22 rfl) (d_main rfl (s_stO (i := k) (a := x16) rfl rfl rfl ty106 rfl rfl rfl H (by omega) rfl (fun w H => ?_)))
    replace H := H.h1 (A := osl kPair (.slice A1 xs.length c2) (ys.set k x16))
    refine d_back ⟨_, H⟩ ?_
    obtain ⟨x23, hx24⟩ : ∃ z9, (ys.set k x16)[k + 1]? = some z9 := ⟨_, List.getElem?_eq_getElem (show k + 1 < (ys.set k x16).length by simp only [List.length_set]; omega)⟩
    have th25 := H.thA 0 rfl hx24
    refine d_val rfl rfl rfl (fun w ⟨Ar, H⟩ => r_iaE (p := oOf A1 + (k + 1) * 2) rfl sl35 rfl rfl (by omega) (by omega) th25 rfl) (d_main rfl (s_stO (i := k + 1) (a := x19) rfl rfl rfl ty106 rfl rfl rfl H (by simp only [List.length_set]; omega) rfl (fun w H => ?_)))
    replace H := H.h1 (A := osl kPair (.slice A1 xs.length c2) ((ys.set k x16).set (k + 1) x19))
    exact d_back ⟨_, H⟩ (d_nil (q_blockN (q_then (c_reg (s_1 rfl (s_val rfl rfl (r_add (z := ((k + 1 : Nat) : Int)) rfl rfl rfl (by rw [w64 (by omega) (by omega)]; omega)) (s_1 rfl (s_nil (q_round (s := (k, ys)) (k + 1, (ys.set k x16).set (k + 1) x19) ⟨rfl, rfl, rfl, rfl, rfl, rfl, rfl, trivial⟩ ⟨H, by (try dsimp only); omega, via_up' hm (by omega) hv hx20 hx17⟩ (by (try dsimp only); omega))))))))))
   ·refine c_exit (q_thenE (q_thenE (q_blockE (q_then (c_ret (q_thenR (q_ret0 rfl ?_)))))))
    obtain rfl : j = i := by omega
    obtain rfl : j = k + 1 := by omega
    exact fin ⟨_, rfl, merge_left' hm hv (by omega) (by omega) (by omega) hs2 hx0 hlow hup⟩ H
 ·refine c_skip (q_then (c_seq (c_seq (c_reg (s_k 2 rfl (s_val rfl rfl (r_sub (z := ((b - m : Nat) : Int)) rfl rfl rfl (by rw [w64 (by omega) (by omega)]; omega)) (s_val rfl rfl (r_eq rfl rfl rfl) (s_nil (q_then ?_)))))))))
  refine c_dec rfl (fun h26 => ?_) (fun h26 => ?_)
  ·refine c_seq ?_
   have hm : b = m + 1 := by omega
   obtain ⟨x0, hx0⟩ : ∃ z9, xs[m]? = some z9 := ⟨_, List.getElem?_eq_getElem (show m < xs.length by omega)⟩
   refine c_reg (s_k 2 rfl (s_nil (q_then (c_seq (c_reg (s_k 2 rfl (s_nil (q_then (c_seq (c_block (c_loop (σ := Nat × Nat) (fun (i, j) => [(0, .slice A1 xs.length c2), (1, .int .i64 ((a : Nat) : Int)), (2, .int .i64 ((m : Nat) : Int)), (3, .int .i64 ((b : Nat) : Int)), (4, .func (.func 209) #[] #[]), (14, .int .i64 ((i : Nat) : Int)), (15, .int .i64 ((j : Nat) : Int))]) (fun (i, j) w => (Hd w0 F0 w [osl kPair (.slice A1 xs.length c2) xs] []) ∧ (a ≤ i ∧ i ≤ j ∧ j ≤ m) ∧ (i = a ∨ ∃ u, xs[i - 1]? = some u ∧ ltS x0.key u.key = false) ∧ (j = m ∨ ∃ u, xs[j]? = some u ∧ ltS x0.key u.key = true)) (fun (i, j) => j - i) (a, m) ⟨rfl, rfl, rfl, rfl, rfl, rfl, rfl, trivial⟩ ⟨H, by (try dsimp only); omega, .inl rfl, .inl rfl⟩ ?_)))))))))))
   rintro ⟨i, j⟩ w ⟨H, hij, hlow, hup⟩
   refine c_seq (c_seq (c_reg (s_k 2 rfl (s_val rfl rfl (r_lt rfl rfl rfl) (s_nil (q_then ?_))))))
   refine c_dec rfl (fun h27 => ?_) (fun h27 => ?_)
   ·refine c_skip (q_then (c_block (c_seq (c_reg (s_k 2 rfl (s_val rfl rfl (r_add (z := ((i + j : Nat) : Int)) rfl rfl rfl (by rw [w64 (by omega) (by omega)]; omega)) (s_val rfl rfl (r_i2i (z := ((i + j : Nat) : Int)) rfl rfl un3 un158 (wu64 (by omega) (by omega))) (s_val rfl rfl (r_shr (z := (((i + j) / 2 : Nat) : Int)) rfl rfl rfl (by omega) (half_u64 _)) (s_val rfl rfl (r_i2i (z := (((i + j) / 2 : Nat) : Int)) rfl rfl un158 un3 (w64 (by omega) (by omega))) (s_1 rfl (s_nil (q_then (c_seq (c_ord (.e 0 (.e 1 (.e 2 (.e 3 (.e 4 (.e 5 (.e 6 (.e 7 (.e 8 (.m 9 (.e 10 (.e 11 .z)))))))))))) (fun w => ∃ Ar, Hd w0 F0 w (osl kPair (.slice A1 xs.length c2) xs :: Ar) []) mo (by kernel_rfl) (fun w H => ⟨_, H⟩) H (fun w H => (d_1 rfl (d_1 rfl (d_1 rfl ?_))))))))))))))))))
    obtain ⟨x28, hx29⟩ : ∃ z9, xs[m]? = some z9 := ⟨_, List.getElem?_eq_getElem (show m < xs.length by omega)⟩
    have th30 := H.thA 0 rfl hx29
    refine d_val rfl rfl rfl (fun w ⟨Ar, H⟩ => r_iaE (p := oOf A1 + m * 2) rfl sl35 rfl rfl (by omega) (by omega) th30 rfl) (d_val rfl rfl rfl (fun w ⟨Ar, H⟩ => r_ldA (cs := [.string x28.key, .string x28.val]) rfl ty106 rfl rfl (H.elsA 0 rfl hx29 rfl)) (d_1 rfl (d_1 rfl ?_)))
    obtain ⟨x31, hx32⟩ : ∃ z9, xs[(i + j) / 2]? = some z9 := ⟨_, List.getElem?_eq_getElem (show (i + j) / 2 < xs.length by omega)⟩
    have th33 := H.thA 0 rfl hx32
    refine d_val rfl rfl rfl (fun w ⟨Ar, H⟩ => r_iaE (p := oOf A1 + ((i + j) / 2) * 2) rfl sl35 rfl rfl (by omega) (by omega) th33 rfl) (d_val rfl rfl rfl (fun w ⟨Ar, H⟩ => r_ldA (cs := [.string x31.key, .string x31.val]) rfl ty106 rfl rfl (H.elsA 0 rfl hx32 rfl)) (d_main rfl (sc (order_ok x28 x31) H l0 rfl rfl (e_val (vs := [.agg #[.string x28.key, .string x28.val], .agg #[.string x31.key, .string x31.val]]) (fs := #[]) (cs := #[]) kn209 rfl rfl rfl) ?_)))
    rintro _ _ w ⟨rfl, rfl⟩ H
    refine d_back ⟨_, H⟩ (d_val rfl rfl rfl (fun w ⟨Ar, H⟩ => r_lt rfl rfl rfl) (d_val rfl rfl rfl (fun w ⟨Ar, H⟩ => r_notP rfl rfl) (d_nil (q_then ?_))))
    refine c_dec rfl (fun h34 => ?_) (fun h34 => ?_)
    ·obtain rfl : x28 = x0 := Option.some.inj (hx29.symm.trans hx0)
     exact c_reg (s_1 rfl (s_val rfl rfl (r_add (z := (((i + j) / 2 + 1 : Nat) : Int)) rfl rfl rfl (by rw [w64 (by omega) (by omega)]; omega)) (s_1 rfl (s_nil (q_blockN (q_round (s := (i, j)) ((i + j) / 2 + 1, j) ⟨rfl, rfl, rfl, rfl, rfl, rfl, rfl, trivial⟩ ⟨H, by (try dsimp only); omega, .inr ⟨x31, by rw [Nat.add_sub_cancel]; exact hx32, cmpK_nneg h34⟩, hup⟩ (by (try dsimp only); omega)))))))
    ·obtain rfl : x28 = x0 := Option.some.inj (hx29.symm.trans hx0)
     exact c_reg (s_k 2 rfl (s_nil (q_blockN (q_round (s := (i, j)) (i, (i + j) / 2) ⟨rfl, rfl, rfl, rfl, rfl, rfl, rfl, trivial⟩ ⟨H, by (try dsimp only); omega, hlow, .inr ⟨x31, hx32, cmpK_neg.1 (Classical.not_not.1 h34)⟩⟩ (by (try dsimp only); omega)))))
   ·refine c_exit (q_thenE (q_thenE (q_blockE (q_then (c_seq (c_seq (c_reg (s_k 2 rfl (s_nil (q_then (c_block (c_loop (σ := Nat × List Pair) (fun (k, ys) => [(0, .slice A1 xs.length c2), (1, .int .i64 ((a : Nat) : Int)), (2, .int .i64 ((m : Nat) : Int)), (3, .int .i64 ((b : Nat) : Int)), (4, .func (.func 209) #[] #[]), (14, .int .i64 ((i : Nat) : Int)), (17, .int .i64 ((k : Nat) : Int))]) (fun (k, ys) w => (Hd w0 F0 w [osl kPair (.slice A1 xs.length c2) ys] []) ∧ (i ≤ k ∧ k ≤ m) ∧ (Via xs ys (rotI k m b))) (fun (k, ys) => k) (m, xs) ⟨rfl, rfl, rfl, rfl, rfl, rfl, rfl, trivial⟩ ⟨H, by (try dsimp only); omega, by rw [hm]; exact via_one' xs m⟩ ?_))))))))))))
    rintro ⟨k, ys⟩ w ⟨H, hk, hv⟩
    have hl := hv.1
    refine c_seq (c_seq (c_reg (s_k 2 rfl (s_val rfl rfl (r_gt rfl rfl rfl) (s_nil (q_then ?_))))))
    refine c_dec rfl (fun h35 => ?_) (fun h35 => ?_)
    ·refine c_skip (q_then (c_seq (c_block (c_ord (.e 0 (.e 1 (.e 2 (.e 3 (.e 4 (.e 5 (.e 6 (.e 7 (.e 8 (.e 10 (.e 11 (.e 12 (.p 9 13 (.e 14 (.m 15 (.e 16 (.m 17 .z))))))))))))))))) (fun w => ∃ Ar, Hd w0 F0 w (Ar) []) mo (by kernel_rfl) (fun w H => ⟨_, H⟩) H (fun w H => (d_1 rfl (d_1 rfl (d_1 rfl (d_1 rfl (d_val rfl rfl rfl (fun w ⟨Ar, H⟩ => r_sub (z := ((k - 1 : Nat) : Int)) rfl rfl rfl (by rw [w64 (by omega) (by omega)]; omega)) (d_1 rfl (d_1 rfl (d_val rfl rfl rfl (fun w ⟨Ar, H⟩ => r_sub (z := ((k - 1 : Nat) : Int)) rfl rfl rfl (by rw [w64 (by omega) (by omega)]; omega)) ?_)))))))))))))
     obtain ⟨x36, hx37⟩ : ∃ z9, ys[k - 1]? = some z9 := ⟨_, List.getElem?_eq_getElem (show k - 1 < ys.length by omega)⟩
     have th38 := H.thA 0 rfl hx37
     refine d_val rfl rfl rfl (fun w ⟨Ar, H⟩ => r_iaE (p := oOf A1 + (k - 1) * 2) rfl sl35 rfl rfl (by omega) (by omega) th38 rfl) (d_1 rfl (d_1 rfl ?_))
     obtain ⟨x39, hx40⟩ : ∃ z9, ys[k]? = some z9 := ⟨_, List.getElem?_eq_getElem (show k < ys.length by omega)⟩
     have th41 := H.thA 0 rfl hx40
     refine d_val rfl rfl rfl (fun w ⟨Ar, H⟩ => r_iaE (p := oOf A1 + k * 2) rfl sl35 rfl rfl (by omega) (by omega) th41 rfl) (d_pair rfl rfl rfl rfl rfl rfl rfl rfl (by decide) (r_ldA (cs := [.string x36.key, .string x36.val]) rfl ty106 rfl rfl (H.elsA 0 rfl hx37 rfl)) (r_ldA (cs := [.string x39.key, .string x39.val]) rfl ty106 rfl rfl (H.elsA 0 rfl hx40 rfl)) ?_)
     have th42 := H.thA 0 rfl hx40
     refine d_val rfl rfl rfl (fun w ⟨Ar, H⟩ => r_iaE (p := oOf A1 + k * 2) rfl sl35 rfl rfl (by omega) (by omega) th42 rfl) (d_main rfl (s_stO (i := k) (a := x36) rfl rfl rfl ty106 rfl rfl rfl H (by omega) rfl (fun w H => ?_)))
     replace H := H.h1 (A := osl kPair (.slice A1 xs.length c2) (ys.set k x36))
     refine d_back ⟨_, H⟩ ?_
     obtain ⟨x43, hx44⟩ : ∃ z9, (ys.set k x36)[k - 1]? = some z9 := ⟨_, List.getElem?_eq_getElem (show k - 1 < (ys.set k x36).length by simp only [List.length_set]; omega)⟩
     have th45 := H.thA 0 rfl hx44
     refine d_val rfl rfl rfl (fun w ⟨Ar, H⟩ => r_iaE (p := oOf A1 + (k - 1) * 2) rfl sl35 rfl rfl (by omega) (by omega) th45 rfl) (d_main rfl (s_stO (i := k - 1) (a := x39) rfl rfl rfl ty106 rfl rfl rfl H (by simp only [List.length_set]; omega) rfl (fun w H => ?_)))
     replace H := H.h1 (A := osl kPair (.slice A1 xs.length c2) ((ys.set k x36).set (k - 1) x39))
     exact d_back ⟨_, H⟩ (d_nil (q_blockN (q_then (c_reg (s_1 rfl (s_val rfl rfl (r_sub (z := ((k - 1 : Nat) : Int)) rfl rfl rfl (by rw [w64 (by omega) (by omega)]; omega)) (s_1 rfl (s_nil (q_round (s := (k, ys)) (k - 1, (ys.set k x36).set (k - 1) x39) ⟨rfl, rfl, rfl, rfl, rfl, rfl, rfl, trivial⟩ ⟨H, by (try dsimp only); omega, via_down' hm (by omega) (by omega) hv hx40 hx37⟩ (by (try dsimp only); omega))))))))))
    ·refine c_exit (q_thenE (q_thenE (q_blockE (q_then (c_ret (q_thenR (q_ret0 rfl ?_)))))))
     obtain rfl : j = i := by omega
     obtain rfl : j = k := by omega
     exact fin ⟨_, rfl, merge_right' hm hv (by omega) (by omega) (by omega) hs1 hx0 hlow hup⟩ H
  ·refine c_skip (q_then (c_seq (c_reg (s_k 2 rfl (s_val rfl rfl (r_add (z := ((a + b : Nat) : Int)) rfl rfl rfl (by rw [w64 (by omega) (by omega)]; omega)) (s_val rfl rfl (r_i2i (z := ((a + b : Nat) : Int)) rfl rfl un3 un158 (wu64 (by omega) (by omega))) (s_val rfl rfl (r_shr (z := (((a + b) / 2 : Nat) : Int)) rfl rfl rfl (by omega) (half_u64 _)) (s_val rfl rfl (r_i2i (z := (((a + b) / 2 : Nat) : Int)) rfl rfl un158 un3 (w64 (by omega) (by omega))) (s_1 rfl (s_nil (q_then (c_seq ?_))))))))))))
   generalize hmd : (a + b) / 2 = md
   refine c_reg (s_k 2 rfl (s_val rfl rfl (r_add (z := ((md + m : Nat) : Int)) rfl rfl rfl (by rw [w64 (by omega) (by omega)]; omega)) (s_1 rfl (s_nil (q_then (c_seq (c_reg (s_k 2 rfl (s_nil (q_then (c_seq (c_seq (c_reg (s_k 2 rfl (s_val rfl rfl (r_gt rfl rfl rfl) (s_nil (q_then ?_)))))))))))))))))
   refine c_dec rfl (fun h46 => ?_) (fun h46 => ?_)
   ·refine c_seq (c_reg (s_k 2 rfl (s_val rfl rfl (r_sub (z := ((md + m - b : Nat) : Int)) rfl rfl rfl (by rw [w64 (by omega) (by omega)]; omega)) (s_1 rfl (s_nil (q_then (c_reg (s_k 2 rfl (s_nil (q_then (c_seq (c_reg (s_1 rfl (s_val rfl rfl (r_sub (z := ((md + m - 1 : Nat) : Int)) rfl rfl rfl (by rw [w64 (by omega) (by omega)]; omega)) (s_1 rfl (s_nil (q_then (c_seq (c_block (c_loop (σ := Nat × Nat) (fun (i, j) => [(0, .slice A1 xs.length c2), (1, .int .i64 ((a : Nat) : Int)), (2, .int .i64 ((m : Nat) : Int)), (3, .int .i64 ((b : Nat) : Int)), (4, .func (.func 209) #[] #[]), (18, .int .i64 ((md : Nat) : Int)), (19, .int .i64 ((md + m : Nat) : Int)), (20, .int .i64 ((i : Nat) : Int)), (21, .int .i64 ((j : Nat) : Int)), (22, .int .i64 ((md + m - 1 : Nat) : Int))]) (fun (i, j) w => (Hd w0 F0 w [osl kPair (.slice A1 xs.length c2) xs] []) ∧ (md + m - b ≤ i ∧ i ≤ j ∧ j ≤ md) ∧ (i = md + m - b ∨ ∃ u v, xs[i - 1]? = some u ∧ xs[md + m - i]? = some v ∧ ltS v.key u.key = false) ∧ (j = md ∨ ∃ u v, xs[md + m - j - 1]? = some u ∧ xs[j]? = some v ∧ ltS u.key v.key = true)) (fun (i, j) => j - i) (md + m - b, md) ⟨rfl, rfl, rfl, rfl, rfl, rfl, rfl, rfl, rfl, rfl, trivial⟩ ⟨H, by (try dsimp only); omega, .inl rfl, .inl rfl⟩ ?_))))))))))))))))))))
    rintro ⟨i, j⟩ w ⟨H, hij, hlow, hup⟩
    refine c_seq (c_seq (c_reg (s_k 2 rfl (s_val rfl rfl (r_lt rfl rfl rfl) (s_nil (q_then ?_))))))
    refine c_dec rfl (fun h47 => ?_) (fun h47 => ?_)
    ·refine c_skip (q_then (c_block (c_seq (c_reg (s_k 2 rfl (s_val rfl rfl (r_add (z := ((i + j : Nat) : Int)) rfl rfl rfl (by rw [w64 (by omega) (by omega)]; omega)) (s_val rfl rfl (r_i2i (z := ((i + j : Nat) : Int)) rfl rfl un3 un158 (wu64 (by omega) (by omega))) (s_val rfl rfl (r_shr (z := (((i + j) / 2 : Nat) : Int)) rfl rfl rfl (by omega) (half_u64 _)) (s_val rfl rfl (r_i2i (z := (((i + j) / 2 : Nat) : Int)) rfl rfl un158 un3 (w64 (by omega) (by omega))) (s_1 rfl (s_nil (q_then (c_seq (c_ord (.e 0 (.e 1 (.e 2 (.e 3 (.e 4 (.e 5 (.e 6 (.e 7 (.e 8 (.e 9 (.e 10 (.m 11 (.e 12 (.e 13 .z)))))))))))))) (fun w => ∃ Ar, Hd w0 F0 w (osl kPair (.slice A1 xs.length c2) xs :: Ar) []) mo (by kernel_rfl) (fun w H => ⟨_, H⟩) H (fun w H => (d_1 rfl (d_1 rfl (d_1 rfl (d_1 rfl (d_val rfl rfl rfl (fun w ⟨Ar, H⟩ => r_sub (z := ((md + m - 1 - ((i + j) / 2) : Nat) : Int)) rfl rfl rfl (by rw [w64 (by omega) (by omega)]; omega)) ?_))))))))))))))))))))
     obtain ⟨x48, hx49⟩ : ∃ z9, xs[md + m - 1 - ((i + j) / 2)]? = some z9 := ⟨_, List.getElem?_eq_getElem (show md + m - 1 - ((i + j) / 2) < xs.length by omega)⟩
     have th50 := H.thA 0 rfl hx49
     refine d_val rfl rfl rfl (fun w ⟨Ar, H⟩ => r_iaE (p := oOf A1 + (md + m - 1 - ((i + j) / 2)) * 2) rfl sl35 rfl rfl (by omega) (by omega) th50 rfl) (d_val rfl rfl rfl (fun w ⟨Ar, H⟩ => r_ldA (cs := [.string x48.key, .string x48.val]) rfl ty106 rfl rfl (H.elsA 0 rfl hx49 rfl)) (d_1 rfl (d_1 rfl ?_)))
     obtain ⟨x51, hx52⟩ : ∃ z9, xs[(i + j) / 2]? = some z9 := ⟨_, List.getElem?_eq_getElem (show (i + j) / 2 < xs.length by omega)⟩
     have th53 := H.thA 0 rfl hx52
     refine d_val rfl rfl rfl (fun w ⟨Ar, H⟩ => r_iaE (p := oOf A1 + ((i + j) / 2) * 2) rfl sl35 rfl rfl (by omega) (by omega) th53 rfl) (d_val rfl rfl rfl (fun w ⟨Ar, H⟩ => r_ldA (cs := [.string x51.key, .string x51.val]) rfl ty106 rfl rfl (H.elsA 0 rfl hx52 rfl)) (d_main rfl (sc (order_ok x48 x51) H l0 rfl rfl (e_val (vs := [.agg #[.string x48.key, .string x48.val], .agg #[.string x51.key, .string x51.val]]) (fs := #[]) (cs := #[]) kn209 rfl rfl rfl) ?_)))
     rintro _ _ w ⟨rfl, rfl⟩ H
     refine d_back ⟨_, H⟩ (d_val rfl rfl rfl (fun w ⟨Ar, H⟩ => r_lt rfl rfl rfl) (d_val rfl rfl rfl (fun w ⟨Ar, H⟩ => r_notP rfl rfl) (d_nil (q_then ?_))))
     refine c_dec rfl (fun h54 => ?_) (fun h54 => ?_)
     ·exact c_reg (s_1 rfl (s_val rfl rfl (r_add (z := (((i + j) / 2 + 1 : Nat) : Int)) rfl rfl rfl (by rw [w64 (by omega) (by omega)]; omega)) (s_1 rfl (s_nil (q_blockN (q_round (s := (i, j)) ((i + j) / 2 + 1, j) ⟨rfl, rfl, rfl, rfl, rfl, rfl, rfl, rfl, rfl, rfl, trivial⟩ ⟨H, by (try dsimp only); omega, .inr ⟨x51, x48, by rw [Nat.add_sub_cancel]; exact hx52, by rw [show md + m - ((i + j) / 2 + 1) = md + m - 1 - (i + j) / 2 by omega]; exact hx49, cmpK_nneg h54⟩, hup⟩ (by (try dsimp only); omega)))))))
     ·exact c_reg (s_k 2 rfl (s_nil (q_blockN (q_round (s := (i, j)) (i, (i + j) / 2) ⟨rfl, rfl, rfl, rfl, rfl, rfl, rfl, rfl, rfl, rfl, trivial⟩ ⟨H, by (try dsimp only); omega, hlow, .inr ⟨x48, x51, by rw [show md + m - (i + j) / 2 - 1 = md + m - 1 - (i + j) / 2 by omega]; exact hx49, hx52, cmpK_neg.1 (Classical.not_not.1 h54)⟩⟩ (by (try dsimp only); omega)))))
    ·refine c_exit (q_thenE (q_thenE (q_blockE (q_then (c_seq ?_)))))
     obtain rfl : j = i := by omega
     have hlow2 : j = a ∨ md + m - j = b ∨ ∃ u v, xs[j - 1]? = some u ∧ xs[md + m - j]? = some v ∧ ltS v.key u.key = false := hlow.elim (fun h => .inr (.inl (by omega))) (fun h => .inr (.inr h))
     have hup2 : j = m ∨ md + m - j = m ∨ ∃ u v, xs[md + m - j - 1]? = some u ∧ xs[j]? = some v ∧ ltS u.key v.key = true := hup.elim (fun h => .inr (.inl (by omega))) (fun h => .inr (.inr h))
     have hbd : a ≤ j ∧ j ≤ m ∧ m ≤ md + m - j ∧ md + m - j ≤ b ∧ md = j + (md + m - j - m) := by omega
     refine c_reg (s_k 2 rfl (s_val rfl rfl (r_sub (z := ((md + m - j : Nat) : Int)) rfl rfl rfl (by rw [w64 (by omega) (by omega)]; omega)) (s_1 rfl (s_nil (q_then ?_)))))
     refine c_cut (σ := List Pair) (fun ys => [(0, .slice A1 xs.length c2), (1, .int .i64 ((a : Nat) : Int)), (2, .int .i64 ((m : Nat) : Int)), (3, .int .i64 ((b : Nat) : Int)), (4, .func (.func 209) #[] #[]), (18, .int .i64 ((md : Nat) : Int)), (20, .int .i64 ((j : Nat) : Int)), (24, .int .i64 ((md + m - j : Nat) : Int))]) (fun ys w => (Hd w0 F0 w [osl kPair (.slice A1 xs.length c2) ys] []) ∧ (Via xs ys (rotI j m (md + m - j)))) ?_ ?_
     ·refine c_seq (c_reg (s_k 2 rfl (s_val rfl rfl (r_lt rfl rfl rfl) (s_1 rfl ?_))))
      refine s_dec (d := 181) rfl (fun h55 => ?_) (fun h55 => ?_)
      ·refine s_k 2 rfl (s_val rfl rfl (r_lt rfl rfl rfl) (s_1 rfl (s_nil (q_then ?_))))
       refine c_dec rfl (fun h56 => ?_) (fun h56 => ?_)
       ·refine c_reg (s_k 5 rfl (sc (rotate_ok (.slice A1 xs.length c2) xs j m (md + m - j) (by omega) (by omega) (by omega) (by omega)) H l0 rfl rfl (e_fn kn306 rfl rfl) ?_))
        rintro _ _ w ⟨ys57, rfl, hv58⟩ H
        exact s_nil (q_cut ys57 ⟨rfl, rfl, rfl, rfl, rfl, rfl, rfl, rfl, trivial⟩ ⟨H, hv58⟩)
       ·exact c_skip (q_cut xs ⟨rfl, rfl, rfl, rfl, rfl, rfl, rfl, rfl, trivial⟩ ⟨H, via_none xs (by omega) (by omega) (by omega)⟩)
      ·exact s_k 4 rfl (s_nil (q_then (c_no rfl (c_skip (q_cut xs ⟨rfl, rfl, rfl, rfl, rfl, rfl, rfl, rfl, trivial⟩ ⟨H, via_none xs (by omega) (by omega) (by omega)⟩)))))
     ·rintro ys w ⟨H, hv⟩
      have hl := hv.1
      have hru := rot_runs hv hbd.1 hbd.2.1 hbd.2.2.1 hbd.2.2.2.1 hbd.2.2.2.2 hs1 hs2
      refine c_cut (σ := List Pair) (fun zs => [(0, .slice A1 xs.length c2), (1, .int .i64 ((a : Nat) : Int)), (2, .int .i64 ((m : Nat) : Int)), (3, .int .i64 ((b : Nat) : Int)), (4, .func (.func 209) #[] #[]), (18, .int .i64 ((md : Nat) : Int)), (20, .int .i64 ((j : Nat) : Int)), (24, .int .i64 ((md + m - j : Nat) : Int))]) (fun zs w => (Hd w0 F0 w [osl kPair (.slice A1 xs.length c2) zs] []) ∧ (Sorts ys zs a md)) ?_ ?_
      ·refine c_seq (c_reg (s_k 2 rfl (s_val rfl rfl (r_lt rfl rfl rfl) (s_1 rfl ?_))))
       refine s_dec (d := 195) rfl (fun h59 => ?_) (fun h59 => ?_)
       ·refine s_k 2 rfl (s_val rfl rfl (r_lt rfl rfl rfl) (s_1 rfl (s_nil (q_then ?_))))
        refine c_dec rfl (fun h60 => ?_) (fun h60 => ?_)
        ·refine c_reg (s_k 5 rfl (sc (ih (.slice A1 xs.length c2) ys a j md (by omega) (by omega) (by omega) (by omega) (by omega) hru.1 hru.2.1) H l0 rfl rfl (e_fn kn278 rfl rfl) ?_))
         rintro _ _ w ⟨ys61, rfl, hv62⟩ H
         exact s_nil (q_cut ys61 ⟨rfl, rfl, rfl, rfl, rfl, rfl, rfl, rfl, trivial⟩ ⟨H, hv62⟩)
        ·exact c_skip (q_cut ys ⟨rfl, rfl, rfl, rfl, rfl, rfl, rfl, rfl, trivial⟩ ⟨H, Sorts.refl (runs_skip hru.1 hru.2.1 (by omega) hbd.1)⟩)
       ·exact s_k 4 rfl (s_nil (q_then (c_no rfl (c_skip (q_cut ys ⟨rfl, rfl, rfl, rfl, rfl, rfl, rfl, rfl, trivial⟩ ⟨H, Sorts.refl (runs_skip hru.1 hru.2.1 (by omega) hbd.1)⟩)))))
      ·rintro zs w ⟨H, hz⟩
       have hl3 := hz.ins.1
       have hr3 : SrtI zs md (md + m - j) := hru.2.2.1.same (fun t h1 h2 => hz.ins.2.1 t (by omega))
       have hr4 : SrtI zs (md + m - j) b := hru.2.2.2.same (fun t h1 h2 => hz.ins.2.1 t (by omega))
       refine c_seq (c_reg (s_k 2 rfl (s_val rfl rfl (r_lt rfl rfl rfl) (s_1 rfl ?_))))
       refine s_dec (d := 209) rfl (fun h63 => ?_) (fun h63 => ?_)
       ·refine s_k 2 rfl (s_val rfl rfl (r_lt rfl rfl rfl) (s_1 rfl (s_nil (q_then ?_))))
        refine c_dec rfl (fun h64 => ?_) (fun h64 => ?_)
        ·refine c_reg (s_k 5 rfl (sc (ih (.slice A1 xs.length c2) zs md (md + m - j) b (by omega) (by omega) (by omega) (by omega) (by omega) hr3 hr4) H l0 rfl rfl (e_fn kn278 rfl rfl) ?_))
         rintro _ _ w ⟨ys65, rfl, hv66⟩ H
         exact s_nil (q_end rfl (fin ⟨_, rfl, merge_parts hv hbd.1 hbd.2.1 hbd.2.2.1 hbd.2.2.2.1 (by omega) hbd.2.2.2.2 hs1 hs2 hlow2 hup2 hz hv66⟩ H))
        ·exact c_skip (q_end rfl (fin ⟨_, rfl, merge_parts hv hbd.1 hbd.2.1 hbd.2.2.1 hbd.2.2.2.1 (by omega) hbd.2.2.2.2 hs1 hs2 hlow2 hup2 hz (Sorts.refl (runs_skip hr3 hr4 (by omega) (by omega)))⟩ H))
       ·exact s_k 4 rfl (s_nil (q_then (c_no rfl (c_skip (q_end rfl (fin ⟨_, rfl, merge_parts hv hbd.1 hbd.2.1 hbd.2.2.1 hbd.2.2.2.1 (by omega) hbd.2.2.2.2 hs1 hs2 hlow2 hup2 hz (Sorts.refl (runs_skip hr3 hr4 (by omega) (by omega)))⟩ H))))))
   ·refine c_seq (c_reg (s_k 2 rfl (s_nil (q_then (c_reg (s_k 2 rfl (s_nil (q_then (c_seq (c_reg (s_1 rfl (s_val rfl rfl (r_sub (z := ((md + m - 1 : Nat) : Int)) rfl rfl rfl (by rw [w64 (by omega) (by omega)]; omega)) (s_1 rfl (s_nil (q_then (c_seq (c_block (c_loop (σ := Nat × Nat) (fun (i, j) => [(0, .slice A1 xs.length c2), (1, .int .i64 ((a : Nat) : Int)), (2, .int .i64 ((m : Nat) : Int)), (3, .int .i64 ((b : Nat) : Int)), (4, .func (.func 209) #[] #[]), (18, .int .i64 ((md : Nat) : Int)), (19, .int .i64 ((md + m : Nat) : Int)), (20, .int .i64 ((i : Nat) : Int)), (21, .int .i64 ((j : Nat) : Int)), (22, .int .i64 ((md + m - 1 : Nat) : Int))]) (fun (i, j) w => (Hd w0 F0 w [osl kPair (.slice A1 xs.length c2) xs] []) ∧ (a ≤ i ∧ i ≤ j ∧ j ≤ m) ∧ (i = a ∨ ∃ u v, xs[i - 1]? = some u ∧ xs[md + m - i]? = some v ∧ ltS v.key u.key = false) ∧ (j = m ∨ ∃ u v, xs[md + m - j - 1]? = some u ∧ xs[j]? = some v ∧ ltS u.key v.key = true)) (fun (i, j) => j - i) (a, m) ⟨rfl, rfl, rfl, rfl, rfl, rfl, rfl, rfl, rfl, rfl, trivial⟩ ⟨H, by (try dsimp only); omega, .inl rfl, .inl rfl⟩ ?_))))))))))))))))))
    rintro ⟨i, j⟩ w ⟨H, hij, hlow, hup⟩
    refine c_seq (c_seq (c_reg (s_k 2 rfl (s_val rfl rfl (r_lt rfl rfl rfl) (s_nil (q_then ?_))))))
    refine c_dec rfl (fun h67 => ?_) (fun h67 => ?_)
    ·refine c_skip (q_then (c_block (c_seq (c_reg (s_k 2 rfl (s_val rfl rfl (r_add (z := ((i + j : Nat) : Int)) rfl rfl rfl (by rw [w64 (by omega) (by omega)]; omega)) (s_val rfl rfl (r_i2i (z := ((i + j : Nat) : Int)) rfl rfl un3 un158 (wu64 (by omega) (by omega))) (s_val rfl rfl (r_shr (z := (((i + j) / 2 : Nat) : Int)) rfl rfl rfl (by omega) (half_u64 _)) (s_val rfl rfl (r_i2i (z := (((i + j) / 2 : Nat) : Int)) rfl rfl un158 un3 (w64 (by omega) (by omega))) (s_1 rfl (s_nil (q_then (c_seq (c_ord (.e 0 (.e 1 (.e 2 (.e 3 (.e 4 (.e 5 (.e 6 (.e 7 (.e 8 (.e 9 (.e 10 (.m 11 (.e 12 (.e 13 .z)))))))))))))) (fun w => ∃ Ar, Hd w0 F0 w (osl kPair (.slice A1 xs.length c2) xs :: Ar) []) mo (by kernel_rfl) (fun w H => ⟨_, H⟩) H (fun w H => (d_1 rfl (d_1 rfl (d_1 rfl (d_1 rfl (d_val rfl rfl rfl (fun w ⟨Ar, H⟩ => r_sub (z := ((md + m - 1 - ((i + j) / 2) : Nat) : Int)) rfl rfl rfl (by rw [w64 (by omega) (by omega)]; omega)) ?_))))))))))))))))))))
     obtain ⟨x68, hx69⟩ : ∃ z9, xs[md + m - 1 - ((i + j) / 2)]? = some z9 := ⟨_, List.getElem?_eq_getElem (show md + m - 1 - ((i + j) / 2) < xs.length by omega)⟩
     have th70 := H.thA 0 rfl hx69
     refine d_val rfl rfl rfl (fun w ⟨Ar, H⟩ => r_iaE (p := oOf A1 + (md + m - 1 - ((i + j) / 2)) * 2) rfl sl35 rfl rfl (by omega) (by omega) th70 rfl) (d_val rfl rfl rfl (fun w ⟨Ar, H⟩ => r_ldA (cs := [.string x68.key, .string x68.val]) rfl ty106 rfl rfl (H.elsA 0 rfl hx69 rfl)) (d_1 rfl (d_1 rfl ?_)))
     obtain ⟨x71, hx72⟩ : ∃ z9, xs[(i + j) / 2]? = some z9 := ⟨_, List.getElem?_eq_getElem (show (i + j) / 2 < xs.length by omega)⟩
     have th73 := H.thA 0 rfl hx72
     refine d_val rfl rfl rfl (fun w ⟨Ar, H⟩ => r_iaE (p := oOf A1 + ((i + j) / 2) * 2) rfl sl35 rfl rfl (by omega) (by omega) th73 rfl) (d_val rfl rfl rfl (fun w ⟨Ar, H⟩ => r_ldA (cs := [.string x71.key, .string x71.val]) rfl ty106 rfl rfl (H.elsA 0 rfl hx72 rfl)) (d_main rfl (sc (order_ok x68 x71) H l0 rfl rfl (e_val (vs := [.agg #[.string x68.key, .string x68.val], .agg #[.string x71.key, .string x71.val]]) (fs := #[]) (cs := #[]) kn209 rfl rfl rfl) ?_)))
     rintro _ _ w ⟨rfl, rfl⟩ H
     refine d_back ⟨_, H⟩ (d_val rfl rfl rfl (fun w ⟨Ar, H⟩ => r_lt rfl rfl rfl) (d_val rfl rfl rfl (fun w ⟨Ar, H⟩ => r_notP rfl rfl) (d_nil (q_then ?_))))
     refine c_dec rfl (fun h74 => ?_) (fun h74 => ?_)
     ·exact c_reg (s_1 rfl (s_val rfl rfl (r_add (z := (((i + j) / 2 + 1 : Nat) : Int)) rfl rfl rfl (by rw [w64 (by omega) (by omega)]; omega)) (s_1 rfl (s_nil (q_blockN (q_round (s := (i, j)) ((i + j) / 2 + 1, j) ⟨rfl, rfl, rfl, rfl, rfl, rfl, rfl, rfl, rfl, rfl, trivial⟩ ⟨H, by (try dsimp only); omega, .inr ⟨x71, x68, by rw [Nat.add_sub_cancel]; exact hx72, by rw [show md + m - ((i + j) / 2 + 1) = md + m - 1 - (i + j) / 2 by omega]; exact hx69, cmpK_nneg h74⟩, hup⟩ (by (try dsimp only); omega)))))))
     ·exact c_reg (s_k 2 rfl (s_nil (q_blockN (q_round (s := (i, j)) (i, (i + j) / 2) ⟨rfl, rfl, rfl, rfl, rfl, rfl, rfl, rfl, rfl, rfl, trivial⟩ ⟨H, by (try dsimp only); omega, hlow, .inr ⟨x68, x71, by rw [show md + m - (i + j) / 2 - 1 = md + m - 1 - (i + j) / 2 by omega]; exact hx69, hx72, cmpK_neg.1 (Classical.not_not.1 h74)⟩⟩ (by (try dsimp only); omega)))))
    ·refine c_exit (q_thenE (q_thenE (q_blockE (q_then (c_seq ?_)))))
     obtain rfl : j = i := by omega
     have hlow2 : j = a ∨ md + m - j = b ∨ ∃ u v, xs[j - 1]? = some u ∧ xs[md + m - j]? = some v ∧ ltS v.key u.key = false := hlow.elim (fun h => .inl (by omega)) (fun h => .inr (.inr h))
     have hup2 : j = m ∨ md + m - j = m ∨ ∃ u v, xs[md + m - j - 1]? = some u ∧ xs[j]? = some v ∧ ltS u.key v.key = true := hup.elim (fun h => .inl (by omega)) (fun h => .inr (.inr h))
     have hbd : a ≤ j ∧ j ≤ m ∧ m ≤ md + m - j ∧ md + m - j ≤ b ∧ md = j + (md + m - j - m) := by omega
     refine c_reg (s_k 2 rfl (s_val rfl rfl (r_sub (z := ((md + m - j : Nat) : Int)) rfl rfl rfl (by rw [w64 (by omega) (by omega)]; omega)) (s_1 rfl (s_nil (q_then ?_)))))
     refine c_cut (σ := List Pair) (fun ys => [(0, .slice A1 xs.length c2), (1, .int .i64 ((a : Nat) : Int)), (2, .int .i64 ((m : Nat) : Int)), (3, .int .i64 ((b : Nat) : Int)), (4, .func (.func 209) #[] #[]), (18, .int .i64 ((md : Nat) : Int)), (20, .int .i64 ((j : Nat) : Int)), (24, .int .i64 ((md + m - j : Nat) : Int))]) (fun ys w => (Hd w0 F0 w [osl kPair (.slice A1 xs.length c2) ys] []) ∧ (Via xs ys (rotI j m (md + m - j)))) ?_ ?_
     ·refine c_seq (c_reg (s_k 2 rfl (s_val rfl rfl (r_lt rfl rfl rfl) (s_1 rfl ?_))))
      refine s_dec (d := 181) rfl (fun h75 => ?_) (fun h75 => ?_)
      ·refine s_k 2 rfl (s_val rfl rfl (r_lt rfl rfl rfl) (s_1 rfl (s_nil (q_then ?_))))
       refine c_dec rfl (fun h76 => ?_) (fun h76 => ?_)
       ·refine c_reg (s_k 5 rfl (sc (rotate_ok (.slice A1 xs.length c2) xs j m (md + m - j) (by omega) (by omega) (by omega) (by omega)) H l0 rfl rfl (e_fn kn306 rfl rfl) ?_))
        rintro _ _ w ⟨ys77, rfl, hv78⟩ H
        exact s_nil (q_cut ys77 ⟨rfl, rfl, rfl, rfl, rfl, rfl, rfl, rfl, trivial⟩ ⟨H, hv78⟩)
       ·exact c_skip (q_cut xs ⟨rfl, rfl, rfl, rfl, rfl, rfl, rfl, rfl, trivial⟩ ⟨H, via_none xs (by omega) (by omega) (by omega)⟩)
      ·exact s_k 4 rfl (s_nil (q_then (c_no rfl (c_skip (q_cut xs ⟨rfl, rfl, rfl, rfl, rfl, rfl, rfl, rfl, trivial⟩ ⟨H, via_none xs (by omega) (by omega) (by omega)⟩)))))
     ·rintro ys w ⟨H, hv⟩
      have hl := hv.1
      have hru := rot_runs hv hbd.1 hbd.2.1 hbd.2.2.1 hbd.2.2.2.1 hbd.2.2.2.2 hs1 hs2
      refine c_cut (σ := List Pair) (fun zs => [(0, .slice A1 xs.length c2), (1, .int .i64 ((a : Nat) : Int)), (2, .int .i64 ((m : Nat) : Int)), (3, .int .i64 ((b : Nat) : Int)), (4, .func (.func 209) #[] #[]), (18, .int .i64 ((md : Nat) : Int)), (20, .int .i64 ((j : Nat) : Int)), (24, .int .i64 ((md + m - j : Nat) : Int))]) (fun zs w => (Hd w0 F0 w [osl kPair (.slice A1 xs.length c2) zs] []) ∧ (Sorts ys zs a md)) ?_ ?_
      ·refine c_seq (c_reg (s_k 2 rfl (s_val rfl rfl (r_lt rfl rfl rfl) (s_1 rfl ?_))))
       refine s_dec (d := 195) rfl (fun h79 => ?_) (fun h79 => ?_)
       ·refine s_k 2 rfl (s_val rfl rfl (r_lt rfl rfl rfl) (s_1 rfl (s_nil (q_then ?_))))
        refine c_dec rfl (fun h80 => ?_) (fun h80 => ?_)
        ·refine c_reg (s_k 5 rfl (sc (ih (.slice A1 xs.length c2) ys a j md (by omega) (by omega) (by omega) (by omega) (by omega) hru.1 hru.2.1) H l0 rfl rfl (e_fn kn278 rfl rfl) ?_))
         rintro _ _ w ⟨ys81, rfl, hv82⟩ H
         exact s_nil (q_cut ys81 ⟨rfl, rfl, rfl, rfl, rfl, rfl, rfl, rfl, trivial⟩ ⟨H, hv82⟩)
        ·exact c_skip (q_cut ys ⟨rfl, rfl, rfl, rfl, rfl, rfl, rfl, rfl, trivial⟩ ⟨H, Sorts.refl (runs_skip hru.1 hru.2.1 (by omega) hbd.1)⟩)
       ·exact s_k 4 rfl (s_nil (q_then (c_no rfl (c_skip (q_cut ys ⟨rfl, rfl, rfl, rfl, rfl, rfl, rfl, rfl, trivial⟩ ⟨H, Sorts.refl (runs_skip hru.1 hru.2.1 (by omega) hbd.1)⟩)))))
      ·rintro zs w ⟨H, hz⟩
       have hl3 := hz.ins.1
       have hr3 : SrtI zs md (md + m - j) := hru.2.2.1.same (fun t h1 h2 => hz.ins.2.1 t (by omega))
       have hr4 : SrtI zs (md + m - j) b := hru.2.2.2.same (fun t h1 h2 => hz.ins.2.1 t (by omega))
       refine c_seq (c_reg (s_k 2 rfl (s_val rfl rfl (r_lt rfl rfl rfl) (s_1 rfl ?_))))
       refine s_dec (d := 209) rfl (fun h83 => ?_) (fun h83 => ?_)
       ·refine s_k 2 rfl (s_val rfl rfl (r_lt rfl rfl rfl) (s_1 rfl (s_nil (q_then ?_))))
        refine c_dec rfl (fun h84 => ?_) (fun h84 => ?_)
        ·refine c_reg (s_k 5 rfl (sc (ih (.slice A1 xs.length c2) zs md (md + m - j) b (by omega) (by omega) (by omega) (by omega) (by omega) hr3 hr4) H l0 rfl rfl (e_fn kn278 rfl rfl) ?_))
         rintro _ _ w ⟨ys85, rfl, hv86⟩ H
         exact s_nil (q_end rfl (fin ⟨_, rfl, merge_parts hv hbd.1 hbd.2.1 hbd.2.2.1 hbd.2.2.2.1 (by omega) hbd.2.2.2.2 hs1 hs2 hlow2 hup2 hz hv86⟩ H))
        ·exact c_skip (q_end rfl (fin ⟨_, rfl, merge_parts hv hbd.1 hbd.2.1 hbd.2.2.1 hbd.2.2.2.1 (by omega) hbd.2.2.2.2 hs1 hs2 hlow2 hup2 hz (Sorts.refl (runs_skip hr3 hr4 (by omega) (by omega)))⟩ H))
       ·exact s_k 4 rfl (s_nil (q_then (c_no rfl (c_skip (q_end rfl (fin ⟨_, rfl, merge_parts hv hbd.1 hbd.2.1 hbd.2.2.1 hbd.2.2.2.1 (by omega) hbd.2.2.2.2 hs1 hs2 hlow2 hup2 hz (Sorts.refl (runs_skip hr3 hr4 (by omega) (by omega)))⟩ H))))))
theorem symMerge_all : ∀ (N : Nat) (v : Value) (xs : List Pair) (a m b : Nat), b - a < N → a < m → m < b → b ≤ xs.length → xs.length ≤ 1000000 → SrtI xs a m → SrtI xs m b → Cn Tryz.prog 278 [v, .int .i64 ((a : Nat) : Int), .int .i64 ((m : Nat) : Int), .int .i64 ((b : Nat) : Int), .func (.func 209) #[] #[]] [osl kPair v xs] [] (fun _ Bs => ∃ ys, Bs = [osl kPair v ys] ∧ Sorts xs ys a b)
 | 0, _, _, _, _, _, h => absurd h (Nat.not_lt_zero _)
 | N + 1, v, xs, a, m, b, h => fun h1 h2 h3 h4 h5 h6 => symMerge_step N (symMerge_all N) v xs a m b h h1 h2 h3 h4 h5 h6

set_option maxHeartbeats 1000000 in
theorem stable_ok (v : Value) (xs : List Pair) (n : Nat) (hn : n = xs.length) (hb : xs.length ≤ 1000000) :
    Cn Tryz.prog 244 [v, .int .i64 ((n : Nat) : Int), .func (.func 209) #[] #[]] [osl kPair v xs] [] (fun _ Bs => ∃ ys, Bs = [osl kPair v ys] ∧ ys = srt xs) := by
 intro w0 F0 H
 obtain ⟨A1, c2, rfl, hc3, hm4, hp5⟩ := H.fA 0 rfl
 refine enter Tryz.func244 rfl rfl (Nat.le_of_ble_eq_true rfl) (c_seq (c_reg (s_1 rfl (s_nil (q_then ?_)))))
 replace H : Hd _ _ _ [osl kPair (.slice A1 xs.length c2) xs] [] := H
 refine c_seq (c_reg (s_k 3 rfl (s_nil (q_then (c_seq (c_block (c_loop (σ := Nat × List Pair) (fun (a, ys) => [(0, .slice A1 xs.length c2), (1, .int .i64 ((n : Nat) : Int)), (2, .func (.func 209) #[] #[]), (6, .int .i64 20), (7, .int .i64 ((a : Nat) : Int)), (8, .int .i64 ((a + 20 : Nat) : Int))]) (fun (a, ys) w => (Hd w0 F0 w [osl kPair (.slice A1 xs.length c2) ys] []) ∧ (a % 20 = 0 ∧ a ≤ n ∧ ys.length = xs.length) ∧ (Stab xs ys) ∧ (BlkS ys 0 a 20)) (fun (a, ys) => n - a) (0, xs) ⟨rfl, rfl, rfl, rfl, rfl, rfl, trivial⟩ ⟨H, by (try dsimp only); omega, Stab.refl _, BlkS.nil _ _⟩ ?_)))))))
 rintro ⟨a, ys⟩ w ⟨H, ha, hst, hbl⟩
 refine c_seq (c_seq (c_reg (s_k 2 rfl (s_val rfl rfl (r_le rfl rfl rfl) (s_nil (q_then ?_))))))
 refine c_dec rfl (fun h6 => ?_) (fun h6 => ?_)
 ·refine c_skip (q_then (c_block (c_seq (c_reg (s_k 4 rfl (sc (insSort_ok (.slice A1 xs.length c2) ys a (a + 20) (by omega) (by omega) (by omega)) H l0 rfl rfl (e_fn kn277 rfl rfl) ?_))))))
  rintro _ _ w ⟨ys7, rfl, hv8⟩ H
  replace H := H.h1 (A := osl kPair (.slice A1 xs.length c2) ys7)
  exact s_nil (q_then (c_seq (c_reg (s_k 2 rfl (s_nil (q_then (c_reg (s_k 2 rfl (s_val rfl rfl (r_add (z := ((a + 20 + 20 : Nat) : Int)) rfl rfl rfl (by rw [w64 (by omega) (by omega)]; omega)) (s_1 rfl (s_nil (q_blockN (q_round (s := (a, ys)) (a + 20, ys7) ⟨rfl, rfl, rfl, rfl, rfl, rfl, trivial⟩ ⟨H, by (try dsimp only); rw [hv8.ins.1]; omega, hst.trans hv8.stab, hbl.more (c := a / 20) (by omega) (Nat.le_refl _) hv8.ins hv8.srt⟩ (by (try dsimp only); omega))))))))))))))
 ·refine c_exit (q_thenE (q_thenE (q_blockE (q_then (c_seq (c_reg (s_k 4 rfl (sc (insSort_ok (.slice A1 xs.length c2) ys a n (by omega) (by omega) (by omega)) H l0 rfl rfl (e_fn kn277 rfl rfl) ?_))))))))
  rintro _ _ w ⟨ys9, rfl, hv10⟩ H
  replace H := H.h1 (A := osl kPair (.slice A1 xs.length c2) ys9)
  refine s_nil (q_then (c_block (c_loop (σ := Nat × List Pair) (fun (bs, ys) => [(0, .slice A1 xs.length c2), (1, .int .i64 ((n : Nat) : Int)), (2, .func (.func 209) #[] #[]), (6, .int .i64 ((bs : Nat) : Int))]) (fun (bs, ys) w => (Hd w0 F0 w [osl kPair (.slice A1 xs.length c2) ys] []) ∧ (20 ≤ bs ∧ bs ≤ 4000000 ∧ ys.length = xs.length) ∧ (Stab xs ys) ∧ (BlkS ys 0 n bs)) (fun (bs, ys) => n - bs) (20, ys9) ⟨rfl, rfl, rfl, rfl, trivial⟩ ⟨H, by (try dsimp only); rw [hv10.ins.1]; omega, hst.trans hv10.stab, hbl.more (c := a / 20) (by omega) (by omega) hv10.ins hv10.srt⟩ ?_)))
  rintro ⟨bs, ys⟩ w ⟨H, hbs, hst2, hbl2⟩
  refine c_seq (c_seq (c_reg (s_k 2 rfl (s_val rfl rfl (r_lt rfl rfl rfl) (s_nil (q_then ?_))))))
  refine c_dec rfl (fun h11 => ?_) (fun h11 => ?_)
  ·refine c_skip (q_then (c_block (c_seq (c_reg (s_1 rfl (s_val rfl rfl (r_mul (z := ((2 * bs : Nat) : Int)) rfl rfl rfl (by rw [w64 (by omega) (by omega)]; omega)) (s_k 2 rfl (s_nil (q_then (c_seq (c_block (c_loop (σ := Nat × List Pair) (fun (a, zs) => [(0, .slice A1 xs.length c2), (1, .int .i64 ((n : Nat) : Int)), (2, .func (.func 209) #[] #[]), (6, .int .i64 ((bs : Nat) : Int)), (7, .int .i64 ((a : Nat) : Int)), (8, .int .i64 ((a + 2 * bs : Nat) : Int))]) (fun (a, zs) w => (Hd w0 F0 w [osl kPair (.slice A1 xs.length c2) zs] []) ∧ (a ≤ n ∧ zs.length = xs.length) ∧ (∃ c, a = c * (2 * bs)) ∧ (Stab xs zs) ∧ (BlkS zs 0 a (2 * bs)) ∧ (BlkS zs a n bs)) (fun (a, zs) => n - a) (0, ys) ⟨rfl, rfl, rfl, rfl, rfl, congrArg (fun z => some (Value.int .i64 z)) (by (try dsimp only); omega), trivial⟩ ⟨H, by (try dsimp only); omega, ⟨0, by simp⟩, hst2, BlkS.nil _ _, hbl2⟩ ?_))))))))))))
   rintro ⟨a, zs⟩ w ⟨H, ha3, hac, hst3, hlo, hhi⟩
   refine c_seq (c_seq (c_reg (s_k 2 rfl (s_val rfl rfl (r_le rfl rfl rfl) (s_nil (q_then ?_))))))
   refine c_dec rfl (fun h12 => ?_) (fun h12 => ?_)
   ·refine c_skip (q_then (c_block (c_seq (c_reg (s_k 4 rfl (s_val rfl rfl (r_add (z := ((a + bs : Nat) : Int)) rfl rfl rfl (by rw [w64 (by omega) (by omega)]; omega)) (s_k 2 rfl (sc (symMerge_all (a + 2 * bs - a + 1) (.slice A1 xs.length c2) zs a (a + bs) (a + 2 * bs) (by omega) (by omega) (by omega) (by omega) (by omega) (blk_two hhi hac (by omega)).1 ((blk_two hhi hac (by omega)).2 _ (by omega) (by omega))) H l0 rfl rfl (e_fn kn278 rfl rfl) ?_))))))))
    rintro _ _ w ⟨ys13, rfl, hv14⟩ H
    replace H := H.h1 (A := osl kPair (.slice A1 xs.length c2) ys13)
    exact s_nil (q_then (c_seq (c_reg (s_k 2 rfl (s_nil (q_then (c_reg (s_k 2 rfl (s_val rfl rfl (r_mul (z := ((2 * bs : Nat) : Int)) rfl rfl rfl (by rw [w64 (by omega) (by omega)]; omega)) (s_val rfl rfl (r_add (z := ((a + 2 * bs + 2 * bs : Nat) : Int)) rfl rfl rfl (by rw [w64 (by omega) (by omega)]; omega)) (s_1 rfl (s_nil (q_blockN (q_round (s := (a, zs)) (a + 2 * bs, ys13) ⟨rfl, rfl, rfl, rfl, rfl, rfl, trivial⟩ ⟨H, by (try dsimp only); rw [hv14.ins.1]; omega, mul_next hac, hst3.trans hv14.stab, blk_next hlo hac (Nat.le_refl _) hv14, hhi.same (by omega) (fun t ht => hv14.ins.2.1 t (by omega))⟩ (by (try dsimp only); omega)))))))))))))))
   ·refine c_exit (q_thenE (q_thenE (q_blockE (q_then (c_seq (c_seq (c_reg (s_k 2 rfl (s_val rfl rfl (r_add (z := ((a + bs : Nat) : Int)) rfl rfl rfl (by rw [w64 (by omega) (by omega)]; omega)) (s_1 rfl (s_nil (q_then (c_seq (c_reg (s_k 2 rfl (s_val rfl rfl (r_lt rfl rfl rfl) (s_nil (q_then ?_))))))))))))))))))
    refine c_dec rfl (fun h15 => ?_) (fun h15 => ?_)
    ·refine c_reg (s_k 5 rfl (sc (symMerge_all (n - a + 1) (.slice A1 xs.length c2) zs a (a + bs) n (by omega) (by omega) (by omega) (by omega) (by omega) (blk_two hhi hac (by omega)).1 ((blk_two hhi hac (by omega)).2 _ (by omega) (by omega))) H l0 rfl rfl (e_fn kn278 rfl rfl) ?_))
     rintro _ _ w ⟨ys16, rfl, hv17⟩ H
     replace H := H.h1 (A := osl kPair (.slice A1 xs.length c2) ys16)
     refine s_nil (q_then ?_)
     have hfin := blk_next hlo hac (by omega) hv17
     have hlen4 := hv17.ins.1
     exact c_reg (s_1 rfl (s_val rfl rfl (r_mul (z := ((bs * 2 : Nat) : Int)) rfl rfl rfl (by rw [w64 (by omega) (by omega)]; omega)) (s_1 rfl (s_nil (q_blockN (q_round (s := (bs, ys)) (bs * 2, ys16) ⟨rfl, rfl, rfl, rfl, trivial⟩ ⟨H, by (try dsimp only); omega, hst3.trans hv17.stab, by (try dsimp only); rw [Nat.mul_comm bs 2]; exact hfin⟩ (by (try dsimp only); omega)))))))
    ·refine c_skip (q_then ?_)
     have hfin := blk_next hlo hac (by omega) (Sorts.refl (blk_rest hhi hac (by omega)))
     exact c_reg (s_1 rfl (s_val rfl rfl (r_mul (z := ((bs * 2 : Nat) : Int)) rfl rfl rfl (by rw [w64 (by omega) (by omega)]; omega)) (s_1 rfl (s_nil (q_blockN (q_round (s := (bs, ys)) (bs * 2, zs) ⟨rfl, rfl, rfl, rfl, trivial⟩ ⟨H, by (try dsimp only); omega, hst3, by (try dsimp only); rw [Nat.mul_comm bs 2]; exact hfin⟩ (by (try dsimp only); omega)))))))
  ·exact c_exit (q_thenE (q_thenE (q_blockE (q_end rfl (fin ⟨_, rfl, srt_of hst2 (SrtI.ord (by rw [hbs.2.2, ← hn]; exact hbl2.all (by omega)))⟩ H)))))
set_option maxHeartbeats 1000000 in
theorem sortStable_ok (v : Value) (xs : List Pair) (hb : xs.length ≤ 1000000) :
    Cn Tryz.prog 208 [v, .func (.func 209) #[] #[]] [osl kPair v xs] [] (fun _ Bs => ∃ ys, Bs = [osl kPair v ys] ∧ ys = srt xs) := by
 intro w0 F0 H
 obtain ⟨A1, c2, rfl, hc3, hm4, hp5⟩ := H.fA 0 rfl
 refine enter Tryz.func208 rfl rfl (Nat.le_of_ble_eq_true rfl) (c_reg (s_k 2 rfl (s_val rfl rfl (r_lenL rfl un35 rfl) (s_1 rfl ?_))))
 replace H : Hd _ _ _ [osl kPair (.slice A1 xs.length c2) xs] [] := H
 refine sc (stable_ok (.slice A1 xs.length c2) xs xs.length (by omega) (by omega)) H l0 rfl rfl (e_fn kn244 rfl rfl) ?_
 rintro _ _ w ⟨ys6, rfl, hv7⟩ H
 exact s_nil (q_end rfl (fin ⟨_, rfl, hv7⟩ H))
set_option maxHeartbeats 1000000 in
theorem clone_ok (vxs : Value) (xs : List Pair) (hb : xs.length ≤ 1000000) :
    Cn Tryz.prog 123 [vxs] [] [rsl kPair vxs xs] (fun v Bs => Bs = [osl kPair v xs]) := by
 intro w0 F0 H
 obtain ⟨A1, c2, rfl, hc3, hm4, hp5⟩ := H.fR 0 rfl
 refine enter Tryz.func123 rfl rfl (Nat.le_of_ble_eq_true rfl) (c_seq (c_reg (s_1 rfl (s_nil (q_then ?_)))))
 replace H : Hd _ _ _ [] [rsl kPair (.slice A1 xs.length c2) xs] := H
 refine c_seq (c_seq (c_reg (s_1 rfl (s_val rfl rfl (r_seq0 rfl un35 rfl rfl) (s_nil (q_then ?_))))))
 refine c_cond (b := (A1 : Option Addr).isNone) rfl (fun h6 => ?_) (fun h6 => ?_)
 ·refine c_seq (c_reg (s_1 rfl (s_nil (q_then (c_ret (q_thenR (q_ret1 rfl rfl ?_)))))))
  obtain rfl := H.nilR 0 rfl h6
  replace H := H.newnil kPair
  exact fin rfl H
 ·refine c_skip (q_then (c_seq (c_reg (s_bsl0 rfl rfl rfl sl35 H (fun b7 w H => (s_1 rfl ?_))))))
  replace H := H.newnilA kPair (some ⟨b7, 0, none⟩)
  refine s_appF (xs := []) (ys := xs) rfl rfl rfl sl35 zr106 rfl (by decide) rfl rfl H (by simp only [List.length_nil]; omega) (fun F hA hR => hR _ (List.mem_of_getElem? (i := 0) rfl)) (fun v8 w H => ?_)
  replace H := H.h2 (A := osl kPair v8 ([] ++ xs)) (B := blk b7 [] 106)
  refine s_1 rfl (s_nil (q_then (c_ret (q_ret1 rfl rfl ?_))))
  rw [List.nil_append] at H
  replace H := H.k1
  exact fin rfl H
set_option maxHeartbeats 1000000 in
theorem pairSort_ok (vxs : Value) (xs : List Pair) (hb : xs.length ≤ 1000000) :
    Cn Tryz.prog 176 [vxs] [] [rsl kPair vxs xs] (fun v Bs => Bs = [osl kPair v (srt xs)]) := by
 intro w0 F0 H
 obtain ⟨A1, c2, rfl, hc3, hm4, hp5⟩ := H.fR 0 rfl
 refine enter Tryz.func176 rfl rfl (Nat.le_of_ble_eq_true rfl) (c_seq (c_reg (s_1 rfl (s_nil (q_then ?_)))))
 replace H : Hd _ _ _ [] [rsl kPair (.slice A1 xs.length c2) xs] := H
 refine c_seq (c_reg (s_1 rfl (sc (clone_ok (.slice A1 xs.length c2) xs (by first | omega | decide)) H (lR 0 rfl l0) rfl rfl (e_fn kn123 rfl rfl) ?_)))
 rintro v6 _ w rfl H
 replace H := H.h1 (A := osl kPair v6 xs)
 refine s_1 rfl (s_nil (q_then (c_seq (c_reg (s_1 rfl (sc (sortStable_ok v6 xs  (by omega)) H l0 rfl rfl (e_fn kn208 rfl rfl) ?_))))))
 rintro _ _ w ⟨ys7, rfl, hv8⟩ H
 replace H := H.h1 (A := osl kPair v6 ys7)
 refine s_nil (q_then (c_seq (c_reg (s_k 2 rfl (s_nil (q_then (c_ret (q_ret1 rfl rfl ?_))))))))
 subst hv8
 exact fin rfl H
theorem sortStr_ok (v : Value) (xs : List ByteArray) (hb : xs.length ≤ 1000000) : Cn Tryz.prog 246 [v] [osl kStr v xs] [] (fun _ Bs => Bs = [osl kStr v (sortS xs)]) :=
 cn_sort (e1 := Value.string) (s := sortS) (fun xs => by simp [sortS]) (by simp [sortS]) (fun p c w => Go.Proofs.Tryz.slices_Sort_string_none p c w) (fun b c xs w hH hbl hl => by
  have h := Go.Proofs.Tryz.slices_Sort_string b 0 c (xs.map ofS) w (holdsS hH) hbl (by simp; omega)
  rw [List.length_map] at h
  refine h.mono ?_
  rintro e w' ⟨h1, n, os, h2⟩
  exact ⟨h1, n, os, by rw [h2, putS]; rfl⟩) v xs hb

theorem compStr_ok (v : Value) (xs : List ByteArray) (hb : xs.length ≤ 1000000) : Cn Tryz.prog 247 [v] [osl kStr v xs] [] (fun u Bs => Bs = [osl kStr u (compS xs)]) :=
 cn_compact (e1 := Value.string) (s := compS) (z := toS []) (fun xs => by have := compact_le (xs.map ofS); simpa [compS] using this) rfl (fun p c w => Go.Proofs.Tryz.slices_Compact_string_empty p c w) (fun b c xs w hH hl hc => by
  have h := Go.Proofs.Tryz.slices_Compact_string b 0 c (xs.map ofS) w (holdsS hH) (by simp; omega) (by simpa using hc)
  rw [List.length_map] at h
  refine h.mono ?_
  rintro e w' ⟨h1, n, h2⟩
  exact ⟨by rw [h1]; simp [compS], n, by rw [h2, putS]; simp [compS]⟩) v xs hb

set_option maxHeartbeats 1000000 in
theorem samePairs_ok (v1 v2 : Value) (xs ys : List Pair) :
    Cn Tryz.prog 25 [v1, v2] [] [rsl kPair v1 xs, rsl kPair v2 ys] (fun v Bs => v = .bool (decide (xs = ys)) ∧ Bs = []) := by
 intro w0 F0 H
 obtain ⟨A1, c2, rfl, hc3, hm4, hp5⟩ := H.fR 0 rfl
 obtain ⟨A6, c7, rfl, hc8, hm9, hp10⟩ := H.fR 1 rfl
 refine enter Tryz.func25 rfl rfl (Nat.le_of_ble_eq_true rfl) (c_seq (c_reg (s_1 rfl (s_nil (q_then ?_)))))
 replace H : Hd _ _ _ [] [rsl kPair (.slice A1 xs.length c2) xs, rsl kPair (.slice A6 ys.length c7) ys] := H
 refine c_seq (c_seq (c_reg (s_1 rfl (s_val rfl rfl (r_lenL rfl un35 rfl) (s_1 rfl (s_val rfl rfl (r_lenL rfl un35 rfl) (s_val rfl rfl (r_ne rfl rfl rfl) (s_nil (q_then ?_)))))))))
 refine c_dec rfl (fun h11 => ?_) (fun h11 => ?_)
 ·refine c_seq (c_reg (s_1 rfl (s_nil (q_then (c_ret (q_thenR (q_ret1 rfl rfl ?_)))))))
  have e : ¬ xs = ys := fun e => h11 (by rw [e])
  exact fin ⟨by rw [decide_eq_false e] <;> rfl, rfl⟩ H
 ·refine c_skip (q_then (c_seq (c_seq (c_reg (s_1 rfl (s_nil (q_then (c_block ?_))))))))
  have hle : xs.length = ys.length := by omega
  refine c_loop (σ := Nat) (fun k => [(0, .slice A1 xs.length c2), (1, .slice A6 ys.length c7), (5, .int .i64 ((k : Nat) : Int))]) (fun k w => (Hd w0 F0 w [] [rsl kPair (.slice A1 xs.length c2) xs, rsl kPair (.slice A6 ys.length c7) ys]) ∧ (k ≤ xs.length) ∧ (xs.length = ys.length) ∧ (xs.take k = ys.take k)) (fun k => xs.length - k) 0 ⟨rfl, rfl, rfl, trivial⟩ ⟨H, by omega, hle, rfl⟩ ?_
  rintro k w ⟨H, hk, hle, ht⟩
  refine c_seq (c_seq (c_reg (s_k 2 rfl (s_val rfl rfl (r_lenL rfl un35 rfl) (s_val rfl rfl (r_lt rfl rfl rfl) (s_nil (q_then ?_)))))))
  refine c_dec rfl (fun h12 => ?_) (fun h12 => ?_)
  ·refine c_skip (q_then (c_seq (c_block (c_seq (c_draw mo (by kernel_rfl) H (u_k 2 rfl ?_))))))
   obtain ⟨x13, hx14⟩ : ∃ z9, xs[k]? = some z9 := ⟨_, List.getElem?_eq_getElem (show k < xs.length by omega)⟩
   have th15 := H.thR 0 rfl hx14
   refine u_val rfl rfl (fun w H => r_iaE (p := oOf A1 + k * 2) rfl sl35 rfl rfl (by omega) (by omega) th15 rfl) (u_val rfl rfl (fun w H => r_ldA (cs := [.string x13.key, .string x13.val]) rfl ty106 rfl rfl (H.elsR 0 rfl hx14 rfl)) (u_k 2 rfl ?_))
   obtain ⟨x16, hx17⟩ : ∃ z9, ys[k]? = some z9 := ⟨_, List.getElem?_eq_getElem (show k < ys.length by omega)⟩
   have th18 := H.thR 1 rfl hx17
   refine u_val rfl rfl (fun w H => r_iaE (p := oOf A6 + k * 2) rfl sl35 rfl rfl (by omega) (by omega) th18 rfl) (u_val rfl rfl (fun w H => r_ldA (cs := [.string x16.key, .string x16.val]) rfl ty106 rfl rfl (H.elsR 1 rfl hx17 rfl)) (u_val rfl rfl (fun w H => r_nePair (p := x13) (q := x16) rfl eqz106 rfl rfl) (u_end (fun w H => (q_then ?_)))))
   refine c_dec rfl (fun h19 => ?_) (fun h19 => ?_)
   ·refine c_seq (c_reg (s_1 rfl (s_nil (q_then (c_ret (q_blockR (q_thenR (q_thenR (q_blockR (q_thenR (q_ret1 rfl rfl ?_)))))))))))
    have e : ¬ xs = ys := fun e => h19 (by rw [e, hx17] at hx14; exact (Option.some.inj hx14).symm)
    exact fin ⟨by rw [decide_eq_false e] <;> rfl, rfl⟩ H
   ·refine c_skip (q_blockN (q_then (c_reg (s_1 rfl (s_val rfl rfl (r_add (z := ((k + 1 : Nat) : Int)) rfl rfl rfl (by rw [w64 (by omega) (by omega)]; omega)) (s_1 rfl (s_nil ?_)))))))
    have e : x13 = x16 := Classical.not_not.1 h19
    subst e
    exact q_round (s := k) (k + 1) ⟨rfl, rfl, rfl, trivial⟩ ⟨H, by omega, hle, take_more hx14 hx17 ht⟩ (by (try dsimp only); omega)
  ·refine c_exit (q_thenE (q_thenE (q_blockE (q_then (c_seq (c_reg (s_1 rfl (s_nil (q_then (c_ret (q_ret1 rfl rfl ?_)))))))))))
   have e : xs = ys := by rw [← take_all (xs := xs) (k := k) (by omega), ← take_all (xs := ys) (k := k) (by omega)]; exact ht
   exact fin ⟨by rw [decide_eq_true e] <;> rfl, rfl⟩ H
set_option maxHeartbeats 1000000 in
theorem greatPairs_ok (vxs : Value) (xs : List Pair) (n : Int) :
    Cn Tryz.prog 23 [vxs, .int .i64 n] [] [rsl kPair vxs xs] (fun v Bs => v = .bool (greatP xs n) ∧ Bs = []) := by
 intro w0 F0 H
 obtain ⟨A1, c2, rfl, hc3, hm4, hp5⟩ := H.fR 0 rfl
 refine enter Tryz.func23 rfl rfl (Nat.le_of_ble_eq_true rfl) (c_seq (c_reg (s_1 rfl (s_nil (q_then ?_)))))
 replace H : Hd _ _ _ [] [rsl kPair (.slice A1 xs.length c2) xs] := H
 refine c_seq (c_seq (c_reg (s_1 rfl (s_nil (q_then (c_block (c_loop (σ := Nat) (fun k => [(0, .slice A1 xs.length c2), (1, .int .i64 n), (5, .int .i64 ((k : Nat) : Int))]) (fun k w => (Hd w0 F0 w [] [rsl kPair (.slice A1 xs.length c2) xs]) ∧ (k ≤ xs.length) ∧ (∀ y ∈ xs.take k, y.key.size ≤ 100 ∧ y.val.size ≤ 100)) (fun k => xs.length - k) 0 ⟨rfl, rfl, rfl, trivial⟩ ⟨H, by omega, by simp⟩ ?_)))))))
 rintro k w ⟨H, hk, hn⟩
 refine c_seq (c_seq (c_reg (s_k 2 rfl (s_val rfl rfl (r_lenL rfl un35 rfl) (s_val rfl rfl (r_lt rfl rfl rfl) (s_1 rfl ?_))))))
 refine s_dec (d := 10) rfl (fun h6 => ?_) (fun h6 => ?_)
 ·refine s_1 rfl (s_val rfl rfl (r_lenL rfl un35 rfl) (s_1 rfl (s_val rfl rfl (r_le rfl rfl rfl) (s_1 rfl (s_nil (q_then ?_))))))
  refine c_dec rfl (fun h7 => ?_) (fun h7 => ?_)
  ·refine c_skip (q_then (c_seq (c_block (c_seq (c_reg (s_k 2 rfl ?_))))))
   obtain ⟨x8, hx9⟩ : ∃ z9, xs[k]? = some z9 := ⟨_, List.getElem?_eq_getElem (show k < xs.length by omega)⟩
   have th10 := H.thR 0 rfl hx9
   refine s_val rfl rfl (r_iaE (p := oOf A1 + k * 2) rfl sl35 rfl rfl (by omega) (by omega) th10 rfl) (s_val rfl rfl (r_fa rfl fo106_0 rfl) (s_val rfl rfl (r_ld rfl ty9 rfl (H.elR 0 rfl hx9 (q := 0) rfl rfl)) (s_val rfl rfl (r_lenS rfl un9 rfl) (s_val rfl rfl (r_gt rfl rfl rfl) (s_1 rfl ?_)))))
   refine s_dec (d := 25) rfl (fun h11 => ?_) (fun h11 => ?_)
   ·exact s_k 8 rfl (s_nil (q_then (c_yes rfl (c_seq (c_reg (s_1 rfl (s_nil (q_then (c_ret (q_blockR (q_thenR (q_thenR (q_blockR (q_thenR (q_ret1 rfl rfl (fin ⟨congrArg Value.bool (greatP_hit hx9 (by omega)), rfl⟩ H))))))))))))))))
   ·refine s_k 2 rfl ?_
    have th12 := H.thR 0 rfl hx9
    refine s_val rfl rfl (r_iaE (p := oOf A1 + k * 2) rfl sl35 rfl rfl (by omega) (by omega) th12 rfl) (s_val rfl rfl (r_fa rfl fo106_1 rfl) (s_val rfl rfl (r_ld rfl ty9 rfl (H.elR 0 rfl hx9 (q := 1) rfl rfl)) (s_val rfl rfl (r_lenS rfl un9 rfl) (s_val rfl rfl (r_gt rfl rfl rfl) (s_1 rfl (s_nil (q_then ?_)))))))
    refine c_dec rfl (fun h13 => ?_) (fun h13 => ?_)
    ·exact c_seq (c_reg (s_1 rfl (s_nil (q_then (c_ret (q_blockR (q_thenR (q_thenR (q_blockR (q_thenR (q_ret1 rfl rfl (fin ⟨congrArg Value.bool (greatP_hit hx9 (by omega)), rfl⟩ H))))))))))))
    ·exact c_skip (q_blockN (q_then (c_reg (s_1 rfl (s_val rfl rfl (r_add (z := ((k + 1 : Nat) : Int)) rfl rfl rfl (by rw [w64 (by omega) (by omega)]; omega)) (s_1 rfl (s_nil (q_round (s := k) (k + 1) ⟨rfl, rfl, rfl, trivial⟩ ⟨H, by (try dsimp only); omega, take_prop hn hx9 (by omega)⟩ (by (try dsimp only); omega)))))))))
  ·exact c_exit (q_thenE (q_thenE (q_blockE (q_then (c_seq (c_reg (s_1 rfl (s_val rfl rfl (r_lenL rfl un35 rfl) (s_1 rfl (s_val rfl rfl (r_gt rfl rfl rfl) (s_1 rfl (s_nil (q_then (c_ret (q_ret1 rfl rfl (fin ⟨congrArg Value.bool (greatP_end hn (by omega)), rfl⟩ H))))))))))))))))
 ·exact s_k 5 rfl (s_nil (q_then (c_no rfl (c_exit (q_thenE (q_thenE (q_blockE (q_then (c_seq (c_reg (s_1 rfl (s_val rfl rfl (r_lenL rfl un35 rfl) (s_1 rfl (s_val rfl rfl (r_gt rfl rfl rfl) (s_1 rfl (s_nil (q_then (c_ret (q_ret1 rfl rfl (fin ⟨congrArg Value.bool (greatP_end hn (by omega)), rfl⟩ H))))))))))))))))))))
set_option maxHeartbeats 1000000 in
theorem pOf_ok (vxs : Value) (xs : List Pair) (key : ByteArray) (hb : xs.length ≤ 1000000) :
    Cn Tryz.prog 212 [vxs, .string key] [] [rsl kPair vxs xs] (fun v Bs => Bs = [osl kStr v (ofL xs key)]) := by
 intro w0 F0 H
 obtain ⟨A1, c2, rfl, hc3, hm4, hp5⟩ := H.fR 0 rfl
 refine enter Tryz.func212 rfl rfl (Nat.le_of_ble_eq_true rfl) (c_seq (c_reg (s_1 rfl (s_nil (q_then ?_)))))
 replace H : Hd _ _ _ [] [rsl kPair (.slice A1 xs.length c2) xs] := H
 refine c_seq (c_reg (s_1 rfl (s_nil (q_then (c_seq (c_seq (c_reg (s_1 rfl (s_val rfl rfl (r_lenL rfl un35 rfl) (s_1 rfl (s_nil (q_then (c_block ?_)))))))))))))
 replace H := H.newnil kStr
 refine c_loop (σ := Nat × Value) (fun (k, l) => [(1, .string key), (4, .slice none 0 0), (5, l), (8, .slice A1 xs.length c2), (9, .int .i64 ((xs.length : Nat) : Int)), (10, .int .i64 ((k : Nat) : Int))]) (fun (k, l) w => (Hd w0 F0 w [osl kStr l (ofL (xs.take k) key)] [rsl kPair (.slice A1 xs.length c2) xs]) ∧ (k ≤ xs.length)) (fun (k, l) => xs.length - k) (0, .slice none 0 0) ⟨rfl, rfl, rfl, rfl, rfl, rfl, trivial⟩ ⟨H, by (try dsimp only); omega⟩ ?_
 rintro ⟨k, l⟩ w ⟨H, hk⟩
 have hjl := ofL_len (xs.take k) key
 have hjt : (xs.take k).length ≤ xs.length := by simp; omega
 refine c_seq (c_reg (s_val rfl rfl (r_lt rfl rfl rfl) (s_nil (q_then (c_seq ?_)))))
 refine c_dec rfl (fun h6 => ?_) (fun h6 => ?_)
 ·refine c_skip (q_then (c_seq (c_block (c_seq (c_reg ?_)))))
  obtain ⟨x7, hx8⟩ : ∃ z9, xs[k]? = some z9 := ⟨_, List.getElem?_eq_getElem (show k < xs.length by omega)⟩
  have th9 := H.thR 0 rfl hx8
  refine s_val rfl rfl (r_iaE (p := oOf A1 + k * 2) rfl sl35 rfl rfl (by omega) (by omega) th9 rfl) (s_val rfl rfl (r_ldA (cs := [.string x7.key, .string x7.val]) rfl ty106 rfl rfl (H.elsR 0 rfl hx8 rfl)) (s_alloc rfl rfl rfl zr106 H (fun b10 w H => (s_st rfl rfl rfl ty106 rfl rfl H rfl (Nat.le_of_ble_eq_true rfl) (fun u hu => by simp [Value.cells] at hu; rcases hu with rfl | rfl <;> rfl) (fun w H => ?_)))))
  replace H := H.h2 (A := blk b10 [.string x7.key, .string x7.val] 106) (B := osl kStr l (ofL (xs.take k) key))
  refine s_nil (q_then (c_seq (c_reg (s_val rfl rfl (r_fa rfl fo106_0 rfl) (s_val rfl rfl (r_ld rfl ty9 rfl (H.cellI 0 rfl rfl)) (s_1 rfl (s_val rfl rfl (r_eqS rfl rfl rfl) (s_nil (q_then ?_)))))))))
  refine c_dec rfl (fun h11 => ?_) (fun h11 => ?_)
  ·refine c_reg (s_1 rfl (s_val rfl rfl (r_fa rfl fo106_1 rfl) (s_val rfl rfl (r_ld rfl ty9 rfl (H.cellI 0 rfl rfl)) (s_bsl (parts := [(0, .tmp 20)]) (vs := [.string x7.val]) (cs := [.string x7.val]) rfl rfl rfl sl241 zr9 rfl (by decide) (by decide) rfl rfl H (fun b12 w H => ?_)))))
   replace H := H.p2
   refine s_appF (xs := ofL (xs.take k) key) (ys := [x7.val]) rfl rfl rfl sl241 zr9 rfl (by decide) rfl rfl H (by omega) (fun F hA hR => blk_rsl (hA _ (List.mem_of_getElem? (i := 0) rfl)) rfl (by decide) (RepsR.flat_eq.2 rfl)) (fun v13 w H => (s_1 rfl (s_nil (q_blockN (q_then ?_)))))
   replace H : Hd _ _ _ [osl kStr v13 ((ofL (xs.take k) key) ++ [x7.val]), blk b12 [.string x7.val] 9, blk b10 [.string x7.key, .string x7.val] 106] [rsl kPair (.slice A1 xs.length c2) xs] := H
   refine c_reg (s_val rfl rfl (r_add (z := ((k + 1 : Nat) : Int)) rfl rfl rfl (by rw [w64 (by omega) (by omega)]; omega)) (s_1 rfl (s_nil ?_)))
   rw [← ofk_yes hx8 h11] at H
   replace H := H.k1
   exact q_round (s := (k, undef)) (k + 1, v13) ⟨rfl, rfl, rfl, rfl, rfl, rfl, trivial⟩ ⟨H, by (try dsimp only); omega⟩ (by (try dsimp only); omega)
  ·refine c_skip (q_blockN (q_then (c_reg (s_val rfl rfl (r_add (z := ((k + 1 : Nat) : Int)) rfl rfl rfl (by rw [w64 (by omega) (by omega)]; omega)) (s_1 rfl (s_nil ?_))))))
   rw [← ofk_no hx8 h11] at H
   replace H := H.sel 2 [1] [0] rfl (by kernel_rfl)
   exact q_round (s := (k, undef)) (k + 1, l) ⟨rfl, rfl, rfl, rfl, rfl, rfl, trivial⟩ ⟨H, by (try dsimp only); omega⟩ (by (try dsimp only); omega)
 ·refine c_exit (q_thenE (q_thenE (q_blockE (q_then (c_seq (c_reg (s_k 2 rfl (s_nil (q_then (c_ret (q_ret1 rfl rfl ?_)))))))))))
  rw [List.take_of_length_le (show xs.length ≤ k by omega)] at H
  exact fin rfl H
set_option maxHeartbeats 1000000 in
theorem pKeys_ok (vxs : Value) (xs : List Pair) (hb : xs.length ≤ 1000000) :
    Cn Tryz.prog 211 [vxs] [] [rsl kPair vxs xs] (fun v Bs => Bs = [osl kStr v (keysL xs)]) := by
 intro w0 F0 H
 obtain ⟨A1, c2, rfl, hc3, hm4, hp5⟩ := H.fR 0 rfl
 refine enter Tryz.func211 rfl rfl (Nat.le_of_ble_eq_true rfl) (c_seq (c_reg (s_1 rfl (s_nil (q_then ?_)))))
 replace H : Hd _ _ _ [] [rsl kPair (.slice A1 xs.length c2) xs] := H
 refine c_seq (c_reg (s_1 rfl (s_nil (q_then (c_seq (c_seq (c_reg (s_1 rfl (s_val rfl rfl (r_lenL rfl un35 rfl) (s_1 rfl (s_nil (q_then (c_block ?_)))))))))))))
 replace H := H.newnil kStr
 refine c_loop (σ := Nat × Value) (fun (k, l) => [(2, .slice none 0 0), (3, l), (6, .slice A1 xs.length c2), (7, .int .i64 ((xs.length : Nat) : Int)), (8, .int .i64 ((k : Nat) : Int))]) (fun (k, l) w => (Hd w0 F0 w [osl kStr l ((xs.take k).map (·.key))] [rsl kPair (.slice A1 xs.length c2) xs]) ∧ (k ≤ xs.length)) (fun (k, l) => xs.length - k) (0, .slice none 0 0) ⟨rfl, rfl, rfl, rfl, rfl, trivial⟩ ⟨H, by (try dsimp only); omega⟩ ?_
 rintro ⟨k, l⟩ w ⟨H, hk⟩
 have hjt : ((xs.take k).map (·.key)).length ≤ xs.length := by simp; omega
 refine c_seq (c_reg (s_val rfl rfl (r_lt rfl rfl rfl) (s_nil (q_then (c_seq ?_)))))
 refine c_dec rfl (fun h6 => ?_) (fun h6 => ?_)
 ·refine c_skip (q_then (c_seq (c_block (c_seq (c_reg ?_)))))
  obtain ⟨x7, hx8⟩ : ∃ z9, xs[k]? = some z9 := ⟨_, List.getElem?_eq_getElem (show k < xs.length by omega)⟩
  have th9 := H.thR 0 rfl hx8
  refine s_val rfl rfl (r_iaE (p := oOf A1 + k * 2) rfl sl35 rfl rfl (by omega) (by omega) th9 rfl) (s_val rfl rfl (r_ldA (cs := [.string x7.key, .string x7.val]) rfl ty106 rfl rfl (H.elsR 0 rfl hx8 rfl)) (s_alloc rfl rfl rfl zr106 H (fun b10 w H => (s_st rfl rfl rfl ty106 rfl rfl H rfl (Nat.le_of_ble_eq_true rfl) (fun u hu => by simp [Value.cells] at hu; rcases hu with rfl | rfl <;> rfl) (fun w H => ?_)))))
  replace H := H.h2 (A := blk b10 [.string x7.key, .string x7.val] 106) (B := osl kStr l ((xs.take k).map (·.key)))
  refine s_nil (q_then (c_reg (s_1 rfl (s_val rfl rfl (r_fa rfl fo106_0 rfl) (s_val rfl rfl (r_ld rfl ty9 rfl (H.cellI 0 rfl rfl)) (s_bsl (parts := [(0, .tmp 14)]) (vs := [.string x7.key]) (cs := [.string x7.key]) rfl rfl rfl sl241 zr9 rfl (by decide) (by decide) rfl rfl H (fun b11 w H => ?_)))))))
  replace H := H.p2
  refine s_appF (xs := (xs.take k).map (·.key)) (ys := [x7.key]) rfl rfl rfl sl241 zr9 rfl (by decide) rfl rfl H (by omega) (fun F hA hR => blk_rsl (hA _ (List.mem_of_getElem? (i := 0) rfl)) rfl (by decide) (RepsR.flat_eq.2 rfl)) (fun v12 w H => (s_1 rfl (s_nil (q_blockN (q_then ?_)))))
  replace H : Hd _ _ _ [osl kStr v12 (((xs.take k).map (·.key)) ++ [x7.key]), blk b11 [.string x7.key] 9, blk b10 [.string x7.key, .string x7.val] 106] [rsl kPair (.slice A1 xs.length c2) xs] := H
  refine c_reg (s_val rfl rfl (r_add (z := ((k + 1 : Nat) : Int)) rfl rfl rfl (by rw [w64 (by omega) (by omega)]; omega)) (s_1 rfl (s_nil ?_)))
  rw [← keyk hx8] at H
  replace H := H.k1
  exact q_round (s := (k, undef)) (k + 1, v12) ⟨rfl, rfl, rfl, rfl, rfl, trivial⟩ ⟨H, by (try dsimp only); omega⟩ (by (try dsimp only); omega)
 ·refine c_exit (q_thenE (q_thenE (q_blockE (q_then (c_seq (c_reg (s_1 rfl (sc (sortStr_ok l ((xs.take k).map (·.key)) (by first | omega | (rw [sortS_len]; omega))) H l0 rfl rfl (e_fn kn246 rfl rfl) ?_))))))))
  rintro v13 _ w rfl H
  replace H := H.h1 (A := osl kStr l (sortS ((xs.take k).map (·.key))))
  refine s_nil (q_then (c_seq (c_reg (s_1 rfl (sc (compStr_ok l (sortS ((xs.take k).map (·.key))) (by first | omega | (rw [sortS_len]; omega))) H l0 rfl rfl (e_fn kn247 rfl rfl) ?_)))))
  rintro v14 _ w rfl H
  replace H := H.h1 (A := osl kStr v14 (compS (sortS ((xs.take k).map (·.key)))))
  refine s_1 rfl (s_nil (q_then (c_ret (q_ret1 rfl rfl ?_))))
  rw [List.take_of_length_le (show xs.length ≤ k by omega)] at H
  exact fin rfl H
set_option maxHeartbeats 1000000 in
theorem indexFP_ok (f : FuncId) (cap : List Value) (Ex : List SP) (p : Pair → Bool) (hkf : Known Tryz.prog f) (hp : ∀ x, Cn Tryz.prog f ([.agg #[.string x.key, .string x.val]] ++ cap) [] Ex (fun v Bs => v = .bool (p x) ∧ Bs = [])) (v : Value) (xs : List Pair) :
    Cn Tryz.prog 206 [v, .func (.func f) #[] (cap).toArray] [] (rsl kPair v xs :: Ex) (fun v Bs => v = .int .i64 (fidx p xs) ∧ Bs = []) := by
 intro w0 F0 H
 obtain ⟨A1, c2, rfl, hc3, hm4, hp5⟩ := H.fR 0 rfl
 refine enter Tryz.func206 rfl rfl (Nat.le_of_ble_eq_true rfl) (c_seq (c_reg (s_1 rfl (s_nil (q_then ?_)))))
 replace H : Hd _ _ _ [] (rsl kPair (.slice A1 xs.length c2) xs :: Ex) := H
 refine c_seq (c_seq (c_reg (s_1 rfl (s_val rfl rfl (r_lenL rfl un35 rfl) (s_1 rfl (s_nil (q_then (c_block (c_loop (σ := Nat) (fun k => [(0, .slice A1 xs.length c2), (1, .func (.func f) #[] (cap).toArray), (7, .int .i64 ((xs.length : Nat) : Int)), (8, .int .i64 ((k : Nat) : Int))]) (fun k w => (Hd w0 F0 w [] (rsl kPair (.slice A1 xs.length c2) xs :: Ex)) ∧ (k ≤ xs.length) ∧ (∀ y ∈ xs.take k, p y = false)) (fun k => xs.length - k) 0 ⟨rfl, rfl, rfl, rfl, trivial⟩ ⟨H, by omega, by simp⟩ ?_)))))))))
 rintro k w ⟨H, hk, hn⟩
 refine c_seq (c_reg (s_val rfl rfl (r_lt rfl rfl rfl) (s_nil (q_then (c_seq ?_)))))
 refine c_dec rfl (fun h6 => ?_) (fun h6 => ?_)
 ·refine c_skip (q_then (c_seq (c_block (c_seq (c_reg (s_k 2 rfl (s_nil (q_then (c_seq (c_reg (s_k 3 rfl ?_)))))))))))
  obtain ⟨x7, hx8⟩ : ∃ z9, xs[k]? = some z9 := ⟨_, List.getElem?_eq_getElem (show k < xs.length by omega)⟩
  have th9 := H.thR 0 rfl hx8
  refine s_val rfl rfl (r_iaE (p := oOf A1 + k * 2) rfl sl35 rfl rfl (by omega) (by omega) th9 rfl) (s_val rfl rfl (r_ldA (cs := [.string x7.key, .string x7.val]) rfl ty106 rfl rfl (H.elsR 0 rfl hx8 rfl)) (sc (hp x7) H (fun S hS F hA hR => hR S (List.mem_cons_of_mem _ hS)) rfl rfl (e_val (vs := [.agg #[.string x7.key, .string x7.val]]) (fs := #[]) (cs := cap.toArray) hkf rfl rfl rfl) ?_))
  rintro _ _ w ⟨rfl, rfl⟩ H
  refine s_nil (q_then ?_)
  refine c_cond (b := p x7) rfl (fun h10 => ?_) (fun h10 => ?_)
  ·exact c_seq (c_reg (s_k 2 rfl (s_nil (q_then (c_ret (q_blockR (q_thenR (q_thenR (q_blockR (q_thenR (q_ret1 rfl rfl (fin ⟨by rw [fidx_hit hn hx8 h10] <;> rfl, rfl⟩ H))))))))))))
  ·exact c_skip (q_blockN (q_then (c_reg (s_val rfl rfl (r_add (z := ((k + 1 : Nat) : Int)) rfl rfl rfl (by rw [w64 (by omega) (by omega)]; omega)) (s_1 rfl (s_nil (q_round (s := k) (k + 1) ⟨rfl, rfl, rfl, rfl, trivial⟩ ⟨H, by omega, take_false hn hx8 h10⟩ (by (try dsimp only); omega))))))))
 ·refine c_exit (q_thenE (q_thenE (q_blockE (q_then (c_seq (c_reg (s_1 rfl (s_nil (q_then (c_ret (q_ret1 rfl rfl ?_)))))))))))
  have hn2 : ∀ y ∈ xs, p y = false := by rw [← take_all (xs := xs) (k := k) (by omega)]; exact hn
  exact fin ⟨by rw [fidx_miss hn2] <;> rfl, rfl⟩ H
set_option maxHeartbeats 1000000 in
theorem containsFP_ok (f : FuncId) (cap : List Value) (Ex : List SP) (p : Pair → Bool) (hkf : Known Tryz.prog f) (hp : ∀ x, Cn Tryz.prog f ([.agg #[.string x.key, .string x.val]] ++ cap) [] Ex (fun v Bs => v = .bool (p x) ∧ Bs = [])) (v : Value) (xs : List Pair) :
    Cn Tryz.prog 173 [v, .func (.func f) #[] (cap).toArray] [] (rsl kPair v xs :: Ex) (fun v Bs => v = .bool (xs.any p) ∧ Bs = []) := by
 intro w0 F0 H
 refine enter Tryz.func173 rfl rfl (Nat.le_of_ble_eq_true rfl) (c_seq (c_reg (s_1 rfl (s_nil (q_then (c_seq (c_reg (s_k 2 rfl (sc (indexFP_ok f cap Ex p hkf hp v xs) H lAll rfl rfl (e_fn kn206 rfl rfl) ?_)))))))))
 rintro _ _ w ⟨rfl, rfl⟩ H
 exact s_val rfl rfl (r_ge rfl rfl rfl) (s_1 rfl (s_nil (q_then (c_ret (q_ret1 rfl rfl (fin ⟨congrArg Value.bool (fidx_nonneg p xs), rfl⟩ H))))))
set_option maxHeartbeats 1000000 in
theorem mayF_ok (x : Pair) :
    Cn Tryz.prog 174 [.agg #[.string x.key, .string x.val]] [] [] (fun v Bs => v = .bool (!decide (mayP x)) ∧ Bs = []) := by
 intro w0 F0 H
 refine enter Tryz.func174 rfl rfl (Nat.le_of_ble_eq_true rfl) (c_seq (c_reg (s_box rfl rfl rfl rfl H (fun b1 w H => (s_1 rfl (s_nil (q_then ?_)))))))
 replace H : Hd _ _ _ [blk b1 [.string x.key, .string x.val] 106] [] := H
 refine c_seq (c_reg (s_val rfl rfl (r_fa rfl fo106_0 rfl) (s_val rfl rfl (r_ld rfl ty9 rfl (H.cellI 0 rfl rfl)) (s_val rfl rfl (r_lenS rfl un9 rfl) (s_val rfl rfl (r_gt rfl rfl rfl) (s_1 rfl ?_))))))
 refine s_dec (d := 7) rfl (fun h2 => ?_) (fun h2 => ?_)
 ·refine s_k 6 rfl (s_nil (q_then (c_ret (q_ret1 rfl rfl ?_))))
  replace H := H.nil
  exact fin ⟨by rw [decide_eq_false (by unfold mayP; omega)]; rfl, rfl⟩ H
 ·refine s_val rfl rfl (r_fa rfl fo106_1 rfl) (s_val rfl rfl (r_ld rfl ty9 rfl (H.cellI 0 rfl rfl)) (s_val rfl rfl (r_lenS rfl un9 rfl) (s_val rfl rfl (r_gt rfl rfl rfl) (s_k 2 rfl (s_nil (q_then (c_ret (q_ret1 rfl rfl ?_))))))))
  replace H := H.nil
  exact fin ⟨congrArg Value.bool (by rw [← decide_not]; exact decide_eq_decide.2 (by unfold mayP; omega)), rfl⟩ H
set_option maxHeartbeats 1000000 in
theorem pMayL_ok (vxs : Value) (xs : List Pair) :
    Cn Tryz.prog 120 [vxs] [] [rsl kPair vxs xs] (fun v Bs => v = .bool (decide (mayL xs)) ∧ Bs = []) := by
 intro w0 F0 H
 obtain ⟨A1, c2, rfl, hc3, hm4, hp5⟩ := H.fR 0 rfl
 refine enter Tryz.func120 rfl rfl (Nat.le_of_ble_eq_true rfl) (c_seq (c_reg (s_1 rfl (s_nil (q_then ?_)))))
 replace H : Hd _ _ _ [] [rsl kPair (.slice A1 xs.length c2) xs] := H
 refine c_seq (c_reg (s_1 rfl (sc (containsFP_ok 174 [] [] (fun p => !decide (mayP p)) kn174 (fun x => mayF_ok x) (.slice A1 xs.length c2) xs) H (lR 0 rfl l0) rfl rfl (e_fn kn173 rfl rfl) ?_)))
 rintro _ _ w ⟨rfl, rfl⟩ H
 exact s_val rfl rfl (r_not rfl rfl rfl) (s_1 rfl (s_nil (q_then (c_ret (q_ret1 rfl rfl (fin ⟨congrArg Value.bool (may_any xs), rfl⟩ H))))))

set_option maxHeartbeats 1000000 in
theorem eachF_ok (x : Pair) (kb : Nat) (key : ByteArray) :
    Cn Tryz.prog 213 [.agg #[.string x.key, .string x.val], .pointer (some ⟨kb, 0, none⟩)] [] [blk kb [.string key] 9] (fun v Bs => v = .bool (decide (x.key ≠ key)) ∧ Bs = []) := by
 intro w0 F0 H
 refine enter Tryz.func213 rfl rfl (Nat.le_of_ble_eq_true rfl) (c_seq (c_reg (s_box rfl rfl rfl rfl H (fun b1 w H => (s_1 rfl (s_nil (q_then ?_)))))))
 replace H : Hd _ _ _ [blk b1 [.string x.key, .string x.val] 106] [blk kb [.string key] 9] := H
 refine c_seq (c_reg (s_val rfl rfl (r_fa rfl fo106_0 rfl) (s_val rfl rfl (r_ld rfl ty9 rfl (H.cellI 0 rfl rfl)) (s_val rfl rfl (r_ld rfl ty9 rfl (H.cellRI 0 rfl rfl)) (s_val rfl rfl (r_neS rfl rfl rfl) (s_1 rfl (s_nil (q_then (c_ret (q_ret1 rfl rfl ?_))))))))))
 replace H := H.nil
 exact fin ⟨rfl, rfl⟩ H
set_option maxHeartbeats 4000000 in
theorem each_ok (vp : Value) (p : List Ins) (vps : Value) (ps : List Pair) (fuel : Int) (own : Bool) (hpa : ∀ i ∈ p, In64 i.a) (hfu : In64 fuel) (hb : ps.length ≤ 1000000) :
    Cn Tryz.prog 177 [vp, vps, .int .i64 fuel, .bool own] [] [rsl kIns vp p, rsl kPair vps ps, gl] (fun v Bs => ∃ u, v = .tuple #[u, .int .i64 (eachM dg p ps fuel own).2] ∧ Bs = [osl kPair u (eachM dg p ps fuel own).1]) := by
 intro w0 F0 H
 obtain ⟨A1, c2, rfl, hc3, hm4, hp5⟩ := H.fR 0 rfl
 obtain ⟨A6, c7, rfl, hc8, hm9, hp10⟩ := H.fR 1 rfl
 refine enter Tryz.func177 rfl rfl (Nat.le_of_ble_eq_true rfl) (c_seq (c_reg (s_k 2 rfl (s_nil (q_then ?_)))))
 replace H : Hd _ _ _ [] [rsl kIns (.slice A1 p.length c2) p, rsl kPair (.slice A6 ps.length c7) ps, gl] := H
 refine c_seq (c_reg (s_1 rfl (s_nil (q_then (c_seq (c_reg (sc tallyNew_ok H l0 rfl rfl (e_fn kn210 rfl rfl) ?_)))))))
 rintro _ _ w ⟨b11, rfl, rfl⟩ H
 replace H := H.h1 (A := blk b11 [.int .i64 0, .int .i64 0, .int .i64 0, .int .i64 0, .int .i64 0, .int .i64 0, .int .i64 0, .int .i64 0] 322)
 refine s_1 rfl (s_nil (q_then (c_seq (c_seq (c_reg (s_1 rfl (sc (pKeys_ok (.slice A6 ps.length c7) ps (by first | omega | decide)) H (lR 1 rfl l0) rfl rfl (e_fn kn211 rfl rfl) ?_)))))))
 rintro v12 _ w rfl H
 obtain ⟨A13, c14, rfl, hc15, hm16, hp17⟩ := H.fA 0 rfl
 refine s_val rfl rfl (r_lenL rfl un241 rfl) (s_1 rfl (s_nil (q_then ?_)))
 replace H : Hd _ _ _ [osl kStr (.slice A13 ((keysL ps).length) c14) (keysL ps), blk b11 [.int .i64 0, .int .i64 0, .int .i64 0, .int .i64 0, .int .i64 0, .int .i64 0, .int .i64 0, .int .i64 0] 322] [rsl kIns (.slice A1 p.length c2) p, rsl kPair (.slice A6 ps.length c7) ps, gl] := H
 refine c_block ?_
 replace H := H.newnil kPair
 refine c_loop (σ := Nat × Value × List Pair) (fun (i, q, out) => [(0, .slice A1 p.length c2), (1, .slice A6 ps.length c7), (2, .int .i64 fuel), (3, .bool own), (10, q), (11, .pointer (some ⟨b11, 0, none⟩)), (18, .slice A13 ((keysL ps).length) c14), (19, .int .i64 (((keysL ps).length : Nat) : Int)), (20, .int .i64 ((i : Nat) : Int))]) (fun (i, q, out) w => (Hd w0 F0 w [osl kPair q out, osl kStr (.slice A13 ((keysL ps).length) c14) (keysL ps), blk b11 [.int .i64 (out.length : Int), .int .i64 0, .int .i64 0, .int .i64 0, .int .i64 0, .int .i64 0, .int .i64 0, .int .i64 0] 322] [rsl kIns (.slice A1 p.length c2) p, rsl kPair (.slice A6 ps.length c7) ps, gl]) ∧ (i ≤ (keysL ps).length) ∧ (eachGo dg p ps fuel own ((keysL ps).drop i) out = eachM dg p ps fuel own) ∧ (out.length ≤ 40)) (fun (i, q, out) => (keysL ps).length - i) (0, .slice none 0 0, []) ⟨rfl, rfl, rfl, rfl, rfl, rfl, rfl, rfl, rfl, trivial⟩ ⟨H, Nat.zero_le _, rfl, Nat.zero_le _⟩ ?_
 rintro ⟨i, q, out⟩ w ⟨H, hi, hgo, ho⟩
 have hkl := keysL_len ps
 refine c_seq (c_reg (s_val rfl rfl (r_lt rfl rfl rfl) (s_nil (q_then (c_seq ?_)))))
 refine c_dec rfl (fun h18 => ?_) (fun h18 => ?_)
 ·refine c_skip (q_then (c_seq (c_block (c_seq (c_reg ?_)))))
  obtain ⟨x19, hx20⟩ : ∃ z9, (keysL ps)[i]? = some z9 := ⟨_, List.getElem?_eq_getElem (show i < (keysL ps).length by omega)⟩
  have th21 := H.thA 1 rfl hx20
  refine s_val rfl rfl (r_iaE (p := oOf A13 + i * 1) rfl sl241 rfl rfl (by omega) (by omega) th21 rfl) (s_val rfl rfl (r_ld rfl ty9 rfl (H.elA 1 rfl hx20 (q := 0) rfl rfl)) (s_alloc rfl rfl rfl zr9 H (fun b22 w H => (s_st rfl rfl rfl ty9 rfl rfl H rfl (Nat.le_of_ble_eq_true rfl) (fun u hu => by simp [Value.cells] at hu; subst hu; rfl) (fun w H => ?_)))))
  replace H := H.h4 (A := blk b22 [.string x19] 9) (B := osl kPair q out) (C := osl kStr (.slice A13 ((keysL ps).length) c14) (keysL ps)) (D := blk b11 [.int .i64 (out.length : Int), .int .i64 0, .int .i64 0, .int .i64 0, .int .i64 0, .int .i64 0, .int .i64 0, .int .i64 0] 322)
  refine s_nil (q_then (c_seq (c_ord (.e 0 (.e 1 (.e 2 (.e 3 (.e 5 (.m 4 (.m 6 (.e 7 (.e 8 (.e 9 (.e 10 (.e 11 .z)))))))))))) (fun w => ∃ Ar, Hd w0 F0 w (blk b22 [.string x19] 9 :: osl kPair q out :: osl kStr (.slice A13 ((keysL ps).length) c14) (keysL ps) :: blk b11 [.int .i64 (out.length : Int), .int .i64 0, .int .i64 0, .int .i64 0, .int .i64 0, .int .i64 0, .int .i64 0, .int .i64 0] 322 :: Ar) [rsl kIns (.slice A1 p.length c2) p, rsl kPair (.slice A6 ps.length c7) ps, gl]) mo (by kernel_rfl) (fun w H => ⟨_, H⟩) H (fun w H => (d_1 rfl (d_val rfl rfl rfl (fun w ⟨Ar, H⟩ => r_ld rfl ty9 rfl (H.cellI 0 rfl rfl)) (d_1 rfl (d_val rfl rfl rfl (fun w ⟨Ar, H⟩ => r_ld rfl ty9 rfl (H.cellI 0 rfl rfl)) (d_1 rfl (d_main rfl (sc (pOf_ok (.slice A6 ps.length c7) ps x19 (by first | omega | decide)) H (lR 1 rfl l0) rfl rfl (e_fn kn212 rfl rfl) ?_)))))))))))
  rintro v23 _ w rfl H
  replace H := H.h1 (A := osl kStr v23 (ofL ps x19)) |>.p4 |>.p4 |>.p4 |>.p4
  refine d_back ⟨_, H⟩ (d_main rfl (sc (vmRun_ok (.slice A1 p.length c2) p x19 v23 (ofL ps x19) fuel hpa hfu) H (lR 0 rfl (lA 4 rfl own_rd (lR 2 rfl l0))) rfl rfl (e_fn kn175 rfl rfl) ?_))
  rintro _ _ w ⟨u24, rfl, rfl⟩ H
  replace H := H.h1 (A := osl kPair u24 ((runM dg p x19 (ofL ps x19) fuel).1))
  have hrt := run_told dg p x19 (ofL ps x19) fuel
  replace H := H.p4.p4.p4.p4
  refine d_back ⟨_, H⟩ (d_1 rfl (d_1 rfl (d_1 rfl (d_1 rfl (d_1 rfl (d_nil (q_then (c_seq (c_block (c_seq (c_reg (s_1 rfl (s_val rfl rfl (r_ne rfl rfl rfl) (s_1 rfl (s_nil (q_then ?_))))))))))))))))
  refine c_dec rfl (fun h25 => ?_) (fun h25 => ?_)
  ·refine c_seq (c_reg (s_k 3 rfl (s_nil (q_then (c_ret (q_blockR (q_thenR (q_blockR (q_thenR (q_thenR (q_blockR (q_thenR (q_ret2 rfl rfl rfl ?_)))))))))))))
   have e : eachM dg p ps fuel own = ([], (runM dg p x19 (ofL ps x19) fuel).2) := hgo.symm.trans (go_why hx20 h25)
   replace H := H.nil |>.newnil kPair
   exact fin ⟨_, by rw [e] <;> rfl, by rw [e] <;> rfl⟩ H
  ·refine c_seq (c_reg (s_k 2 rfl ?_))
   refine s_boo (d := 40) (b := own) rfl (fun h26 => ?_) (fun h26 => ?_)
   ·refine s_1 rfl (s_val rfl rfl (r_fn (fs := #[]) (cs := #[.pointer (some ⟨b22, 0, none⟩)]) rfl rfl rfl) (sc (containsFP_ok 213 [.pointer (some ⟨b22, 0, none⟩)] [blk b22 [.string x19] 9] (fun y => decide (y.key ≠ x19)) kn213 (fun y => eachF_ok y b22 x19) u24 (runM dg p x19 (ofL ps x19) fuel).1) H (lA 4 rfl own_rd (lA 0 rfl (fun _ h => h) l0)) rfl rfl (e_fn kn173 rfl rfl) ?_))
    rintro _ _ w ⟨rfl, rfl⟩ H
    refine s_k 2 rfl (s_nil (q_then ?_))
    refine c_cond (b := otherKey x19 (runM dg p x19 (ofL ps x19) fuel).1) rfl (fun h27 => ?_) (fun h27 => ?_)
    ·refine c_seq (c_reg (s_k 2 rfl (s_nil (q_then (c_ret (q_blockR (q_thenR (q_blockR (q_thenR (q_thenR (q_blockR (q_thenR (q_ret2 rfl rfl rfl ?_)))))))))))))
     have e : eachM dg p ps fuel own = ([], 6) := hgo.symm.trans (go_key hx20 h25 h26 h27)
     replace H := H.nil |>.newnil kPair
     replace H : Hd _ _ _ [osl kPair (.slice none 0 0) []] [rsl kIns (.slice A1 p.length c2) p, rsl kPair (.slice A6 ps.length c7) ps, gl] := H
     exact fin ⟨_, by rw [e] <;> rfl, by rw [e] <;> rfl⟩ H
    ·refine c_seq (c_reg (s_k 2 rfl ?_))
     obtain ⟨A28, c29, rfl, hc30, hm31, hp32⟩ := H.fA 4 rfl
     refine s_val rfl rfl (r_lenL rfl un35 rfl) ?_
     replace H := H.p3
     replace H : Hd _ _ _ [blk b11 [.int .i64 (out.length : Int), .int .i64 0, .int .i64 0, .int .i64 0, .int .i64 0, .int .i64 0, .int .i64 0, .int .i64 0] 322, blk b22 [.string x19] 9, osl kPair q out, osl kStr (.slice A13 ((keysL ps).length) c14) (keysL ps), osl kPair (.slice A28 (((runM dg p x19 (ofL ps x19) fuel).1).length) c29) ((runM dg p x19 (ofL ps x19) fuel).1), osl kStr v23 (ofL ps x19)] [rsl kIns (.slice A1 p.length c2) p, rsl kPair (.slice A6 ps.length c7) ps, gl] := H
     refine sc (tallyAdd_ok b11 (out.length : Int) 0 0 0 0 0 0 0 ((((runM dg p x19 (ofL ps x19) fuel).1).length : Nat) : Int) (by omega) (by omega)) H l0 rfl rfl (e_fn kn214 rfl rfl) ?_
     rintro _ _ w ⟨rfl, rfl⟩ H
     replace H := H.h1 (A := blk b11 [.int .i64 (min ((out.length : Int) + ((((runM dg p x19 (ofL ps x19) fuel).1).length : Nat) : Int)) 1099511627776), .int .i64 0, .int .i64 0, .int .i64 0, .int .i64 0, .int .i64 0, .int .i64 0, .int .i64 0] 322)
     refine s_val rfl rfl (r_gt rfl rfl rfl) (s_1 rfl (s_nil (q_then ?_)))
     refine c_dec rfl (fun h33 => ?_) (fun h33 => ?_)
     ·refine c_seq (c_reg (s_k 2 rfl (s_nil (q_then (c_ret (q_blockR (q_thenR (q_blockR (q_thenR (q_thenR (q_blockR (q_thenR (q_ret2 rfl rfl rfl ?_)))))))))))))
      have e : eachM dg p ps fuel own = ([], 5) := hgo.symm.trans (go_many hx20 h25 (fun h => by rw [h.2] at h27; cases h27) (by omega))
      replace H := H.nil |>.newnil kPair
      exact fin ⟨_, by rw [e] <;> rfl, by rw [e] <;> rfl⟩ H
     ·refine c_skip (q_blockN (q_then (c_reg (s_k 2 rfl ?_))))
      replace H := H.p2
      refine s_appF (xs := out) (ys := (runM dg p x19 (ofL ps x19) fuel).1) rfl rfl rfl sl35 zr106 rfl (by decide) rfl rfl H (by omega) (fun F hA hR => own_rd F (hA _ (List.mem_of_getElem? (i := 3) rfl))) (fun v34 w H => ?_)
      replace H := H.h1 (A := osl kPair v34 (out ++ ((runM dg p x19 (ofL ps x19) fuel).1)))
      refine s_1 rfl (s_nil (q_blockN (q_then (c_reg (s_val rfl rfl (r_add (z := ((i + 1 : Nat) : Int)) rfl rfl rfl (by rw [w64 (by omega) (by omega)]; omega)) (s_1 rfl (s_nil ?_)))))))
      replace H := H.p3.p1.k3
      have hl2 : ((out ++ (runM dg p x19 (ofL ps x19) fuel).1).length : Int) = min ((out.length : Int) + ((((runM dg p x19 (ofL ps x19) fuel).1).length : Nat) : Int)) 1099511627776 := by rw [List.length_append]; omega
      replace H : Hd w0 F0 w [osl kPair v34 (out ++ ((runM dg p x19 (ofL ps x19) fuel).1)), osl kStr (.slice A13 ((keysL ps).length) c14) (keysL ps), blk b11 [.int .i64 ((out ++ (runM dg p x19 (ofL ps x19) fuel).1).length : Int), .int .i64 0, .int .i64 0, .int .i64 0, .int .i64 0, .int .i64 0, .int .i64 0, .int .i64 0] 322] [rsl kIns (.slice A1 p.length c2) p, rsl kPair (.slice A6 ps.length c7) ps, gl] := by rw [hl2]; exact H
      have hg2 := (go_on (out := out) hx20 h25 (fun h => by rw [h.2] at h27; cases h27) (by omega)).trans hgo
      have ho2 : (out ++ (runM dg p x19 (ofL ps x19) fuel).1).length ≤ 40 := by rw [List.length_append]; omega
      exact q_round (s := (i, undef, out)) (i + 1, v34, out ++ (runM dg p x19 (ofL ps x19) fuel).1) ⟨rfl, rfl, rfl, rfl, rfl, rfl, rfl, rfl, rfl, trivial⟩ ⟨H, by (try dsimp only); omega, hg2, ho2⟩ (by (try dsimp only); omega)
   ·refine s_k 5 rfl (s_nil (q_then (c_no rfl (c_seq (c_reg (s_k 2 rfl ?_))))))
    obtain ⟨A35, c36, rfl, hc37, hm38, hp39⟩ := H.fA 4 rfl
    refine s_val rfl rfl (r_lenL rfl un35 rfl) ?_
    replace H := H.p3
    refine sc (tallyAdd_ok b11 (out.length : Int) 0 0 0 0 0 0 0 ((((runM dg p x19 (ofL ps x19) fuel).1).length : Nat) : Int) (by omega) (by omega)) H l0 rfl rfl (e_fn kn214 rfl rfl) ?_
    rintro _ _ w ⟨rfl, rfl⟩ H
    replace H := H.h1 (A := blk b11 [.int .i64 (min ((out.length : Int) + ((((runM dg p x19 (ofL ps x19) fuel).1).length : Nat) : Int)) 1099511627776), .int .i64 0, .int .i64 0, .int .i64 0, .int .i64 0, .int .i64 0, .int .i64 0, .int .i64 0] 322)
    refine s_val rfl rfl (r_gt rfl rfl rfl) (s_1 rfl (s_nil (q_then ?_)))
    refine c_dec rfl (fun h40 => ?_) (fun h40 => ?_)
    ·refine c_seq (c_reg (s_k 2 rfl (s_nil (q_then (c_ret (q_blockR (q_thenR (q_blockR (q_thenR (q_thenR (q_blockR (q_thenR (q_ret2 rfl rfl rfl ?_)))))))))))))
     have e : eachM dg p ps fuel own = ([], 5) := hgo.symm.trans (go_many hx20 h25 (fun h => by rw [h.1] at h26; cases h26) (by omega))
     replace H := H.nil |>.newnil kPair
     exact fin ⟨_, by rw [e] <;> rfl, by rw [e] <;> rfl⟩ H
    ·refine c_skip (q_blockN (q_then (c_reg (s_k 2 rfl ?_))))
     replace H := H.p2
     refine s_appF (xs := out) (ys := (runM dg p x19 (ofL ps x19) fuel).1) rfl rfl rfl sl35 zr106 rfl (by decide) rfl rfl H (by omega) (fun F hA hR => own_rd F (hA _ (List.mem_of_getElem? (i := 3) rfl))) (fun v41 w H => ?_)
     replace H := H.h1 (A := osl kPair v41 (out ++ ((runM dg p x19 (ofL ps x19) fuel).1)))
     refine s_1 rfl (s_nil (q_blockN (q_then (c_reg (s_val rfl rfl (r_add (z := ((i + 1 : Nat) : Int)) rfl rfl rfl (by rw [w64 (by omega) (by omega)]; omega)) (s_1 rfl (s_nil ?_)))))))
     replace H := H.p3.p1.k3
     have hl2 : ((out ++ (runM dg p x19 (ofL ps x19) fuel).1).length : Int) = min ((out.length : Int) + ((((runM dg p x19 (ofL ps x19) fuel).1).length : Nat) : Int)) 1099511627776 := by rw [List.length_append]; omega
     replace H : Hd w0 F0 w [osl kPair v41 (out ++ ((runM dg p x19 (ofL ps x19) fuel).1)), osl kStr (.slice A13 ((keysL ps).length) c14) (keysL ps), blk b11 [.int .i64 ((out ++ (runM dg p x19 (ofL ps x19) fuel).1).length : Int), .int .i64 0, .int .i64 0, .int .i64 0, .int .i64 0, .int .i64 0, .int .i64 0, .int .i64 0] 322] [rsl kIns (.slice A1 p.length c2) p, rsl kPair (.slice A6 ps.length c7) ps, gl] := by rw [hl2]; exact H
     have hg2 := (go_on (out := out) hx20 h25 (fun h => by rw [h.1] at h26; cases h26) (by omega)).trans hgo
     have ho2 : (out ++ (runM dg p x19 (ofL ps x19) fuel).1).length ≤ 40 := by rw [List.length_append]; omega
     exact q_round (s := (i, undef, out)) (i + 1, v41, out ++ (runM dg p x19 (ofL ps x19) fuel).1) ⟨rfl, rfl, rfl, rfl, rfl, rfl, rfl, rfl, rfl, trivial⟩ ⟨H, by (try dsimp only); omega, hg2, ho2⟩ (by (try dsimp only); omega)
 ·refine c_exit (q_thenE (q_thenE (q_blockE (q_then (c_seq (c_reg (s_k 3 rfl (s_nil (q_then (c_ret (q_ret2 rfl rfl rfl ?_)))))))))))
  replace H := H.k1
  have e : eachM dg p ps fuel own = (out, 0) := hgo.symm.trans (go_end (by omega))
  replace H := H.h1 (A := osl kPair q out)
  exact fin ⟨_, by rw [e] <;> rfl, by rw [e] <;> rfl⟩ H
set_option maxHeartbeats 1000000 in
theorem foldCombine_ok (vp : Value) (p : List Ins) (vps : Value) (ps : List Pair) (fuel : Int) (hpa : ∀ i ∈ p, In64 i.a) (hfu : In64 fuel) (hb : ps.length ≤ 1000000) :
    Cn Tryz.prog 125 [vp, vps, .int .i64 fuel] [] [rsl kIns vp p, rsl kPair vps ps, gl] (fun v Bs => ∃ u, v = .tuple #[u, .int .i64 (combM dg p ps fuel).2] ∧ Bs = [osl kPair u (combM dg p ps fuel).1]) := by
 intro w0 F0 H
 obtain ⟨A1, c2, rfl, hc3, hm4, hp5⟩ := H.fR 0 rfl
 obtain ⟨A6, c7, rfl, hc8, hm9, hp10⟩ := H.fR 1 rfl
 refine enter Tryz.func125 rfl rfl (Nat.le_of_ble_eq_true rfl) (c_seq (c_reg (s_k 2 rfl (s_nil (q_then ?_)))))
 replace H : Hd _ _ _ [] [rsl kIns (.slice A1 p.length c2) p, rsl kPair (.slice A6 ps.length c7) ps, gl] := H
 refine c_seq (c_seq (c_reg (s_1 rfl (s_val rfl rfl (r_lenL rfl un23 rfl) (s_val rfl rfl (r_eq rfl rfl rfl) (s_nil (q_then ?_)))))))
 refine c_dec rfl (fun h11 => ?_) (fun h11 => ?_)
 ·refine c_seq (c_reg (s_1 rfl (sc (pairSort_ok (.slice A6 ps.length c7) ps (by first | omega | decide)) H (lR 1 rfl l0) rfl rfl (e_fn kn176 rfl rfl) ?_)))
  rintro v12 _ w rfl H
  replace H := H.h1 (A := osl kPair v12 (srt ps))
  refine s_k 2 rfl (s_nil (q_then (c_ret (q_thenR (q_ret2 rfl rfl rfl ?_)))))
  have e : combM dg p ps fuel = (srt ps, 0) := if_pos (by omega)
  exact fin ⟨_, by rw [e] <;> rfl, by rw [e] <;> rfl⟩ H
 ·refine c_skip (q_then (c_seq (c_reg (s_k 3 rfl (sc (each_ok (.slice A1 p.length c2) p (.slice A6 ps.length c7) ps fuel true hpa hfu hb) H (lR 0 rfl (lR 1 rfl (lR 2 rfl l0))) rfl rfl (e_fn kn177 rfl rfl) ?_)))))
  rintro _ _ w ⟨u13, rfl, rfl⟩ H
  replace H := H.h1 (A := osl kPair u13 ((eachM dg p ps fuel true).1))
  refine s_k 4 rfl (s_nil (q_then (c_ret (q_ret2 rfl rfl rfl ?_))))
  have e : combM dg p ps fuel = eachM dg p ps fuel true := if_neg (by omega)
  exact fin ⟨_, by rw [e] <;> rfl, by rw [e] <;> rfl⟩ H
set_option maxHeartbeats 1000000 in
theorem greatCode_ok (vxs : Value) (xs : List Ins) :
    Cn Tryz.prog 87 [vxs] [] [rsl kIns vxs xs] (fun v Bs => v = .bool (greatC xs) ∧ Bs = []) := by
 intro w0 F0 H
 obtain ⟨A1, c2, rfl, hc3, hm4, hp5⟩ := H.fR 0 rfl
 refine enter Tryz.func87 rfl rfl (Nat.le_of_ble_eq_true rfl) (c_seq (c_reg (s_1 rfl (s_nil (q_then ?_)))))
 replace H : Hd _ _ _ [] [rsl kIns (.slice A1 xs.length c2) xs] := H
 refine c_seq (c_seq (c_reg (s_1 rfl (s_nil (q_then (c_block (c_loop (σ := Nat) (fun k => [(0, .slice A1 xs.length c2), (3, .int .i64 ((k : Nat) : Int))]) (fun k w => (Hd w0 F0 w [] [rsl kIns (.slice A1 xs.length c2) xs]) ∧ (k ≤ xs.length) ∧ (∀ y ∈ xs.take k, y.s.size ≤ 100)) (fun k => xs.length - k) 0 ⟨rfl, rfl, trivial⟩ ⟨H, by omega, by simp⟩ ?_)))))))
 rintro k w ⟨H, hk, hn⟩
 refine c_seq (c_seq (c_reg (s_k 2 rfl (s_val rfl rfl (r_lenL rfl un23 rfl) (s_val rfl rfl (r_lt rfl rfl rfl) (s_1 rfl ?_))))))
 refine s_dec (d := 8) rfl (fun h6 => ?_) (fun h6 => ?_)
 ·refine s_1 rfl (s_val rfl rfl (r_lenL rfl un23 rfl) (s_val rfl rfl (r_le rfl rfl rfl) (s_1 rfl (s_nil (q_then ?_)))))
  refine c_dec rfl (fun h7 => ?_) (fun h7 => ?_)
  ·refine c_skip (q_then (c_seq (c_block (c_seq (c_reg (s_k 2 rfl ?_))))))
   obtain ⟨x8, hx9⟩ : ∃ z9, xs[k]? = some z9 := ⟨_, List.getElem?_eq_getElem (show k < xs.length by omega)⟩
   have th10 := H.thR 0 rfl hx9
   refine s_val rfl rfl (r_iaE (p := oOf A1 + k * 3) rfl sl23 rfl rfl (by omega) (by omega) th10 rfl) (s_val rfl rfl (r_fa rfl fo223_2 rfl) (s_val rfl rfl (r_ld rfl ty9 rfl (H.elR 0 rfl hx9 (q := 2) rfl rfl)) (s_val rfl rfl (r_lenS rfl un9 rfl) (s_val rfl rfl (r_gt rfl rfl rfl) (s_nil (q_then ?_))))))
   refine c_dec rfl (fun h11 => ?_) (fun h11 => ?_)
   ·exact c_seq (c_reg (s_1 rfl (s_nil (q_then (c_ret (q_blockR (q_thenR (q_thenR (q_blockR (q_thenR (q_ret1 rfl rfl (fin ⟨congrArg Value.bool (great_hit hx9 (by omega)), rfl⟩ H))))))))))))
   ·exact c_skip (q_blockN (q_then (c_reg (s_1 rfl (s_val rfl rfl (r_add (z := ((k + 1 : Nat) : Int)) rfl rfl rfl (by rw [w64 (by omega) (by omega)]; omega)) (s_1 rfl (s_nil (q_round (s := k) (k + 1) ⟨rfl, rfl, trivial⟩ ⟨H, by (try dsimp only); omega, take_small hn hx9 (by omega)⟩ (by (try dsimp only); omega)))))))))
  ·exact c_exit (q_thenE (q_thenE (q_blockE (q_then (c_seq (c_reg (s_1 rfl (s_val rfl rfl (r_lenL rfl un23 rfl) (s_val rfl rfl (r_gt rfl rfl rfl) (s_1 rfl (s_nil (q_then (c_ret (q_ret1 rfl rfl (fin ⟨congrArg Value.bool (great_end hn (by omega)), rfl⟩ H)))))))))))))))
 ·exact s_k 4 rfl (s_nil (q_then (c_no rfl (c_exit (q_thenE (q_thenE (q_blockE (q_then (c_seq (c_reg (s_1 rfl (s_val rfl rfl (r_lenL rfl un23 rfl) (s_val rfl rfl (r_gt rfl rfl rfl) (s_1 rfl (s_nil (q_then (c_ret (q_ret1 rfl rfl (fin ⟨congrArg Value.bool (great_end hn (by omega)), rfl⟩ H)))))))))))))))))))

set_option maxHeartbeats 1000000 in
theorem within_ok (n : Int) (l : Int) (m : Int) :
    Cn Tryz.prog 89 [.int .i64 n, .int .i64 l, .int .i64 m] [] [] (fun v Bs => v = .bool (decide (l ≤ n ∧ n ≤ m)) ∧ Bs = []) := by
 intro w0 F0 H
 refine enter Tryz.func89 rfl rfl (Nat.le_of_ble_eq_true rfl) (c_seq (c_reg (s_1 rfl (s_nil (q_then (c_seq (c_reg (s_k 2 rfl (s_val rfl rfl (r_ge rfl rfl rfl) (s_1 rfl ?_))))))))))
 refine s_dec (d := 10) rfl (fun h1 => ?_) (fun h1 => ?_)
 ·exact s_k 2 rfl (s_val rfl rfl (r_le rfl rfl rfl) (s_k 2 rfl (s_nil (q_then (c_ret (q_ret1 rfl rfl (fin ⟨congrArg Value.bool (decide_eq_decide.2 (by omega)), rfl⟩ H)))))))
 ·exact s_k 5 rfl (s_nil (q_then (c_ret (q_ret1 rfl rfl (fin ⟨congrArg Value.bool ((decide_eq_false (by omega)).symm), rfl⟩ H)))))
set_option maxHeartbeats 1000000 in
theorem jruns_ok (vxs : Value) (xs : List Ins) :
    Cn Tryz.prog 153 [vxs] [] [rsl kIns vxs xs] (fun v Bs => v = .bool (decide (0 < (xs).length ∧ badI xs < 0)) ∧ Bs = []) := by
 intro w0 F0 H
 obtain ⟨A1, c2, rfl, hc3, hm4, hp5⟩ := H.fR 0 rfl
 refine enter Tryz.func153 rfl rfl (Nat.le_of_ble_eq_true rfl) (c_seq (c_reg (s_1 rfl (s_nil (q_then ?_)))))
 replace H : Hd _ _ _ [] [rsl kIns (.slice A1 xs.length c2) xs] := H
 refine c_seq (c_reg (s_1 rfl (s_val rfl rfl (r_lenL rfl un23 rfl) (s_val rfl rfl (r_gt rfl rfl rfl) (s_1 rfl ?_)))))
 refine s_dec (d := 6) rfl (fun h6 => ?_) (fun h6 => ?_)
 ·refine s_1 rfl (sc (pMay_ok (.slice A1 xs.length c2) xs) H (lR 0 rfl l0) rfl rfl (e_fn kn154 rfl rfl) ?_)
  rintro _ _ w ⟨rfl, rfl⟩ H
  exact s_k 2 rfl (s_nil (q_then (c_ret (q_ret1 rfl rfl (fin ⟨congrArg Value.bool (decide_eq_decide.2 (by omega)), rfl⟩ H)))))
 ·exact s_k 4 rfl (s_nil (q_then (c_ret (q_ret1 rfl rfl (fin ⟨congrArg Value.bool ((decide_eq_false (by omega)).symm), rfl⟩ H)))))
set_option maxHeartbeats 1000000 in
theorem jmay_ok (vS vM vC vR vK : Value) (J : Job) :
    Cn Tryz.prog 88 [.agg #[vS, .int .i64 J.parts, vM, vC, vR, .int .i64 J.chunk, .int .i64 J.window, .int .i64 J.fuel, vK]] [] [rsl (kHd kPair) vS J.us, rsl kIns vM J.map, rsl kIns vC J.comb, rsl kIns vR J.red, rsl (kInt .i64) vK J.marks] (fun v Bs => v = .bool (decide (mayJ J)) ∧ Bs = []) := by
 intro w0 F0 H
 obtain ⟨A1, c2, rfl, hc3, hm4, hp5⟩ := H.fR 0 rfl
 obtain ⟨A6, c7, rfl, hc8, hm9, hp10⟩ := H.fR 1 rfl
 obtain ⟨A11, c12, rfl, hc13, hm14, hp15⟩ := H.fR 2 rfl
 obtain ⟨A16, c17, rfl, hc18, hm19, hp20⟩ := H.fR 3 rfl
 obtain ⟨A21, c22, rfl, hc23, hm24, hp25⟩ := H.fR 4 rfl
 refine enter Tryz.func88 rfl rfl (Nat.le_of_ble_eq_true rfl) (c_seq (c_reg (s_box rfl rfl rfl rfl H (fun b26 w H => (s_1 rfl (s_nil (q_then ?_)))))))
 replace H : Hd _ _ _ [blk b26 [.slice A1 J.us.length c2, .int .i64 J.parts, .slice A6 J.map.length c7, .slice A11 J.comb.length c12, .slice A16 J.red.length c17, .int .i64 J.chunk, .int .i64 J.window, .int .i64 J.fuel, .slice A21 J.marks.length c22] 26] [rsl (kHd kPair) (.slice A1 J.us.length c2) J.us, rsl kIns (.slice A6 J.map.length c7) J.map, rsl kIns (.slice A11 J.comb.length c12) J.comb, rsl kIns (.slice A16 J.red.length c17) J.red, rsl (kInt .i64) (.slice A21 J.marks.length c22) J.marks] := H
 refine c_seq (c_seq (c_reg (s_val rfl rfl (r_fa rfl fo26_0 rfl) (s_val rfl rfl (r_ld rfl ty22 rfl (H.cellI 0 rfl rfl)) (s_val rfl rfl (r_lenL rfl un22 rfl) (sc (within_ok ((J.us.length : Nat) : Int) 1 6) H l0 rfl rfl (e_fn kn89 rfl rfl) ?_))))))
 rintro _ _ w ⟨rfl, rfl⟩ H
 refine s_val rfl rfl (r_notP rfl rfl) (s_1 rfl ?_)
 refine s_dec (d := 13) rfl (fun h27 => ?_) (fun h27 => ?_)
 ·refine s_k 11 rfl (s_nil (q_then (c_yes rfl (c_seq (c_reg (s_1 rfl (s_nil (q_then (c_ret (q_thenR (q_ret1 rfl rfl ?_)))))))))))
  replace H := H.nil
  have e : ¬ mayJ J := by
    rintro ⟨g1, g2, g3, g4, g5, g6, g7, g8, g9, g10, g11⟩
    omega
  exact fin ⟨congrArg Value.bool (decide_eq_false e).symm, rfl⟩ H
 ·refine s_val rfl rfl (r_fa rfl fo26_1 rfl) (s_val rfl rfl (r_ld rfl ty3 rfl (H.cellI 0 rfl rfl)) (sc (within_ok J.parts 1 4) H l0 rfl rfl (e_fn kn89 rfl rfl) ?_))
  rintro _ _ w ⟨rfl, rfl⟩ H
  refine s_val rfl rfl (r_notP rfl rfl) (s_k 2 rfl ?_)
  refine s_dec (d := 19) rfl (fun h28 => ?_) (fun h28 => ?_)
  ·refine s_k 5 rfl (s_nil (q_then (c_yes rfl (c_seq (c_reg (s_1 rfl (s_nil (q_then (c_ret (q_thenR (q_ret1 rfl rfl ?_)))))))))))
   replace H := H.nil
   have e : ¬ mayJ J := by
     rintro ⟨g1, g2, g3, g4, g5, g6, g7, g8, g9, g10, g11⟩
     omega
   exact fin ⟨congrArg Value.bool (decide_eq_false e).symm, rfl⟩ H
  ·refine s_val rfl rfl (r_fa rfl fo26_8 rfl) (s_val rfl rfl (r_ld rfl ty24 rfl (H.cellI 0 rfl rfl)) (s_val rfl rfl (r_lenL rfl un24 rfl) (s_val rfl rfl (r_gt rfl rfl rfl) (s_1 rfl (s_nil (q_then ?_))))))
   refine c_dec rfl (fun h29 => ?_) (fun h29 => ?_)
   ·refine c_seq (c_reg (s_1 rfl (s_nil (q_then (c_ret (q_thenR (q_ret1 rfl rfl ?_)))))))
    replace H := H.nil
    have e : ¬ mayJ J := by
      rintro ⟨g1, g2, g3, g4, g5, g6, g7, g8, g9, g10, g11⟩
      omega
    exact fin ⟨congrArg Value.bool (decide_eq_false e).symm, rfl⟩ H
   ·refine c_skip (q_then (c_seq (c_seq (c_reg (s_val rfl rfl (r_fa rfl fo26_0 rfl) (s_val rfl rfl (r_ld rfl ty22 rfl (H.cellI 0 rfl rfl)) (s_val rfl rfl (r_lenL rfl un22 rfl) (s_1 rfl (s_nil (q_then (c_block (c_loop (σ := Nat) (fun k => [(1, .pointer (some ⟨b26, 0, none⟩)), (26, .slice A1 J.us.length c2), (27, .int .i64 ((J.us.length : Nat) : Int)), (28, .int .i64 ((k : Nat) : Int))]) (fun k w => (Hd w0 F0 w [blk b26 [.slice A1 J.us.length c2, .int .i64 J.parts, .slice A6 J.map.length c7, .slice A11 J.comb.length c12, .slice A16 J.red.length c17, .int .i64 J.chunk, .int .i64 J.window, .int .i64 J.fuel, .slice A21 J.marks.length c22] 26] [rsl (kHd kPair) (.slice A1 J.us.length c2) J.us, rsl kIns (.slice A6 J.map.length c7) J.map, rsl kIns (.slice A11 J.comb.length c12) J.comb, rsl kIns (.slice A16 J.red.length c17) J.red, rsl (kInt .i64) (.slice A21 J.marks.length c22) J.marks]) ∧ (k ≤ J.us.length) ∧ (∀ u ∈ J.us.take k, okSplit u.2)) (fun k => J.us.length - k) 0 ⟨rfl, rfl, rfl, rfl, trivial⟩ ⟨H, by omega, by simp⟩ ?_))))))))))))
    rintro k w ⟨H, hk, hn⟩
    refine c_seq (c_reg (s_val rfl rfl (r_lt rfl rfl rfl) (s_nil (q_then (c_seq ?_)))))
    refine c_dec rfl (fun h30 => ?_) (fun h30 => ?_)
    ·refine c_skip (q_then (c_seq (c_block (c_seq (c_reg ?_)))))
     obtain ⟨⟨u33, x31⟩, hx32⟩ : ∃ z9, J.us[k]? = some z9 := ⟨_, List.getElem?_eq_getElem (show k < J.us.length by omega)⟩
     obtain ⟨A34, c35, rfl, hc36, hm37⟩ := H.nestR 0 rfl hx32
     have th38 := H.thRd 0 rfl hx32
     refine s_val rfl rfl (r_iaE (p := oOf A1 + k * 1) rfl sl22 rfl rfl (by omega) (by omega) th38 rfl) (s_val rfl rfl (r_ld rfl ty35 rfl (H.elRd 0 rfl hx32 rfl)) (s_1 rfl (s_nil (q_then (c_seq (c_reg (s_1 rfl (s_val rfl rfl (r_lenL rfl un35 rfl) (s_val rfl rfl (r_gt rfl rfl rfl) (s_1 rfl ?_))))))))))
     refine s_dec (d := 35) rfl (fun h39 => ?_) (fun h39 => ?_)
     ·refine s_k 4 rfl (s_nil (q_then (c_yes rfl (c_seq (c_reg (s_1 rfl (s_nil (q_then (c_ret (q_blockR (q_thenR (q_thenR (q_blockR (q_thenR (q_ret1 rfl rfl ?_)))))))))))))))
      replace H := H.nil
      have e : ¬ mayJ J := by
        rintro ⟨g1, g2, g3, g4, g5, g6, g7, g8, g9, g10, g11⟩
        have g := g4 _ (at_mem hx32); have ga : x31.length ≤ 8 := g.1; first | exact (h39 g.2).elim | omega
      exact fin ⟨congrArg Value.bool (decide_eq_false e).symm, rfl⟩ H
     ·refine s_1 rfl (sc (pMayL_ok (.slice A34 x31.length c35) x31) H (lX (fun F hA hR => nest_rsl (hR _ (List.mem_of_getElem? (i := 0) rfl)) hx32) l0) rfl rfl (e_fn kn120 rfl rfl) ?_)
      rintro _ _ w ⟨rfl, rfl⟩ H
      refine s_val rfl rfl (r_notP rfl rfl) (s_1 rfl (s_nil (q_then ?_)))
      refine c_dec rfl (fun h40 => ?_) (fun h40 => ?_)
      ·refine c_seq (c_reg (s_1 rfl (s_nil (q_then (c_ret (q_blockR (q_thenR (q_thenR (q_blockR (q_thenR (q_ret1 rfl rfl ?_)))))))))))
       replace H := H.nil
       have e : ¬ mayJ J := by
         rintro ⟨g1, g2, g3, g4, g5, g6, g7, g8, g9, g10, g11⟩
         have g := g4 _ (at_mem hx32); have ga : x31.length ≤ 8 := g.1; first | exact (h40 g.2).elim | omega
       exact fin ⟨congrArg Value.bool (decide_eq_false e).symm, rfl⟩ H
      ·refine c_skip (q_blockN (q_then (c_reg (s_val rfl rfl (r_add (z := ((k + 1 : Nat) : Int)) rfl rfl rfl (by rw [w64 (by omega) (by omega)]; omega)) (s_1 rfl (s_nil ?_))))))
       have hn2 := take_prop (Q := fun u : Value × List Pair => okSplit u.2) hn hx32 ⟨(show x31.length ≤ 8 by omega), Classical.not_not.1 h40⟩
       exact q_round (s := k) (k + 1) ⟨rfl, rfl, rfl, rfl, trivial⟩ ⟨H, by (try dsimp only); omega, hn2⟩ (by (try dsimp only); omega)
    ·refine c_exit (q_thenE (q_thenE (q_blockE (q_then (c_seq (c_reg (s_1 rfl (s_nil (q_then (c_seq (c_seq (c_reg (s_val rfl rfl (r_fa rfl fo26_8 rfl) (s_val rfl rfl (r_ld rfl ty24 rfl (H.cellI 0 rfl rfl)) (s_val rfl rfl (r_lenL rfl un24 rfl) (s_1 rfl (s_nil (q_then (c_block ?_)))))))))))))))))))
     have hal : ∀ u ∈ J.us, okSplit u.2 := by rw [← take_all (xs := J.us) (k := k) (by omega)]; exact hn
     refine c_loop (σ := Nat × Int) (fun (j, last) => [(1, .pointer (some ⟨b26, 0, none⟩)), (5, .int .i64 last), (42, .slice A21 J.marks.length c22), (43, .int .i64 ((J.marks.length : Nat) : Int)), (44, .int .i64 ((j : Nat) : Int))]) (fun (j, last) w => (Hd w0 F0 w [blk b26 [.slice A1 J.us.length c2, .int .i64 J.parts, .slice A6 J.map.length c7, .slice A11 J.comb.length c12, .slice A16 J.red.length c17, .int .i64 J.chunk, .int .i64 J.window, .int .i64 J.fuel, .slice A21 J.marks.length c22] 26] [rsl (kHd kPair) (.slice A1 J.us.length c2) J.us, rsl kIns (.slice A6 J.map.length c7) J.map, rsl kIns (.slice A11 J.comb.length c12) J.comb, rsl kIns (.slice A16 J.red.length c17) J.red, rsl (kInt .i64) (.slice A21 J.marks.length c22) J.marks]) ∧ (j ≤ J.marks.length ∧ 0 ≤ last ∧ last ≤ 6) ∧ (marksUp J.us.length last (J.marks.drop j) ↔ marksUp J.us.length 0 J.marks)) (fun (j, last) => J.marks.length - j) (0, 0) ⟨rfl, rfl, rfl, rfl, rfl, trivial⟩ ⟨H, by (try dsimp only); omega, Iff.rfl⟩ ?_
     rintro ⟨j, last⟩ w ⟨H, hj, hm⟩
     refine c_seq (c_reg (s_val rfl rfl (r_lt rfl rfl rfl) (s_nil (q_then (c_seq ?_)))))
     refine c_dec rfl (fun h41 => ?_) (fun h41 => ?_)
     ·refine c_skip (q_then (c_seq (c_block (c_seq (c_reg ?_)))))
      obtain ⟨x42, hx43⟩ : ∃ z9, J.marks[j]? = some z9 := ⟨_, List.getElem?_eq_getElem (show j < J.marks.length by omega)⟩
      have th44 := H.thR 4 rfl hx43
      refine s_val rfl rfl (r_iaE (p := oOf A21 + j * 1) rfl sl24 rfl rfl (by omega) (by omega) th44 rfl) (s_val rfl rfl (r_ld rfl ty3 rfl (H.elR 4 rfl hx43 (q := 0) rfl rfl)) (s_1 rfl (s_nil (q_then (c_seq (c_seq (c_reg (s_k 2 rfl (s_val rfl rfl (r_add (z := last + 1) rfl rfl rfl (w64 (by omega) (by omega))) (s_val rfl rfl (r_fa rfl fo26_0 rfl) (s_val rfl rfl (r_ld rfl ty22 rfl (H.cellI 0 rfl rfl)) (s_val rfl rfl (r_lenL rfl un22 rfl) (sc (within_ok x42 (last + 1) ((J.us.length : Nat) : Int)) H l0 rfl rfl (e_fn kn89 rfl rfl) ?_)))))))))))))
      rintro _ _ w ⟨rfl, rfl⟩ H
      refine s_val rfl rfl (r_notP rfl rfl) (s_nil (q_then ?_))
      refine c_dec rfl (fun h45 => ?_) (fun h45 => ?_)
      ·refine c_seq (c_reg (s_1 rfl (s_nil (q_then (c_ret (q_thenR (q_blockR (q_thenR (q_thenR (q_blockR (q_thenR (q_ret1 rfl rfl ?_))))))))))))
       replace H := H.nil
       have e : ¬ mayJ J := by
         rintro ⟨g1, g2, g3, g4, g5, g6, g7, g8, g9, g10, g11⟩
         have g := hm.2 g5; rw [drop_at hx43] at g; have g0 := g.1; omega
       exact fin ⟨congrArg Value.bool (decide_eq_false e).symm, rfl⟩ H
      ·refine c_skip (q_then (c_reg (s_k 2 rfl (s_nil (q_blockN (q_then (c_reg (s_val rfl rfl (r_add (z := ((j + 1 : Nat) : Int)) rfl rfl rfl (by rw [w64 (by omega) (by omega)]; omega)) (s_1 rfl (s_nil ?_))))))))))
       have hm2 : marksUp J.us.length x42 (J.marks.drop (j + 1)) ↔ marksUp J.us.length 0 J.marks := by rw [← hm, drop_at hx43]; exact ⟨fun g => ⟨by omega, g⟩, fun g => g.2⟩
       exact q_round (s := (j, last)) (j + 1, x42) ⟨rfl, rfl, rfl, rfl, rfl, trivial⟩ ⟨H, by (try dsimp only); omega, hm2⟩ (by (try dsimp only); omega)
     ·refine c_exit (q_thenE (q_thenE (q_blockE (q_then (c_seq (c_reg (s_val rfl rfl (r_fa rfl fo26_2 rfl) (s_val rfl rfl (r_ld rfl ty23 rfl (H.cellI 0 rfl rfl)) (sc (jruns_ok (.slice A6 J.map.length c7) J.map) H (lR 1 rfl l0) rfl rfl (e_fn kn153 rfl rfl) ?_)))))))))
      rintro _ _ w ⟨rfl, rfl⟩ H
      refine s_1 rfl ?_
      refine s_dec (d := 61) rfl (fun h46 => ?_) (fun h46 => ?_)
      ·refine s_val rfl rfl (r_fa rfl fo26_4 rfl) (s_val rfl rfl (r_ld rfl ty23 rfl (H.cellI 0 rfl rfl)) (sc (jruns_ok (.slice A16 J.red.length c17) J.red) H (lR 3 rfl l0) rfl rfl (e_fn kn153 rfl rfl) ?_))
       rintro _ _ w ⟨rfl, rfl⟩ H
       refine s_k 2 rfl ?_
       refine s_dec (d := 66) rfl (fun h47 => ?_) (fun h47 => ?_)
       ·refine s_val rfl rfl (r_fa rfl fo26_3 rfl) (s_val rfl rfl (r_ld rfl ty23 rfl (H.cellI 0 rfl rfl)) (sc (pMay_ok (.slice A11 J.comb.length c12) J.comb) H (lR 2 rfl l0) rfl rfl (e_fn kn154 rfl rfl) ?_))
        rintro _ _ w ⟨rfl, rfl⟩ H
        refine s_k 2 rfl ?_
        refine s_dec (d := 71) rfl (fun h48 => ?_) (fun h48 => ?_)
        ·refine s_val rfl rfl (r_fa rfl fo26_5 rfl) (s_val rfl rfl (r_ld rfl ty3 rfl (H.cellI 0 rfl rfl)) (sc (within_ok J.chunk 1 7) H l0 rfl rfl (e_fn kn89 rfl rfl) ?_))
         rintro _ _ w ⟨rfl, rfl⟩ H
         refine s_k 2 rfl ?_
         refine s_dec (d := 76) rfl (fun h49 => ?_) (fun h49 => ?_)
         ·refine s_val rfl rfl (r_fa rfl fo26_6 rfl) (s_val rfl rfl (r_ld rfl ty3 rfl (H.cellI 0 rfl rfl)) (sc (within_ok J.window 1 4) H l0 rfl rfl (e_fn kn89 rfl rfl) ?_))
          rintro _ _ w ⟨rfl, rfl⟩ H
          refine s_k 2 rfl ?_
          refine s_dec (d := 81) rfl (fun h50 => ?_) (fun h50 => ?_)
          ·refine s_val rfl rfl (r_fa rfl fo26_7 rfl) (s_val rfl rfl (r_ld rfl ty3 rfl (H.cellI 0 rfl rfl)) (sc (within_ok J.fuel 1 2000) H l0 rfl rfl (e_fn kn89 rfl rfl) ?_))
           rintro _ _ w ⟨rfl, rfl⟩ H
           refine s_k 2 rfl (s_nil (q_then (c_ret (q_ret1 rfl rfl ?_))))
           replace H := H.nil
           have hmk : marksUp J.us.length 0 J.marks := hm.1 (by rw [List.drop_eq_nil_of_le (by omega)]; trivial)
           have e : (1 ≤ J.fuel ∧ J.fuel ≤ 2000) ↔ mayJ J := ⟨fun g => ⟨by omega, by omega, by omega, hal, hmk, by omega, by omega, by omega, by omega, by omega, by omega⟩, fun g => by have g6 := g.2.2.2.2.2; omega⟩
           exact fin ⟨congrArg Value.bool (decide_eq_decide.2 e), rfl⟩ H
          ·refine s_k 5 rfl (s_nil (q_then (c_ret (q_ret1 rfl rfl ?_))))
           replace H := H.nil
           have e : ¬ mayJ J := by
             rintro ⟨g1, g2, g3, g4, g5, g6, g7, g8, g9, g10, g11⟩
             omega
           exact fin ⟨congrArg Value.bool (decide_eq_false e).symm, rfl⟩ H
         ·refine s_k 10 rfl (s_nil (q_then (c_ret (q_ret1 rfl rfl ?_))))
          replace H := H.nil
          have e : ¬ mayJ J := by
            rintro ⟨g1, g2, g3, g4, g5, g6, g7, g8, g9, g10, g11⟩
            omega
          exact fin ⟨congrArg Value.bool (decide_eq_false e).symm, rfl⟩ H
        ·refine s_k 12 rfl (s_k 3 rfl (s_nil (q_then (c_ret (q_ret1 rfl rfl ?_)))))
         replace H := H.nil
         have e : ¬ mayJ J := by
           rintro ⟨g1, g2, g3, g4, g5, g6, g7, g8, g9, g10, g11⟩
           omega
         exact fin ⟨congrArg Value.bool (decide_eq_false e).symm, rfl⟩ H
       ·refine s_k 12 rfl (s_k 8 rfl (s_nil (q_then (c_ret (q_ret1 rfl rfl ?_)))))
        replace H := H.nil
        have e : ¬ mayJ J := by
          rintro ⟨g1, g2, g3, g4, g5, g6, g7, g8, g9, g10, g11⟩
          omega
        exact fin ⟨congrArg Value.bool (decide_eq_false e).symm, rfl⟩ H
      ·refine s_k 12 rfl (s_k 12 rfl (s_1 rfl (s_nil (q_then (c_ret (q_ret1 rfl rfl ?_))))))
       replace H := H.nil
       have e : ¬ mayJ J := by
         rintro ⟨g1, g2, g3, g4, g5, g6, g7, g8, g9, g10, g11⟩
         omega
       exact fin ⟨congrArg Value.bool (decide_eq_false e).symm, rfl⟩ H
set_option maxHeartbeats 1000000 in
theorem greatJob_ok (vS vM vC vR vK : Value) (J : Job) :
    Cn Tryz.prog 18 [.agg #[vS, .int .i64 J.parts, vM, vC, vR, .int .i64 J.chunk, .int .i64 J.window, .int .i64 J.fuel, vK]] [] [rsl (kHd kPair) vS J.us, rsl kIns vM J.map, rsl kIns vC J.comb, rsl kIns vR J.red, rsl (kInt .i64) vK J.marks] (fun v Bs => v = .bool (greatJ J) ∧ Bs = []) := by
 intro w0 F0 H
 obtain ⟨A1, c2, rfl, hc3, hm4, hp5⟩ := H.fR 0 rfl
 obtain ⟨A6, c7, rfl, hc8, hm9, hp10⟩ := H.fR 1 rfl
 obtain ⟨A11, c12, rfl, hc13, hm14, hp15⟩ := H.fR 2 rfl
 obtain ⟨A16, c17, rfl, hc18, hm19, hp20⟩ := H.fR 3 rfl
 obtain ⟨A21, c22, rfl, hc23, hm24, hp25⟩ := H.fR 4 rfl
 refine enter Tryz.func18 rfl rfl (Nat.le_of_ble_eq_true rfl) (c_seq (c_reg (s_box rfl rfl rfl rfl H (fun b26 w H => (s_1 rfl (s_nil (q_then ?_)))))))
 replace H : Hd _ _ _ [blk b26 [.slice A1 J.us.length c2, .int .i64 J.parts, .slice A6 J.map.length c7, .slice A11 J.comb.length c12, .slice A16 J.red.length c17, .int .i64 J.chunk, .int .i64 J.window, .int .i64 J.fuel, .slice A21 J.marks.length c22] 26] [rsl (kHd kPair) (.slice A1 J.us.length c2) J.us, rsl kIns (.slice A6 J.map.length c7) J.map, rsl kIns (.slice A11 J.comb.length c12) J.comb, rsl kIns (.slice A16 J.red.length c17) J.red, rsl (kInt .i64) (.slice A21 J.marks.length c22) J.marks] := H
 refine c_seq (c_seq (c_reg (s_1 rfl (s_nil (q_then (c_block (c_loop (σ := Nat) (fun k => [(1, .pointer (some ⟨b26, 0, none⟩)), (3, .int .i64 ((k : Nat) : Int))]) (fun k w => (Hd w0 F0 w [blk b26 [.slice A1 J.us.length c2, .int .i64 J.parts, .slice A6 J.map.length c7, .slice A11 J.comb.length c12, .slice A16 J.red.length c17, .int .i64 J.chunk, .int .i64 J.window, .int .i64 J.fuel, .slice A21 J.marks.length c22] 26] [rsl (kHd kPair) (.slice A1 J.us.length c2) J.us, rsl kIns (.slice A6 J.map.length c7) J.map, rsl kIns (.slice A11 J.comb.length c12) J.comb, rsl kIns (.slice A16 J.red.length c17) J.red, rsl (kInt .i64) (.slice A21 J.marks.length c22) J.marks]) ∧ (k ≤ J.us.length) ∧ (∀ u ∈ J.us.take k, greatP u.2 10 = false)) (fun k => J.us.length - k) 0 ⟨rfl, rfl, trivial⟩ ⟨H, by omega, by simp⟩ ?_)))))))
 rintro k w ⟨H, hk, hn⟩
 refine c_seq (c_seq (c_reg (s_1 rfl (s_val rfl rfl (r_fa rfl fo26_0 rfl) (s_val rfl rfl (r_ld rfl ty22 rfl (H.cellI 0 rfl rfl)) (s_val rfl rfl (r_lenL rfl un22 rfl) (s_val rfl rfl (r_lt rfl rfl rfl) (s_1 rfl ?_))))))))
 refine s_dec (d := 9) rfl (fun h27 => ?_) (fun h27 => ?_)
 ·refine s_val rfl rfl (r_fa rfl fo26_0 rfl) (s_val rfl rfl (r_ld rfl ty22 rfl (H.cellI 0 rfl rfl)) (s_val rfl rfl (r_lenL rfl un22 rfl) (s_val rfl rfl (r_le rfl rfl rfl) (s_1 rfl (s_nil (q_then ?_))))))
  refine c_dec rfl (fun h28 => ?_) (fun h28 => ?_)
  ·refine c_skip (q_then (c_seq (c_block (c_seq (c_reg (s_val rfl rfl (r_fa rfl fo26_0 rfl) (s_val rfl rfl (r_ld rfl ty22 rfl (H.cellI 0 rfl rfl)) (s_1 rfl ?_))))))))
   obtain ⟨⟨u31, x29⟩, hx30⟩ : ∃ z9, J.us[k]? = some z9 := ⟨_, List.getElem?_eq_getElem (show k < J.us.length by omega)⟩
   obtain ⟨A32, c33, rfl, hc34, hm35⟩ := H.nestR 0 rfl hx30
   have th36 := H.thRd 0 rfl hx30
   refine s_val rfl rfl (r_iaE (p := oOf A1 + k * 1) rfl sl22 rfl rfl (by omega) (by omega) th36 rfl) (s_val rfl rfl (r_ld rfl ty35 rfl (H.elRd 0 rfl hx30 rfl)) (sc (greatPairs_ok (.slice A32 x29.length c33) x29 10) H (lX (fun F hA hR => nest_rsl (hR _ (List.mem_of_getElem? (i := 0) rfl)) hx30) l0) rfl rfl (e_fn kn23 rfl rfl) ?_))
   rintro _ _ w ⟨rfl, rfl⟩ H
   refine s_nil (q_then ?_)
   refine c_cond (b := greatP x29 10) rfl (fun h37 => ?_) (fun h37 => ?_)
   ·refine c_seq (c_reg (s_1 rfl (s_nil (q_then (c_ret (q_blockR (q_thenR (q_thenR (q_blockR (q_thenR (q_ret1 rfl rfl ?_)))))))))))
    replace H := H.nil
    exact fin ⟨congrArg Value.bool (greatJ_hit hx30 h37), rfl⟩ H
   ·refine c_skip (q_blockN (q_then (c_reg (s_1 rfl (s_val rfl rfl (r_add (z := ((k + 1 : Nat) : Int)) rfl rfl rfl (by rw [w64 (by omega) (by omega)]; omega)) (s_1 rfl (s_nil ?_)))))))
    have hn2 := take_prop (Q := fun u : Value × List Pair => greatP u.2 10 = false) hn hx30 (show greatP x29 10 = false by simpa using h37)
    exact q_round (s := k) (k + 1) ⟨rfl, rfl, trivial⟩ ⟨H, by (try dsimp only); omega, hn2⟩ (by (try dsimp only); omega)
  ·refine c_exit (q_thenE (q_thenE (q_blockE (q_then (c_seq (c_reg (s_val rfl rfl (r_fa rfl fo26_0 rfl) (s_val rfl rfl (r_ld rfl ty22 rfl (H.cellI 0 rfl rfl)) (s_val rfl rfl (r_lenL rfl un22 rfl) (s_val rfl rfl (r_gt rfl rfl rfl) (s_1 rfl ?_)))))))))))
   refine s_dec (d := 27) rfl (fun h38 => ?_) (fun h38 => ?_)
   ·refine s_k 12 rfl (s_k 9 rfl (s_nil (q_then (c_ret (q_ret1 rfl rfl ?_)))))
    replace H := H.nil
    exact fin ⟨congrArg Value.bool (greatJ_of (by first | exact .inl (by omega) | exact .inr (.inl (by omega)) | exact .inr (.inr (.inl h38)) | exact .inr (.inr (.inr h38)))), rfl⟩ H
   ·refine s_val rfl rfl (r_fa rfl fo26_8 rfl) (s_val rfl rfl (r_ld rfl ty24 rfl (H.cellI 0 rfl rfl)) (s_val rfl rfl (r_lenL rfl un24 rfl) (s_val rfl rfl (r_gt rfl rfl rfl) (s_k 2 rfl ?_))))
    refine s_dec (d := 33) rfl (fun h39 => ?_) (fun h39 => ?_)
    ·refine s_k 12 rfl (s_k 3 rfl (s_nil (q_then (c_ret (q_ret1 rfl rfl ?_)))))
     replace H := H.nil
     exact fin ⟨congrArg Value.bool (greatJ_of (by first | exact .inl (by omega) | exact .inr (.inl (by omega)) | exact .inr (.inr (.inl h39)) | exact .inr (.inr (.inr h39)))), rfl⟩ H
    ·refine s_val rfl rfl (r_fa rfl fo26_2 rfl) (s_val rfl rfl (r_ld rfl ty23 rfl (H.cellI 0 rfl rfl)) (sc (greatCode_ok (.slice A6 J.map.length c7) J.map) H (lR 1 rfl l0) rfl rfl (e_fn kn87 rfl rfl) ?_))
     rintro _ _ w ⟨rfl, rfl⟩ H
     refine s_k 2 rfl ?_
     refine s_boo (d := 38) (b := greatC J.map) rfl (fun h40 => ?_) (fun h40 => ?_)
     ·refine s_k 10 rfl (s_nil (q_then (c_ret (q_ret1 rfl rfl ?_))))
      replace H := H.nil
      exact fin ⟨congrArg Value.bool (greatJ_of (by first | exact .inl (by omega) | exact .inr (.inl (by omega)) | exact .inr (.inr (.inl h40)) | exact .inr (.inr (.inr h40)))), rfl⟩ H
     ·refine s_val rfl rfl (r_fa rfl fo26_3 rfl) (s_val rfl rfl (r_ld rfl ty23 rfl (H.cellI 0 rfl rfl)) (sc (greatCode_ok (.slice A11 J.comb.length c12) J.comb) H (lR 2 rfl l0) rfl rfl (e_fn kn87 rfl rfl) ?_))
      rintro _ _ w ⟨rfl, rfl⟩ H
      refine s_k 2 rfl ?_
      refine s_boo (d := 43) (b := greatC J.comb) rfl (fun h41 => ?_) (fun h41 => ?_)
      ·refine s_k 5 rfl (s_nil (q_then (c_ret (q_ret1 rfl rfl ?_))))
       replace H := H.nil
       exact fin ⟨congrArg Value.bool (greatJ_of (by first | exact .inl (by omega) | exact .inr (.inl (by omega)) | exact .inr (.inr (.inl h41)) | exact .inr (.inr (.inr h41)))), rfl⟩ H
      ·refine s_val rfl rfl (r_fa rfl fo26_4 rfl) (s_val rfl rfl (r_ld rfl ty23 rfl (H.cellI 0 rfl rfl)) (sc (greatCode_ok (.slice A16 J.red.length c17) J.red) H (lR 3 rfl l0) rfl rfl (e_fn kn87 rfl rfl) ?_))
       rintro _ _ w ⟨rfl, rfl⟩ H
       refine s_k 2 rfl (s_nil (q_then (c_ret (q_ret1 rfl rfl ?_))))
       replace H := H.nil
       exact fin ⟨congrArg Value.bool (greatJ_fin hn (by omega) (by omega) (by omega) (by simpa using h40) (by simpa using h41)), rfl⟩ H
 ·refine s_k 5 rfl (s_nil (q_then (c_no rfl (c_exit (q_thenE (q_thenE (q_blockE (q_then (c_seq (c_reg (s_val rfl rfl (r_fa rfl fo26_0 rfl) (s_val rfl rfl (r_ld rfl ty22 rfl (H.cellI 0 rfl rfl)) (s_val rfl rfl (r_lenL rfl un22 rfl) (s_val rfl rfl (r_gt rfl rfl rfl) (s_1 rfl ?_)))))))))))))))
  refine s_dec (d := 27) rfl (fun h42 => ?_) (fun h42 => ?_)
  ·refine s_k 12 rfl (s_k 9 rfl (s_nil (q_then (c_ret (q_ret1 rfl rfl ?_)))))
   replace H := H.nil
   exact fin ⟨congrArg Value.bool (greatJ_of (by first | exact .inl (by omega) | exact .inr (.inl (by omega)) | exact .inr (.inr (.inl h42)) | exact .inr (.inr (.inr h42)))), rfl⟩ H
  ·refine s_val rfl rfl (r_fa rfl fo26_8 rfl) (s_val rfl rfl (r_ld rfl ty24 rfl (H.cellI 0 rfl rfl)) (s_val rfl rfl (r_lenL rfl un24 rfl) (s_val rfl rfl (r_gt rfl rfl rfl) (s_k 2 rfl ?_))))
   refine s_dec (d := 33) rfl (fun h43 => ?_) (fun h43 => ?_)
   ·refine s_k 12 rfl (s_k 3 rfl (s_nil (q_then (c_ret (q_ret1 rfl rfl ?_)))))
    replace H := H.nil
    exact fin ⟨congrArg Value.bool (greatJ_of (by first | exact .inl (by omega) | exact .inr (.inl (by omega)) | exact .inr (.inr (.inl h43)) | exact .inr (.inr (.inr h43)))), rfl⟩ H
   ·refine s_val rfl rfl (r_fa rfl fo26_2 rfl) (s_val rfl rfl (r_ld rfl ty23 rfl (H.cellI 0 rfl rfl)) (sc (greatCode_ok (.slice A6 J.map.length c7) J.map) H (lR 1 rfl l0) rfl rfl (e_fn kn87 rfl rfl) ?_))
    rintro _ _ w ⟨rfl, rfl⟩ H
    refine s_k 2 rfl ?_
    refine s_boo (d := 38) (b := greatC J.map) rfl (fun h44 => ?_) (fun h44 => ?_)
    ·refine s_k 10 rfl (s_nil (q_then (c_ret (q_ret1 rfl rfl ?_))))
     replace H := H.nil
     exact fin ⟨congrArg Value.bool (greatJ_of (by first | exact .inl (by omega) | exact .inr (.inl (by omega)) | exact .inr (.inr (.inl h44)) | exact .inr (.inr (.inr h44)))), rfl⟩ H
    ·refine s_val rfl rfl (r_fa rfl fo26_3 rfl) (s_val rfl rfl (r_ld rfl ty23 rfl (H.cellI 0 rfl rfl)) (sc (greatCode_ok (.slice A11 J.comb.length c12) J.comb) H (lR 2 rfl l0) rfl rfl (e_fn kn87 rfl rfl) ?_))
     rintro _ _ w ⟨rfl, rfl⟩ H
     refine s_k 2 rfl ?_
     refine s_boo (d := 43) (b := greatC J.comb) rfl (fun h45 => ?_) (fun h45 => ?_)
     ·refine s_k 5 rfl (s_nil (q_then (c_ret (q_ret1 rfl rfl ?_))))
      replace H := H.nil
      exact fin ⟨congrArg Value.bool (greatJ_of (by first | exact .inl (by omega) | exact .inr (.inl (by omega)) | exact .inr (.inr (.inl h45)) | exact .inr (.inr (.inr h45)))), rfl⟩ H
     ·refine s_val rfl rfl (r_fa rfl fo26_4 rfl) (s_val rfl rfl (r_ld rfl ty23 rfl (H.cellI 0 rfl rfl)) (sc (greatCode_ok (.slice A16 J.red.length c17) J.red) H (lR 3 rfl l0) rfl rfl (e_fn kn87 rfl rfl) ?_))
      rintro _ _ w ⟨rfl, rfl⟩ H
      refine s_k 2 rfl (s_nil (q_then (c_ret (q_ret1 rfl rfl ?_))))
      replace H := H.nil
      exact fin ⟨congrArg Value.bool (greatJ_fin hn (by omega) (by omega) (by omega) (by simpa using h44) (by simpa using h45)), rfl⟩ H
set_option maxHeartbeats 1000000 in
theorem partNum_ok (key : ByteArray) (hb0 : key.size ≤ 9223372036854775807) :
    Cn Tryz.prog 215 [.string key] [] [] (fun v Bs => v = .int .u32 (numK key key.size) ∧ Bs = []) := by
 intro w0 F0 H
 refine enter Tryz.func215 rfl rfl (Nat.le_of_ble_eq_true rfl) (c_seq (c_reg (s_1 rfl (s_nil (q_then (c_seq (c_reg (s_1 rfl (s_nil (q_then (c_seq (c_seq (c_reg (s_1 rfl (s_val rfl rfl (r_lenS rfl un9 rfl) (s_1 rfl (s_nil (q_then (c_block (c_loop (σ := Nat) (fun k => [(0, .string key), (2, .int .u32 0), (3, .int .u32 (numK key k)), (6, .int .i64 ((key.size : Nat) : Int)), (7, .int .i64 ((k : Nat) : Int))]) (fun k w => (Hd w0 F0 w [] []) ∧ (k ≤ key.size)) (fun k => key.size - k) 0 ⟨rfl, rfl, rfl, rfl, rfl, trivial⟩ ⟨H, by (try dsimp only); omega⟩ ?_))))))))))))))))))))
 rintro k w ⟨H, hk⟩
 refine c_seq (c_reg (s_val rfl rfl (r_lt rfl rfl rfl) (s_nil (q_then (c_seq ?_)))))
 refine c_dec rfl (fun h1 => ?_) (fun h1 => ?_)
 ·refine c_skip (q_then (c_seq (c_block (c_seq (c_reg (s_k 2 rfl (s_nil (q_then (c_reg (s_1 rfl (s_val rfl rfl (r_mul (z := IntKind.u32.wrap (31 * numK key k)) rfl rfl rfl rfl) (s_k 2 rfl ?_))))))))))))
  obtain ⟨b, hb⟩ : ∃ b, key[k]? = some b := ⟨_, getElem?_pos key k (by omega)⟩
  exact s_val rfl rfl (r_idxS rfl un9 rfl rfl (by omega) hb) (s_val rfl rfl (r_i2i (z := ((b).toNat : Int)) rfl rfl un5 un206 (wu32b b)) (s_val rfl rfl (r_add (z := IntKind.u32.wrap (IntKind.u32.wrap (31 * numK key k) + (b.toNat : Int))) rfl rfl rfl rfl) (s_1 rfl (s_nil (q_blockN (q_then (c_reg (s_val rfl rfl (r_add (z := ((k + 1 : Nat) : Int)) rfl rfl rfl (by rw [w64 (by omega) (by omega)]; omega)) (s_1 rfl (s_nil (q_round (s := k) (k + 1) ⟨rfl, rfl, congrArg (fun z => some (Value.int .u32 z)) (numK_step hb).symm, rfl, rfl, trivial⟩ ⟨H, by (try dsimp only); omega⟩ (by (try dsimp only); omega))))))))))))
 ·refine c_exit (q_thenE (q_thenE (q_blockE (q_then (c_seq (c_reg (s_k 2 rfl (s_nil (q_then (c_ret (q_ret1 rfl rfl ?_)))))))))))
  obtain rfl : k = key.size := by omega
  exact fin ⟨rfl, rfl⟩ H
set_option maxHeartbeats 1000000 in
theorem partOf_ok (key : ByteArray) (n : Int) (hb0 : key.size ≤ 9223372036854775807) (hn : n ≤ 9223372036854775807) :
    Cn Tryz.prog 178 [.string key, .int .i64 n] [] [] (fun v Bs => v = .int .i64 (partO key n) ∧ Bs = []) := by
 intro w0 F0 H
 refine enter Tryz.func178 rfl rfl (Nat.le_of_ble_eq_true rfl) (c_seq (c_reg (s_1 rfl (s_nil (q_then (c_seq (c_seq (c_reg (s_1 rfl (s_val rfl rfl (r_lt rfl rfl rfl) (s_nil (q_then ?_))))))))))))
 refine c_dec rfl (fun h1 => ?_) (fun h1 => ?_)
 ·exact c_seq (c_reg (s_1 rfl (s_nil (q_then (c_ret (q_thenR (q_ret1 rfl rfl (fin ⟨congrArg (Value.int .i64) (if_pos h1).symm, rfl⟩ H))))))))
 ·refine c_skip (q_then (c_seq (c_reg (s_1 rfl (sc (partNum_ok key (by first | omega | decide)) H l0 rfl rfl (e_fn kn215 rfl rfl) ?_)))))
  rintro _ _ w ⟨rfl, rfl⟩ H
  exact s_val rfl rfl (r_i2i (z := numK key key.size) rfl rfl un206 un270 (wu64 (numK_range key key.size).1 (by have := (numK_range key key.size).2; omega))) (s_1 rfl (s_val rfl rfl (r_i2i (z := n) rfl rfl un3 un270 (wu64 (by omega) (by omega))) (s_val rfl rfl (r_rem (z := (numK key key.size) % n) rfl rfl rfl (by omega) (Int.tmod_eq_emod_of_nonneg (numK_range key key.size).1)) (s_val rfl rfl (r_i2i (z := (numK key key.size) % n) rfl rfl un270 un3 (w64 (by have := Int.emod_nonneg (numK key key.size) (show n ≠ 0 by omega); omega) (by have := Int.emod_lt_of_pos (numK key key.size) (show 0 < n by omega); omega))) (s_1 rfl (s_nil (q_then (c_ret (q_ret1 rfl rfl (fin ⟨congrArg (Value.int .i64) (if_neg h1).symm, rfl⟩ H))))))))))
set_option maxHeartbeats 1000000 in
theorem only_ok (vxs : Value) (xs : List Pair) (n : Int) (p : Int) (hb : xs.length ≤ 1000000) (hn : n ≤ 9223372036854775807) (hk : ∀ x ∈ xs, x.key.size ≤ 9223372036854775807) :
    Cn Tryz.prog 126 [vxs, .int .i64 n, .int .i64 p] [] [rsl kPair vxs xs] (fun v Bs => Bs = [osl kPair v (onlyP xs n p)]) := by
 intro w0 F0 H
 obtain ⟨A1, c2, rfl, hc3, hm4, hp5⟩ := H.fR 0 rfl
 refine enter Tryz.func126 rfl rfl (Nat.le_of_ble_eq_true rfl) (c_seq (c_reg (s_1 rfl (s_nil (q_then ?_)))))
 replace H : Hd _ _ _ [] [rsl kPair (.slice A1 xs.length c2) xs] := H
 refine c_seq (c_reg (s_1 rfl (s_nil (q_then (c_seq (c_seq (c_reg (s_1 rfl (s_val rfl rfl (r_lenL rfl un35 rfl) (s_1 rfl (s_nil (q_then (c_block ?_)))))))))))))
 replace H := H.newnil kPair
 refine c_loop (σ := Nat × Value) (fun (k, l) => [(1, .int .i64 n), (2, .int .i64 p), (6, .slice none 0 0), (7, l), (10, .slice A1 xs.length c2), (11, .int .i64 ((xs.length : Nat) : Int)), (12, .int .i64 ((k : Nat) : Int))]) (fun (k, l) w => (Hd w0 F0 w [osl kPair l (onlyP (xs.take k) n p)] [rsl kPair (.slice A1 xs.length c2) xs]) ∧ (k ≤ xs.length)) (fun (k, l) => xs.length - k) (0, .slice none 0 0) ⟨rfl, rfl, rfl, rfl, rfl, rfl, rfl, trivial⟩ ⟨H, by (try dsimp only); omega⟩ ?_
 rintro ⟨k, l⟩ w ⟨H, hk0⟩
 have hjl := only_len (xs.take k) n p
 have hjt : (xs.take k).length ≤ xs.length := by simp; omega
 refine c_seq (c_reg (s_val rfl rfl (r_lt rfl rfl rfl) (s_nil (q_then (c_seq ?_)))))
 refine c_dec rfl (fun h6 => ?_) (fun h6 => ?_)
 ·refine c_skip (q_then (c_seq (c_block (c_seq (c_reg ?_)))))
  obtain ⟨x7, hx8⟩ : ∃ z9, xs[k]? = some z9 := ⟨_, List.getElem?_eq_getElem (show k < xs.length by omega)⟩
  have th9 := H.thR 0 rfl hx8
  refine s_val rfl rfl (r_iaE (p := oOf A1 + k * 2) rfl sl35 rfl rfl (by omega) (by omega) th9 rfl) (s_val rfl rfl (r_ldA (cs := [.string x7.key, .string x7.val]) rfl ty106 rfl rfl (H.elsR 0 rfl hx8 rfl)) (s_alloc rfl rfl rfl zr106 H (fun b10 w H => (s_st rfl rfl rfl ty106 rfl rfl H rfl (Nat.le_of_ble_eq_true rfl) (fun u hu => by simp [Value.cells] at hu; rcases hu with rfl | rfl <;> rfl) (fun w H => ?_)))))
  replace H := H.h2 (A := blk b10 [.string x7.key, .string x7.val] 106) (B := osl kPair l (onlyP (xs.take k) n p))
  refine s_nil (q_then (c_seq ?_))
  have hkx := hk _ (at_mem hx8)
  refine c_reg (s_val rfl rfl (r_fa rfl fo106_0 rfl) (s_val rfl rfl (r_ld rfl ty9 rfl (H.cellI 0 rfl rfl)) (s_1 rfl (sc (partOf_ok x7.key n (by first | omega | decide) (by first | omega | decide)) H l0 rfl rfl (e_fn kn178 rfl rfl) ?_))))
  rintro _ _ w ⟨rfl, rfl⟩ H
  refine s_1 rfl (s_val rfl rfl (r_eq rfl rfl rfl) (s_nil (q_then ?_)))
  refine c_dec rfl (fun h11 => ?_) (fun h11 => ?_)
  ·refine c_reg (s_1 rfl (s_val rfl rfl (r_ldA (cs := [.string x7.key, .string x7.val]) rfl ty106 rfl rfl (H.cellsI 0 rfl rfl)) (s_bsl (parts := [(0, .tmp 23)]) (vs := [.agg #[.string x7.key, .string x7.val]]) (cs := [.string x7.key, .string x7.val]) rfl rfl rfl sl35 zr106 rfl (by decide) (by decide) rfl rfl H (fun b12 w H => ?_))))
   replace H := H.p2
   refine s_appF (xs := onlyP (xs.take k) n p) (ys := [x7]) rfl rfl rfl sl35 zr106 rfl (by decide) rfl rfl H (by omega) (fun F hA hR => blk_rsl (hA _ (List.mem_of_getElem? (i := 0) rfl)) rfl (by decide) (RepsR.flat_eq.2 rfl)) (fun v13 w H => (s_1 rfl (s_nil (q_blockN (q_then ?_)))))
   replace H : Hd _ _ _ [osl kPair v13 ((onlyP (xs.take k) n p) ++ [x7]), blk b12 [.string x7.key, .string x7.val] 106, blk b10 [.string x7.key, .string x7.val] 106] [rsl kPair (.slice A1 xs.length c2) xs] := H
   refine c_reg (s_val rfl rfl (r_add (z := ((k + 1 : Nat) : Int)) rfl rfl rfl (by rw [w64 (by omega) (by omega)]; omega)) (s_1 rfl (s_nil ?_)))
   rw [← only_yes hx8 h11] at H
   replace H := H.k1
   exact q_round (s := (k, undef)) (k + 1, v13) ⟨rfl, rfl, rfl, rfl, rfl, rfl, rfl, trivial⟩ ⟨H, by (try dsimp only); omega⟩ (by (try dsimp only); omega)
  ·refine c_skip (q_blockN (q_then (c_reg (s_val rfl rfl (r_add (z := ((k + 1 : Nat) : Int)) rfl rfl rfl (by rw [w64 (by omega) (by omega)]; omega)) (s_1 rfl (s_nil ?_))))))
   rw [← only_no hx8 h11] at H
   replace H := H.sel 2 [1] [0] rfl (by kernel_rfl)
   exact q_round (s := (k, undef)) (k + 1, l) ⟨rfl, rfl, rfl, rfl, rfl, rfl, rfl, trivial⟩ ⟨H, by (try dsimp only); omega⟩ (by (try dsimp only); omega)
 ·refine c_exit (q_thenE (q_thenE (q_blockE (q_then (c_seq (c_reg (s_k 2 rfl (s_nil (q_then (c_ret (q_ret1 rfl rfl ?_)))))))))))
  rw [List.take_of_length_le (show xs.length ≤ k by omega)] at H
  exact fin rfl H

/-! ### Chunks that wait -/
abbrev Stg := List ((Int × Int) × List (List Pair))
def sgOf : Stg → Int → Int → List (List Pair)
 | [], _, _ => []
 | e :: s, a, b => if e.1.1 = a ∧ e.1.2 = b then e.2 else sgOf s a b
def sgNext (s : Stg) (a b : Int) : Int := ((sgOf s a b).length : Int)
def sgMay (s : Stg) (a b q : Int) : Prop := q = sgNext s a b ∧ (0 ≤ a ∧ a < 6) ∧ (1 ≤ b ∧ b ≤ 3) ∧ q < 40
instance (s : Stg) (a b q : Int) : Decidable (sgMay s a b q) := by unfold sgMay; infer_instance
/-! ### A reducer -/
structure SpD where
 merged : Bool
 pairs : List Pair
 told : Bool
 att : Int
 cnt : Int
def setD {α : Type} (g : Nat → α) (k : Nat) (v : α) : Nat → α := fun j => if j = k then v else g j
theorem setD_self {α : Type} (g : Nat → α) (k : Nat) (v : α) : setD g k v k = v := if_pos rfl
theorem setD_ne {α : Type} (g : Nat → α) {k j : Nat} (v : α) (h : j ≠ k) : setD g k v j = g j := if_neg h
structure Red where
 part : Int
 ep : Int
 g : Nat → SpD
 st : Stg
 sets : List (List Int)
def mergedL (n : Nat) (R : Red) : List Int := ((List.range n).filter fun i => (R.g i).merged).map fun (i : Nat) => (i : Int)
def runsOf (n : Nat) (R : Red) (set : List Int) : List Pair := ((List.range n).filter fun i => (R.g i).merged && decide ((i : Int) ∈ set)).flatMap fun i => (R.g i).pairs
def ofR (D : Dig) (J : Job) (R : Red) (set : List Int) : List Pair × Int := eachM D J.red (srt (runsOf J.us.length R set)) J.fuel false
def outR (D : Dig) (J : Job) (R : Red) : List Pair × Int × Bool :=
 if (mergedL J.us.length R).length < J.us.length then ([], 0, false) else ((ofR D J R (mergedL J.us.length R)).1, (ofR D J R (mergedL J.us.length R)).2, true)
/-! ### What a part knows when it begins -/
/-! ### Records of all splits, in whatever order -/
/-! ### What it hears, what it tells -/
def pushNo (J : Job) (R : Red) (m : Msg) : Prop := ¬ (0 ≤ m.sp ∧ m.sp < J.us.length) ∨ m.kind ≠ 2 ∨ m.part ≠ R.part
instance (J : Job) (R : Red) (m : Msg) : Decidable (pushNo J R m) := by unfold pushNo; infer_instance
def pushTakes (R : Red) (m : Msg) : Prop := (R.g m.sp.toNat).merged = false ∧ m.pairs.length ≤ 8 ∧ mayL m.pairs
instance (R : Red) (m : Msg) : Decidable (pushTakes R m) := by unfold pushTakes; infer_instance
def wonNo (J : Job) (t : Int) (R : Red) (sp att : Int) : Prop := ¬ (0 ≤ sp ∧ sp < J.us.length) ∨ (R.g sp.toNat).merged = true ∨ (R.g sp.toNat).told = true ∨ att < 1 ∨ t < att
instance (J : Job) (t : Int) (R : Red) (sp att : Int) : Decidable (wonNo J t R sp att) := by unfold wonNo; infer_instance
structure SnapP where
 set : List Int
 why : Int
 pairs : List Pair

section
variable {vS vM vC vR vK vs : Value} {J : Job} {w t o part ep : Int} {g : Nat → SpD} {hv : Nat → Value} {sb j : Nat}
end
theorem big_rd {α : Type} {f : α → SP} {l : List α} {w : World} {F : Foot} (h : (bigS f l).P w F) {x : α} (hx : x ∈ l) : (f x).P w F := Star.mem h (List.mem_map_of_mem hx)
section
variable {w0 w : World} {F0 : Foot} {As Rs : List SP} {g : Nat → SpD} {hv : Nat → Value} {i : Nat}
end
/-! ### A row of headers held, and each slice held: a slice of slices held -/
section
variable {α : Type} {d : Kd α} {w0 w : World} {F F0 : Foot} {As Rs : List SP} {v : Value} {us : List (Value × List α)}
def hdr1 (us : List (Value × List α)) : List Hdr := us.map fun u => hdrOf u.1
def inS (d : Kd α) (us : List (Value × List α)) : SP := bigS (fun u : Value × List α => osl d u.1 u.2) us
theorem reps_in : ∀ {us : List (Value × List α)} {F : Foot}, (inS d us).P w F → RepsO (kHd d) w F us (us.map (·.1))
 | [], _, _ => rfl
 | u :: us, F, ⟨F1, F2, h1, h2, h3, a, s⟩ => ⟨F1, F2, [u.1], us.map (·.1), h1, h2, h3, rfl, ⟨rfl, a⟩, reps_in (us := us) s⟩
theorem hdr_cells (h : ∀ u ∈ us, ∃ A n c, u.1 = .slice A n c) : (hdr1 us).flatMap encHdr = us.map (·.1) := by
 unfold hdr1
 induction us with
 | nil => rfl
 | cons p us ih =>
  obtain ⟨A, n, c, e⟩ := h p (List.mem_cons_self ..)
  rw [List.map_cons, List.flatMap_cons, ih fun q hq => h q (List.mem_cons_of_mem _ hq), List.map_cons, e]
  rfl
theorem in_form {w : World} {F : Foot} (h : (inS d us).P w F) : ∀ u ∈ us, ∃ A n c, u.1 = .slice A n c := fun u hu => by
 obtain ⟨A, c, e, _⟩ := rsl_form (own_rd F (big_rd h hu))
 exact ⟨A, _, c, e⟩
theorem Hd.hdI (H : Hd w0 F0 w (osl kHdr v (hdr1 us) :: inS d us :: As) Rs) : Hd w0 F0 w (osl (kHd d) v us :: As) Rs := by
 refine H.turn2 fun F1 F2 hd h1 h2 => ?_
 obtain ⟨A, n, c, e, hl, cs, G1, G2, s1, s2, dj, row, reps⟩ := h1
 have hcs : cs = us.map (·.1) := (RepsR.flat_eq.1 reps.toR).trans (hdr_cells (in_form h2))
 subst hcs
 exact ⟨A, n, c, e, by simpa [hdr1] using hl, _, G1, F2, fun k hk => .inl (s1 k hk), fun k hk => .inr hk, fun k hk hg => hd k (s1 k hk) hg, row, reps_in h2⟩
theorem hdr_rd {F : Foot} (h : (rsl (kHd d) v us).P w F) : (rsl kHdr v (hdr1 us)).P w F := by
 obtain ⟨A, m, c, e, h1, h2, h3, cs, h4, h5⟩ := h
 refine ⟨A, m, c, e, by simpa [hdr1] using h1, h2, h3, cs, h4, RepsR.flat_eq.2 ?_⟩
 have hall := hd_all h5
 have : ∀ {us : List (Value × List α)} {cs : List Value}, RepsR (kHd d) w F us cs → cs = us.map (·.1) := by
  intro us
  induction us with
  | nil => intro cs h; exact h
  | cons u us ih => rintro cs ⟨c, cs', e, h1, h2⟩; rw [e, h1.1, ih h2]; rfl
 rw [this h5]
 exact (hdr_cells fun u hu => by
  obtain ⟨A, c, e, _⟩ := rsl_form (hall u hu)
  exact ⟨A, _, c, e⟩).symm
end
/-! ### Told anew -/
section
variable {w0 w : World} {F0 : Foot} {As Rs : List SP} {g g' : Nat → SpD} {hv : Nat → Value} {i : Nat}
def pick (g : Nat → SpD) (set : List Int) (n : Nat) : List Nat := (List.range n).filter fun i => (g i).merged && decide ((i : Int) ∈ set)
end

set_option maxHeartbeats 4000000 in
theorem mayC_ok (vS : Value) (vM : Value) (vC : Value) (vR : Value) (vK : Value) (C : Cf) :
    Cn Tryz.prog 19 [.agg #[vS, .int .i64 C.J.parts, vM, vC, vR, .int .i64 C.J.chunk, .int .i64 C.J.window, .int .i64 C.J.fuel, vK, .int .i64 C.w, .int .i64 C.t, .int .i64 C.o]] [] [rsl (kHd kPair) vS C.J.us, rsl kIns vM C.J.map, rsl kIns vC C.J.comb, rsl kIns vR C.J.red, rsl (kInt .i64) vK C.J.marks] (fun v Bs => v = .bool (decide (mayC C)) ∧ Bs = []) := by
 intro w0 F0 H
 obtain ⟨A1, c2, rfl, hc3, hm4, hp5⟩ := H.fR 0 rfl
 obtain ⟨A6, c7, rfl, hc8, hm9, hp10⟩ := H.fR 1 rfl
 obtain ⟨A11, c12, rfl, hc13, hm14, hp15⟩ := H.fR 2 rfl
 obtain ⟨A16, c17, rfl, hc18, hm19, hp20⟩ := H.fR 3 rfl
 obtain ⟨A21, c22, rfl, hc23, hm24, hp25⟩ := H.fR 4 rfl
 refine enter Tryz.func19 rfl rfl (Nat.le_of_ble_eq_true rfl) (c_seq (c_reg (s_box rfl rfl rfl rfl H (fun b26 w H => (s_1 rfl (s_nil (q_then ?_)))))))
 replace H : Hd _ _ _ [blk b26 [.slice A1 C.J.us.length c2, .int .i64 C.J.parts, .slice A6 C.J.map.length c7, .slice A11 C.J.comb.length c12, .slice A16 C.J.red.length c17, .int .i64 C.J.chunk, .int .i64 C.J.window, .int .i64 C.J.fuel, .slice A21 C.J.marks.length c22, .int .i64 C.w, .int .i64 C.t, .int .i64 C.o] 28] [rsl (kHd kPair) (.slice A1 C.J.us.length c2) C.J.us, rsl kIns (.slice A6 C.J.map.length c7) C.J.map, rsl kIns (.slice A11 C.J.comb.length c12) C.J.comb, rsl kIns (.slice A16 C.J.red.length c17) C.J.red, rsl (kInt .i64) (.slice A21 C.J.marks.length c22) C.J.marks] := H
 refine c_seq (c_reg (s_val rfl rfl (r_fa rfl fo28_0 rfl) (s_val rfl rfl (r_ldA (cs := [.slice A1 C.J.us.length c2, .int .i64 C.J.parts, .slice A6 C.J.map.length c7, .slice A11 C.J.comb.length c12, .slice A16 C.J.red.length c17, .int .i64 C.J.chunk, .int .i64 C.J.window, .int .i64 C.J.fuel, .slice A21 C.J.marks.length c22]) rfl ty26 rfl rfl (H.cellsI 0 rfl rfl)) (sc (jmay_ok (.slice A1 C.J.us.length c2) (.slice A6 C.J.map.length c7) (.slice A11 C.J.comb.length c12) (.slice A16 C.J.red.length c17) (.slice A21 C.J.marks.length c22) C.J) H (lR 0 rfl (lR 1 rfl (lR 2 rfl (lR 3 rfl (lR 4 rfl l0))))) rfl rfl (e_fn kn88 rfl rfl) ?_))))
 rintro _ _ w ⟨rfl, rfl⟩ H
 refine s_1 rfl ?_
 refine s_dec (d := 6) rfl (fun h27 => ?_) (fun h27 => ?_)
 ·refine s_val rfl rfl (r_fa rfl fo28_1 rfl) (s_val rfl rfl (r_ld rfl ty3 rfl (H.cellI 0 rfl rfl)) (sc (within_ok C.w 1 4) H l0 rfl rfl (e_fn kn89 rfl rfl) ?_))
  rintro _ _ w ⟨rfl, rfl⟩ H
  refine s_k 2 rfl ?_
  refine s_dec (d := 11) rfl (fun h28 => ?_) (fun h28 => ?_)
  ·refine s_val rfl rfl (r_fa rfl fo28_2 rfl) (s_val rfl rfl (r_ld rfl ty3 rfl (H.cellI 0 rfl rfl)) (sc (within_ok C.t 1 3) H l0 rfl rfl (e_fn kn89 rfl rfl) ?_))
   rintro _ _ w ⟨rfl, rfl⟩ H
   refine s_k 2 rfl ?_
   refine s_dec (d := 16) rfl (fun h29 => ?_) (fun h29 => ?_)
   ·refine s_val rfl rfl (r_fa rfl fo28_3 rfl) (s_val rfl rfl (r_ld rfl ty3 rfl (H.cellI 0 rfl rfl)) (sc (within_ok C.o 1 50) H l0 rfl rfl (e_fn kn89 rfl rfl) ?_))
    rintro _ _ w ⟨rfl, rfl⟩ H
    refine s_k 2 rfl (s_nil (q_then ?_))
    replace H : Hd _ _ _ [blk b26 [.slice A1 C.J.us.length c2, .int .i64 C.J.parts, .slice A6 C.J.map.length c7, .slice A11 C.J.comb.length c12, .slice A16 C.J.red.length c17, .int .i64 C.J.chunk, .int .i64 C.J.window, .int .i64 C.J.fuel, .slice A21 C.J.marks.length c22, .int .i64 C.w, .int .i64 C.t, .int .i64 C.o] 28] [rsl (kHd kPair) (.slice A1 C.J.us.length c2) C.J.us, rsl kIns (.slice A6 C.J.map.length c7) C.J.map, rsl kIns (.slice A11 C.J.comb.length c12) C.J.comb, rsl kIns (.slice A16 C.J.red.length c17) C.J.red, rsl (kInt .i64) (.slice A21 C.J.marks.length c22) C.J.marks] := H
    refine c_ret (q_ret1 rfl rfl ?_)
    replace H := H.nil
    have e : (1 ≤ C.o ∧ C.o ≤ 50) ↔ mayC C := ⟨fun g => ⟨h27, by omega, by omega, by omega⟩, fun g => by have g2 := g.2; omega⟩
    exact fin ⟨congrArg Value.bool (decide_eq_decide.2 e), rfl⟩ H
   ·refine s_k 5 rfl (s_nil (q_then ?_))
    replace H : Hd _ _ _ [blk b26 [.slice A1 C.J.us.length c2, .int .i64 C.J.parts, .slice A6 C.J.map.length c7, .slice A11 C.J.comb.length c12, .slice A16 C.J.red.length c17, .int .i64 C.J.chunk, .int .i64 C.J.window, .int .i64 C.J.fuel, .slice A21 C.J.marks.length c22, .int .i64 C.w, .int .i64 C.t, .int .i64 C.o] 28] [rsl (kHd kPair) (.slice A1 C.J.us.length c2) C.J.us, rsl kIns (.slice A6 C.J.map.length c7) C.J.map, rsl kIns (.slice A11 C.J.comb.length c12) C.J.comb, rsl kIns (.slice A16 C.J.red.length c17) C.J.red, rsl (kInt .i64) (.slice A21 C.J.marks.length c22) C.J.marks] := H
    refine c_ret (q_ret1 rfl rfl ?_)
    replace H := H.nil
    have e : ¬ mayC C := fun h => by have h1 := h.1; have h2 := h.2; first | exact absurd h1 h27 | omega
    exact fin ⟨congrArg Value.bool (decide_eq_false e).symm, rfl⟩ H
  ·refine s_k 10 rfl (s_nil (q_then ?_))
   replace H : Hd _ _ _ [blk b26 [.slice A1 C.J.us.length c2, .int .i64 C.J.parts, .slice A6 C.J.map.length c7, .slice A11 C.J.comb.length c12, .slice A16 C.J.red.length c17, .int .i64 C.J.chunk, .int .i64 C.J.window, .int .i64 C.J.fuel, .slice A21 C.J.marks.length c22, .int .i64 C.w, .int .i64 C.t, .int .i64 C.o] 28] [rsl (kHd kPair) (.slice A1 C.J.us.length c2) C.J.us, rsl kIns (.slice A6 C.J.map.length c7) C.J.map, rsl kIns (.slice A11 C.J.comb.length c12) C.J.comb, rsl kIns (.slice A16 C.J.red.length c17) C.J.red, rsl (kInt .i64) (.slice A21 C.J.marks.length c22) C.J.marks] := H
   refine c_ret (q_ret1 rfl rfl ?_)
   replace H := H.nil
   have e : ¬ mayC C := fun h => by have h1 := h.1; have h2 := h.2; first | exact absurd h1 h27 | omega
   exact fin ⟨congrArg Value.bool (decide_eq_false e).symm, rfl⟩ H
 ·refine s_k 12 rfl (s_k 3 rfl (s_nil (q_then ?_)))
  replace H : Hd _ _ _ [blk b26 [.slice A1 C.J.us.length c2, .int .i64 C.J.parts, .slice A6 C.J.map.length c7, .slice A11 C.J.comb.length c12, .slice A16 C.J.red.length c17, .int .i64 C.J.chunk, .int .i64 C.J.window, .int .i64 C.J.fuel, .slice A21 C.J.marks.length c22, .int .i64 C.w, .int .i64 C.t, .int .i64 C.o] 28] [rsl (kHd kPair) (.slice A1 C.J.us.length c2) C.J.us, rsl kIns (.slice A6 C.J.map.length c7) C.J.map, rsl kIns (.slice A11 C.J.comb.length c12) C.J.comb, rsl kIns (.slice A16 C.J.red.length c17) C.J.red, rsl (kInt .i64) (.slice A21 C.J.marks.length c22) C.J.marks] := H
  refine c_ret (q_ret1 rfl rfl ?_)
  replace H := H.nil
  have e : ¬ mayC C := fun h => by have h1 := h.1; have h2 := h.2; first | exact absurd h1 h27 | omega
  exact fin ⟨congrArg Value.bool (decide_eq_false e).symm, rfl⟩ H
set_option maxHeartbeats 1000000 in
theorem cloneIns_ok (vxs : Value) (xs : List Ins) (hb : xs.length ≤ 1000000) :
    Cn Tryz.prog 158 [vxs] [] [rsl kIns vxs xs] (fun v Bs => Bs = [osl kIns v xs]) := by
 intro w0 F0 H
 obtain ⟨A1, c2, rfl, hc3, hm4, hp5⟩ := H.fR 0 rfl
 refine enter Tryz.func158 rfl rfl (Nat.le_of_ble_eq_true rfl) (c_seq (c_reg (s_1 rfl (s_nil (q_then ?_)))))
 replace H : Hd _ _ _ [] [rsl kIns (.slice A1 xs.length c2) xs] := H
 refine c_seq (c_seq (c_reg (s_1 rfl (s_val rfl rfl (r_seq0 rfl un23 rfl rfl) (s_nil (q_then ?_))))))
 refine c_cond (b := (A1 : Option Addr).isNone) rfl (fun h6 => ?_) (fun h6 => ?_)
 ·refine c_seq (c_reg (s_1 rfl (s_nil (q_then (c_ret (q_thenR (q_ret1 rfl rfl ?_)))))))
  obtain rfl := H.nilR 0 rfl h6
  replace H := H.newnil kIns
  exact fin rfl H
 ·refine c_skip (q_then (c_seq (c_reg (s_bsl0 rfl rfl rfl sl23 H (fun b7 w H => (s_1 rfl ?_))))))
  replace H := H.newnilA kIns (some ⟨b7, 0, none⟩)
  refine s_appF (xs := []) (ys := xs) rfl rfl rfl sl23 zr223 rfl (by decide) rfl rfl H (by simp only [List.length_nil]; omega) (fun F hA hR => hR _ (List.mem_of_getElem? (i := 0) rfl)) (fun v8 w H => ?_)
  replace H := H.h2 (A := osl kIns v8 ([] ++ xs)) (B := blk b7 [] 223)
  refine s_1 rfl (s_nil (q_then (c_ret (q_ret1 rfl rfl ?_))))
  rw [List.nil_append] at H
  replace H := H.k1
  exact fin rfl H
set_option maxHeartbeats 1000000 in
theorem cloneInt_ok (vxs : Value) (xs : List Int) (hb : xs.length ≤ 1000000) :
    Cn Tryz.prog 129 [vxs] [] [rsl (kInt .i64) vxs xs] (fun v Bs => Bs = [osl (kInt .i64) v xs]) := by
 intro w0 F0 H
 obtain ⟨A1, c2, rfl, hc3, hm4, hp5⟩ := H.fR 0 rfl
 refine enter Tryz.func129 rfl rfl (Nat.le_of_ble_eq_true rfl) (c_seq (c_reg (s_1 rfl (s_nil (q_then ?_)))))
 replace H : Hd _ _ _ [] [rsl (kInt .i64) (.slice A1 xs.length c2) xs] := H
 refine c_seq (c_seq (c_reg (s_1 rfl (s_val rfl rfl (r_seq0 rfl un24 rfl rfl) (s_nil (q_then ?_))))))
 refine c_cond (b := (A1 : Option Addr).isNone) rfl (fun h6 => ?_) (fun h6 => ?_)
 ·refine c_seq (c_reg (s_1 rfl (s_nil (q_then (c_ret (q_thenR (q_ret1 rfl rfl ?_)))))))
  obtain rfl := H.nilR 0 rfl h6
  replace H := H.newnil (kInt .i64)
  exact fin rfl H
 ·refine c_skip (q_then (c_seq (c_reg (s_bsl0 rfl rfl rfl sl24 H (fun b7 w H => (s_1 rfl ?_))))))
  replace H := H.newnilA (kInt .i64) (some ⟨b7, 0, none⟩)
  refine s_appF (xs := []) (ys := xs) rfl rfl rfl sl24 zr3 rfl (by decide) rfl rfl H (by simp only [List.length_nil]; omega) (fun F hA hR => hR _ (List.mem_of_getElem? (i := 0) rfl)) (fun v8 w H => ?_)
  replace H := H.h2 (A := osl (kInt .i64) v8 ([] ++ xs)) (B := blk b7 [] 3)
  refine s_1 rfl (s_nil (q_then (c_ret (q_ret1 rfl rfl ?_))))
  rw [List.nil_append] at H
  replace H := H.k1
  exact fin rfl H
set_option maxHeartbeats 1000000 in
theorem cloneHdr_ok (vxs : Value) (xs : List Hdr) (hb : xs.length ≤ 1000000) :
    Cn Tryz.prog 157 [vxs] [] [rsl kHdr vxs xs] (fun v Bs => Bs = [osl kHdr v xs]) := by
 intro w0 F0 H
 obtain ⟨A1, c2, rfl, hc3, hm4, hp5⟩ := H.fR 0 rfl
 refine enter Tryz.func157 rfl rfl (Nat.le_of_ble_eq_true rfl) (c_seq (c_reg (s_1 rfl (s_nil (q_then ?_)))))
 replace H : Hd _ _ _ [] [rsl kHdr (.slice A1 xs.length c2) xs] := H
 refine c_seq (c_seq (c_reg (s_1 rfl (s_val rfl rfl (r_seq0 rfl un22 rfl rfl) (s_nil (q_then ?_))))))
 refine c_cond (b := (A1 : Option Addr).isNone) rfl (fun h6 => ?_) (fun h6 => ?_)
 ·refine c_seq (c_reg (s_1 rfl (s_nil (q_then (c_ret (q_thenR (q_ret1 rfl rfl ?_)))))))
  obtain rfl := H.nilR 0 rfl h6
  replace H := H.newnil kHdr
  exact fin rfl H
 ·refine c_skip (q_then (c_seq (c_reg (s_bsl0 rfl rfl rfl sl22 H (fun b7 w H => (s_1 rfl ?_))))))
  replace H := H.newnilA kHdr (some ⟨b7, 0, none⟩)
  refine s_appF (xs := []) (ys := xs) rfl rfl rfl sl22 zr35 rfl (by decide) rfl rfl H (by simp only [List.length_nil]; omega) (fun F hA hR => hR _ (List.mem_of_getElem? (i := 0) rfl)) (fun v8 w H => ?_)
  replace H := H.h2 (A := osl kHdr v8 ([] ++ xs)) (B := blk b7 [] 35)
  refine s_1 rfl (s_nil (q_then (c_ret (q_ret1 rfl rfl ?_))))
  rw [List.nil_append] at H
  replace H := H.k1
  exact fin rfl H
theorem own_at {us zs : List (Value × List Pair)} {i : Nat} {A : Option Addr} {c : Nat} {x : List Pair} (hz : zs.length = i) (h : us[i]? = some (.slice A x.length c, x)) : (hdr1 zs ++ (hdr1 us).drop i)[i]? = some (⟨A, x.length, c⟩ : Hdr) := by
 subst hz
 have hl : (hdr1 zs).length = zs.length := by simp [hdr1]
 rw [List.getElem?_append_right (by omega), hl, Nat.sub_self, List.getElem?_drop, Nat.add_zero]
 unfold hdr1
 rw [List.getElem?_map, h]
 rfl
theorem own_set {us zs : List (Value × List Pair)} {i : Nat} {A : Option Addr} {n c : Nat} {x : List Pair} (hz : zs.length = i) (hi : i < us.length) : (hdr1 zs ++ (hdr1 us).drop i).set i (⟨A, n, c⟩ : Hdr) = hdr1 (zs ++ [(.slice A n c, x)]) ++ (hdr1 us).drop (i + 1) := by
 subst hz
 have hl : (hdr1 zs).length = zs.length := by simp [hdr1]
 have hu : (hdr1 us).length = us.length := by simp [hdr1]
 rw [List.set_append_right _ _ (by omega), hl, Nat.sub_self, List.drop_eq_getElem_cons (by omega), List.set_cons_zero]
 unfold hdr1
 rw [List.map_append, List.append_assoc]
 rfl
theorem own_take {us zs : List (Value × List Pair)} {i : Nat} {v u : Value} {x : List Pair} (hz : zs.map (·.2) = (us.map (·.2)).take i) (h : us[i]? = some (v, x)) : (zs ++ [(u, x)]).map (·.2) = (us.map (·.2)).take (i + 1) := by
 rw [List.map_append, hz, take_snoc (x := x) (by rw [List.getElem?_map, h]; rfl)]
 rfl
set_option maxHeartbeats 4000000 in
theorem own_ok (vS : Value) (vM : Value) (vC : Value) (vR : Value) (vK : Value) (C : Cf) (hC : mayC C) :
    Cn Tryz.prog 94 [.agg #[vS, .int .i64 C.J.parts, vM, vC, vR, .int .i64 C.J.chunk, .int .i64 C.J.window, .int .i64 C.J.fuel, vK, .int .i64 C.w, .int .i64 C.t, .int .i64 C.o]] [] [rsl (kHd kPair) vS C.J.us, rsl kIns vM C.J.map, rsl kIns vC C.J.comb, rsl kIns vR C.J.red, rsl (kInt .i64) vK C.J.marks] (fun v Bs => ∃ J2 : Job, ∃ vS2 : Value, ∃ vM2 : Value, ∃ vC2 : Value, ∃ vR2 : Value, ∃ vK2 : Value, v = .agg #[vS2, .int .i64 J2.parts, vM2, vC2, vR2, .int .i64 J2.chunk, .int .i64 J2.window, .int .i64 J2.fuel, vK2, .int .i64 C.w, .int .i64 C.t, .int .i64 C.o] ∧ Bs = [osl (kHd kPair) vS2 J2.us, osl kIns vM2 J2.map, osl kIns vC2 J2.comb, osl kIns vR2 J2.red, osl (kInt .i64) vK2 J2.marks] ∧ (SameJ J2 C.J)) := by
 intro w0 F0 H
 obtain ⟨A1, c2, rfl, hc3, hm4, hp5⟩ := H.fR 0 rfl
 obtain ⟨A6, c7, rfl, hc8, hm9, hp10⟩ := H.fR 1 rfl
 obtain ⟨A11, c12, rfl, hc13, hm14, hp15⟩ := H.fR 2 rfl
 obtain ⟨A16, c17, rfl, hc18, hm19, hp20⟩ := H.fR 3 rfl
 obtain ⟨A21, c22, rfl, hc23, hm24, hp25⟩ := H.fR 4 rfl
 have hsp := hC.1.2.2.2.1
 have hus := hC.1.1
 have hb1 := (badI_good hC.1.2.2.2.2.2.1.2).1
 have hb2 := (badI_good hC.1.2.2.2.2.2.2.1.2).1
 have hb3 := (badI_good hC.1.2.2.2.2.2.2.2.1).1
 have hb4 := hC.1.2.2.1
 have hul : (hdr1 C.J.us).length = C.J.us.length := by simp [hdr1]
 refine enter Tryz.func94 rfl rfl (Nat.le_of_ble_eq_true rfl) (c_seq (c_reg (s_box rfl rfl rfl rfl H (fun b26 w H => (s_alloc rfl rfl rfl zr28 H (fun b27 w H => (s_nil (q_then ?_))))))))
 replace H : Hd _ _ _ [blk b27 [.slice none 0 0, .int .i64 0, .slice none 0 0, .slice none 0 0, .slice none 0 0, .int .i64 0, .int .i64 0, .int .i64 0, .slice none 0 0, .int .i64 0, .int .i64 0, .int .i64 0] 28, blk b26 [.slice A1 C.J.us.length c2, .int .i64 C.J.parts, .slice A6 C.J.map.length c7, .slice A11 C.J.comb.length c12, .slice A16 C.J.red.length c17, .int .i64 C.J.chunk, .int .i64 C.J.window, .int .i64 C.J.fuel, .slice A21 C.J.marks.length c22, .int .i64 C.w, .int .i64 C.t, .int .i64 C.o] 28] [rsl (kHd kPair) (.slice A1 C.J.us.length c2) C.J.us, rsl kIns (.slice A6 C.J.map.length c7) C.J.map, rsl kIns (.slice A11 C.J.comb.length c12) C.J.comb, rsl kIns (.slice A16 C.J.red.length c17) C.J.red, rsl (kInt .i64) (.slice A21 C.J.marks.length c22) C.J.marks] := H
 refine c_seq (c_reg (s_val rfl rfl (r_fa rfl fo28_0 rfl) (s_val rfl rfl (r_fa rfl fo26_0 rfl) (s_val rfl rfl (r_ld rfl ty22 rfl (H.cellI 1 rfl rfl)) (sc (cloneHdr_ok (.slice A1 C.J.us.length c2) (hdr1 C.J.us) (by simp only [hdr1, List.length_map]; omega)) H (lX (fun F hA hR => hdr_rd (hR _ (List.mem_of_getElem? (i := 0) rfl))) l0) rfl rfl (e_fn kn157 rfl rfl) ?_)))))
 rintro v28 _ w rfl H
 refine s_val rfl rfl (r_fa rfl fo28_0 rfl) (s_val rfl rfl (r_fa rfl fo26_0 rfl) ?_)
 obtain ⟨A29, c30, rfl, hc31, hm32, hp33⟩ := H.fA 0 rfl
 replace H := H.p2
 refine s_st rfl rfl rfl ty22 rfl rfl H rfl (Nat.le_of_ble_eq_true rfl) (fun u hu => by simp [Value.cells] at hu; subst hu; rfl) (fun w H => ?_)
 replace H : Hd _ _ _ [blk b26 [.slice A29 ((hdr1 C.J.us).length) c30, .int .i64 C.J.parts, .slice A6 C.J.map.length c7, .slice A11 C.J.comb.length c12, .slice A16 C.J.red.length c17, .int .i64 C.J.chunk, .int .i64 C.J.window, .int .i64 C.J.fuel, .slice A21 C.J.marks.length c22, .int .i64 C.w, .int .i64 C.t, .int .i64 C.o] 28, osl kHdr (.slice A29 ((hdr1 C.J.us).length) c30) (hdr1 C.J.us), blk b27 [.slice none 0 0, .int .i64 0, .slice none 0 0, .slice none 0 0, .slice none 0 0, .int .i64 0, .int .i64 0, .int .i64 0, .slice none 0 0, .int .i64 0, .int .i64 0, .int .i64 0] 28] [rsl (kHd kPair) (.slice A1 C.J.us.length c2) C.J.us, rsl kIns (.slice A6 C.J.map.length c7) C.J.map, rsl kIns (.slice A11 C.J.comb.length c12) C.J.comb, rsl kIns (.slice A16 C.J.red.length c17) C.J.red, rsl (kInt .i64) (.slice A21 C.J.marks.length c22) C.J.marks] := H
 refine s_nil (q_then (c_seq (c_seq (c_reg (s_val rfl rfl (r_fa rfl fo28_0 rfl) (s_val rfl rfl (r_fa rfl fo26_0 rfl) (s_val rfl rfl (r_ld rfl ty22 rfl (H.cellI 0 rfl rfl)) (s_val rfl rfl (r_lenL rfl un22 rfl) (s_1 rfl (s_nil (q_then (c_block ?_))))))))))))
 replace H := H.p1.h1 (A := osl kHdr (.slice A29 ((hdr1 C.J.us).length) c30) (hdr1 ([] : List (Value × List Pair)) ++ (hdr1 C.J.us).drop 0)) |>.big0 (fun u : Value × List Pair => osl kPair u.1 u.2) |>.h1 (A := inS kPair ([] : List (Value × List Pair)))
 refine c_loop (σ := Nat × List (Value × List Pair)) (fun (i, zs) => [(1, .pointer (some ⟨b26, 0, none⟩)), (2, .pointer (some ⟨b27, 0, none⟩)), (13, .slice A29 ((hdr1 C.J.us).length) c30), (14, .int .i64 (((hdr1 C.J.us).length : Nat) : Int)), (15, .int .i64 ((i : Nat) : Int))]) (fun (i, zs) w => (Hd w0 F0 w [inS kPair zs, osl kHdr (.slice A29 ((hdr1 C.J.us).length) c30) (hdr1 zs ++ (hdr1 C.J.us).drop i), blk b26 [.slice A29 ((hdr1 C.J.us).length) c30, .int .i64 C.J.parts, .slice A6 C.J.map.length c7, .slice A11 C.J.comb.length c12, .slice A16 C.J.red.length c17, .int .i64 C.J.chunk, .int .i64 C.J.window, .int .i64 C.J.fuel, .slice A21 C.J.marks.length c22, .int .i64 C.w, .int .i64 C.t, .int .i64 C.o] 28, blk b27 [.slice none 0 0, .int .i64 0, .slice none 0 0, .slice none 0 0, .slice none 0 0, .int .i64 0, .int .i64 0, .int .i64 0, .slice none 0 0, .int .i64 0, .int .i64 0, .int .i64 0] 28] [rsl (kHd kPair) (.slice A1 C.J.us.length c2) C.J.us, rsl kIns (.slice A6 C.J.map.length c7) C.J.map, rsl kIns (.slice A11 C.J.comb.length c12) C.J.comb, rsl kIns (.slice A16 C.J.red.length c17) C.J.red, rsl (kInt .i64) (.slice A21 C.J.marks.length c22) C.J.marks]) ∧ (zs.length = i ∧ zs.map (·.2) = (C.J.us.map (·.2)).take i) ∧ (i ≤ C.J.us.length)) (fun (i, zs) => C.J.us.length - i) (0, []) ⟨rfl, rfl, rfl, rfl, rfl, trivial⟩ ⟨H, ⟨rfl, rfl⟩, Nat.zero_le _⟩ ?_
 rintro ⟨i, zs⟩ w ⟨H, hz, hi⟩
 refine c_seq (c_reg (s_val rfl rfl (r_lt rfl rfl rfl) (s_nil (q_then (c_seq ?_)))))
 refine c_dec rfl (fun h34 => ?_) (fun h34 => ?_)
 ·refine c_skip (q_then (c_seq (c_block (c_seq ?_))))
  obtain ⟨⟨u37, x35⟩, hx36⟩ : ∃ z9, C.J.us[i]? = some z9 := ⟨_, List.getElem?_eq_getElem (show i < C.J.us.length by omega)⟩
  obtain ⟨A38, c39, rfl, hc40, hm41⟩ := H.nestR 0 rfl hx36
  have hk42 := own_at (zs := zs) hz.1 hx36
  have hxl : x35.length ≤ 8 := (hsp _ (at_mem hx36)).1
  refine c_reg (s_1 rfl ?_)
  have th43 := H.thA 1 rfl hk42
  refine s_val rfl rfl (r_iaE (p := oOf A29 + i * 1) rfl sl22 rfl rfl (by omega) (by omega) th43 rfl) (s_val rfl rfl (r_ld rfl ty35 rfl (H.elA 1 rfl hk42 (q := 0) rfl rfl)) (s_k 2 rfl (s_nil (q_then ?_))))
  replace H := H.p3.p3.p2
  refine c_ord (.e 0 (.e 1 (.e 2 (.e 3 (.e 4 (.m 5 (.e 6 (.m 7 .z)))))))) (fun w => ∃ Ar, Hd w0 F0 w (inS kPair zs :: blk b26 [.slice A29 ((hdr1 C.J.us).length) c30, .int .i64 C.J.parts, .slice A6 C.J.map.length c7, .slice A11 C.J.comb.length c12, .slice A16 C.J.red.length c17, .int .i64 C.J.chunk, .int .i64 C.J.window, .int .i64 C.J.fuel, .slice A21 C.J.marks.length c22, .int .i64 C.w, .int .i64 C.t, .int .i64 C.o] 28 :: blk b27 [.slice none 0 0, .int .i64 0, .slice none 0 0, .slice none 0 0, .slice none 0 0, .int .i64 0, .int .i64 0, .int .i64 0, .slice none 0 0, .int .i64 0, .int .i64 0, .int .i64 0] 28 :: Ar) [rsl (kHd kPair) (.slice A1 C.J.us.length c2) C.J.us, rsl kIns (.slice A6 C.J.map.length c7) C.J.map, rsl kIns (.slice A11 C.J.comb.length c12) C.J.comb, rsl kIns (.slice A16 C.J.red.length c17) C.J.red, rsl (kInt .i64) (.slice A21 C.J.marks.length c22) C.J.marks]) mo (by kernel_rfl) (fun w H => ⟨_, H⟩) H (fun w H => ?_)
  refine d_val rfl rfl rfl (fun w ⟨Ar, H⟩ => r_fa rfl fo28_0 rfl) (d_val rfl rfl rfl (fun w ⟨Ar, H⟩ => r_fa rfl fo26_0 rfl) (d_val rfl rfl rfl (fun w ⟨Ar, H⟩ => r_ld rfl ty22 rfl (H.cellI 1 rfl rfl)) (d_1 rfl (d_1 rfl (d_main rfl (sc (clone_ok (.slice A38 x35.length c39) x35 (by first | omega | decide | assumption)) H (lX (fun F hA hR => nest_rsl (hR _ (List.mem_of_getElem? (i := 0) rfl)) hx36) l0) rfl rfl (e_fn kn123 rfl rfl) ?_))))))
  rintro v44 _ w rfl H
  replace H := H.h1 (A := osl kPair v44 x35) |>.p3 |>.p3 |>.p3
  refine d_back ⟨_, H⟩ ?_
  have th45 := H.thA 4 rfl hk42
  refine d_val rfl rfl rfl (fun w ⟨Ar, H⟩ => r_iaE (p := oOf A29 + i * 1) rfl sl22 rfl rfl (by omega) (by omega) th45 rfl) (d_main rfl ?_)
  obtain ⟨A46, c47, rfl, hc48, hm49, hp50⟩ := H.fA 3 rfl
  replace H := H.p4
  refine s_stO (i := i) (a := (⟨A46, x35.length, c47⟩ : Hdr)) rfl rfl rfl ty35 rfl rfl rfl H (by simp only [List.length_append, List.length_drop, hdr1, List.length_map]; omega) rfl (fun w H => ?_)
  replace H : Hd _ _ _ [osl kHdr (.slice A29 ((hdr1 C.J.us).length) c30) ((hdr1 zs ++ (hdr1 C.J.us).drop i).set i (⟨A46, x35.length, c47⟩ : Hdr)), inS kPair zs, blk b26 [.slice A29 ((hdr1 C.J.us).length) c30, .int .i64 C.J.parts, .slice A6 C.J.map.length c7, .slice A11 C.J.comb.length c12, .slice A16 C.J.red.length c17, .int .i64 C.J.chunk, .int .i64 C.J.window, .int .i64 C.J.fuel, .slice A21 C.J.marks.length c22, .int .i64 C.w, .int .i64 C.t, .int .i64 C.o] 28, blk b27 [.slice none 0 0, .int .i64 0, .slice none 0 0, .slice none 0 0, .slice none 0 0, .int .i64 0, .int .i64 0, .int .i64 0, .slice none 0 0, .int .i64 0, .int .i64 0, .int .i64 0] 28, osl kPair (.slice A46 x35.length c47) x35] [rsl (kHd kPair) (.slice A1 C.J.us.length c2) C.J.us, rsl kIns (.slice A6 C.J.map.length c7) C.J.map, rsl kIns (.slice A11 C.J.comb.length c12) C.J.comb, rsl kIns (.slice A16 C.J.red.length c17) C.J.red, rsl (kInt .i64) (.slice A21 C.J.marks.length c22) C.J.marks] := H
  replace H := H.p3.p3.p3
  refine d_back ⟨_, H⟩ (d_nil (q_blockN (q_then (c_reg (s_val rfl rfl (r_add (z := ((i + 1 : Nat) : Int)) rfl rfl rfl (by rw [w64 (by omega) (by omega)]; omega)) (s_1 rfl (s_nil ?_)))))))
  replace H := H.p3.p1.p4.bigN (f := fun u : Value × List Pair => osl kPair u.1 u.2) (x := (.slice A46 x35.length c47, x35))
  replace H : Hd w0 F0 w [inS kPair (zs ++ [(.slice A46 x35.length c47, x35)]), osl kHdr (.slice A29 ((hdr1 C.J.us).length) c30) (hdr1 (zs ++ [(.slice A46 x35.length c47, x35)]) ++ (hdr1 C.J.us).drop (i + 1)), blk b26 [.slice A29 ((hdr1 C.J.us).length) c30, .int .i64 C.J.parts, .slice A6 C.J.map.length c7, .slice A11 C.J.comb.length c12, .slice A16 C.J.red.length c17, .int .i64 C.J.chunk, .int .i64 C.J.window, .int .i64 C.J.fuel, .slice A21 C.J.marks.length c22, .int .i64 C.w, .int .i64 C.t, .int .i64 C.o] 28, blk b27 [.slice none 0 0, .int .i64 0, .slice none 0 0, .slice none 0 0, .slice none 0 0, .int .i64 0, .int .i64 0, .int .i64 0, .slice none 0 0, .int .i64 0, .int .i64 0, .int .i64 0] 28] [rsl (kHd kPair) (.slice A1 C.J.us.length c2) C.J.us, rsl kIns (.slice A6 C.J.map.length c7) C.J.map, rsl kIns (.slice A11 C.J.comb.length c12) C.J.comb, rsl kIns (.slice A16 C.J.red.length c17) C.J.red, rsl (kInt .i64) (.slice A21 C.J.marks.length c22) C.J.marks] := by rw [← own_set (x := x35) hz.1 (by omega)]; exact H
  exact q_round (s := (i, zs)) (i + 1, zs ++ [(.slice A46 x35.length c47, x35)]) ⟨rfl, rfl, rfl, rfl, rfl, trivial⟩ ⟨H, ⟨by simp [hz.1], own_take hz.2 hx36⟩, by (try dsimp only); omega⟩ (by (try dsimp only); omega)
 ·refine c_exit (q_thenE (q_thenE (q_blockE (q_then (c_seq ?_)))))
  obtain rfl : i = C.J.us.length := by omega
  replace H := H.p1
  replace H : Hd w0 F0 w [osl kHdr (.slice A29 ((hdr1 C.J.us).length) c30) (hdr1 zs), inS kPair zs, blk b26 [.slice A29 ((hdr1 C.J.us).length) c30, .int .i64 C.J.parts, .slice A6 C.J.map.length c7, .slice A11 C.J.comb.length c12, .slice A16 C.J.red.length c17, .int .i64 C.J.chunk, .int .i64 C.J.window, .int .i64 C.J.fuel, .slice A21 C.J.marks.length c22, .int .i64 C.w, .int .i64 C.t, .int .i64 C.o] 28, blk b27 [.slice none 0 0, .int .i64 0, .slice none 0 0, .slice none 0 0, .slice none 0 0, .int .i64 0, .int .i64 0, .int .i64 0, .slice none 0 0, .int .i64 0, .int .i64 0, .int .i64 0] 28] [rsl (kHd kPair) (.slice A1 C.J.us.length c2) C.J.us, rsl kIns (.slice A6 C.J.map.length c7) C.J.map, rsl kIns (.slice A11 C.J.comb.length c12) C.J.comb, rsl kIns (.slice A16 C.J.red.length c17) C.J.red, rsl (kInt .i64) (.slice A21 C.J.marks.length c22) C.J.marks] := by rw [show hdr1 zs = hdr1 zs ++ (hdr1 C.J.us).drop C.J.us.length by simp [hdr1]]; exact H
  replace H := H.hdI |>.h1 (A := osl (kHd kPair) (.slice A29 ((hdr1 C.J.us).length) c30) zs)
  have hsj : SameJ ({ C.J with us := zs } : Job) C.J := ⟨by rw [hz.2, List.take_of_length_le (by simp)], rfl⟩
  refine c_ord2 (.e 0 (.e 1 (.e 2 (.e 4 (.e 5 (.e 6 (.e 8 (.e 9 (.e 10 (.m 3 (.e 12 (.e 13 (.m 7 (.m 11 (.w 14 (.e 15 (.e 16 (.m 17 (.e 18 (.e 19 (.m 20 .z))))))))))))))))))))) (fun w => ∃ Ar, Hd w0 F0 w (osl (kHd kPair) (.slice A29 ((hdr1 C.J.us).length) c30) zs :: blk b26 [.slice A29 ((hdr1 C.J.us).length) c30, .int .i64 C.J.parts, .slice A6 C.J.map.length c7, .slice A11 C.J.comb.length c12, .slice A16 C.J.red.length c17, .int .i64 C.J.chunk, .int .i64 C.J.window, .int .i64 C.J.fuel, .slice A21 C.J.marks.length c22, .int .i64 C.w, .int .i64 C.t, .int .i64 C.o] 28 :: blk b27 [.slice none 0 0, .int .i64 0, .slice none 0 0, .slice none 0 0, .slice none 0 0, .int .i64 0, .int .i64 0, .int .i64 0, .slice none 0 0, .int .i64 0, .int .i64 0, .int .i64 0] 28 :: Ar) [rsl (kHd kPair) (.slice A1 C.J.us.length c2) C.J.us, rsl kIns (.slice A6 C.J.map.length c7) C.J.map, rsl kIns (.slice A11 C.J.comb.length c12) C.J.comb, rsl kIns (.slice A16 C.J.red.length c17) C.J.red, rsl (kInt .i64) (.slice A21 C.J.marks.length c22) C.J.marks]) (fun w => ∃ Ar, Hd w0 F0 w Ar [rsl (kHd kPair) (.slice A1 C.J.us.length c2) C.J.us, rsl kIns (.slice A6 C.J.map.length c7) C.J.map, rsl kIns (.slice A11 C.J.comb.length c12) C.J.comb, rsl kIns (.slice A16 C.J.red.length c17) C.J.red, rsl (kInt .i64) (.slice A21 C.J.marks.length c22) C.J.marks]) mo (by kernel_rfl) (fun w H => ⟨_, H⟩) H (fun w H => ?_)
  refine g_val rfl rfl rfl (fun w ⟨Ar, H⟩ => r_fa rfl fo28_0 rfl) (g_val rfl rfl rfl (fun w ⟨Ar, H⟩ => r_fa rfl fo26_2 rfl) (g_val rfl rfl rfl (fun w ⟨Ar, H⟩ => r_ld rfl ty23 rfl (H.cellI 1 rfl rfl)) (g_val rfl rfl rfl (fun w ⟨Ar, H⟩ => r_fa rfl fo28_0 rfl) (g_val rfl rfl rfl (fun w ⟨Ar, H⟩ => r_fa rfl fo26_3 rfl) (g_val rfl rfl rfl (fun w ⟨Ar, H⟩ => r_ld rfl ty23 rfl (H.cellI 1 rfl rfl)) (g_val rfl rfl rfl (fun w ⟨Ar, H⟩ => r_fa rfl fo28_0 rfl) (g_val rfl rfl rfl (fun w ⟨Ar, H⟩ => r_fa rfl fo26_4 rfl) (g_val rfl rfl rfl (fun w ⟨Ar, H⟩ => r_ld rfl ty23 rfl (H.cellI 1 rfl rfl)) (g_main rfl (sc (cloneIns_ok (.slice A6 C.J.map.length c7) C.J.map (by first | omega | decide | assumption)) H (lR 1 rfl l0) rfl rfl (e_fn kn158 rfl rfl) ?_))))))))))
  rintro v51 _ w rfl H
  replace H := H.h1 (A := osl kIns v51 C.J.map) |>.p3 |>.p3 |>.p3
  refine g_back ⟨_, H⟩ (g_val rfl rfl rfl (fun w ⟨Ar, H⟩ => r_fa rfl fo28_0 rfl) (g_val rfl rfl rfl (fun w ⟨Ar, H⟩ => r_fa rfl fo26_2 rfl) (g_main rfl (sc (cloneIns_ok (.slice A11 C.J.comb.length c12) C.J.comb (by first | omega | decide | assumption)) H (lR 2 rfl l0) rfl rfl (e_fn kn158 rfl rfl) ?_))))
  rintro v52 _ w rfl H
  replace H := H.h1 (A := osl kIns v52 C.J.comb) |>.p3 |>.p3 |>.p3
  refine g_back ⟨_, H⟩ (g_main rfl (sc (cloneIns_ok (.slice A16 C.J.red.length c17) C.J.red (by first | omega | decide | assumption)) H (lR 3 rfl l0) rfl rfl (e_fn kn158 rfl rfl) ?_))
  rintro v53 _ w rfl H
  replace H := H.h1 (A := osl kIns v53 C.J.red) |>.p3 |>.p3 |>.p3
  refine g_back ⟨_, H⟩ (g_sw rfl ?_)
  obtain ⟨A54, c55, rfl, hc56, hm57, hp58⟩ := H.fA 5 rfl
  replace H := H.p1
  refine s_st rfl rfl rfl ty23 rfl rfl H rfl (Nat.le_of_ble_eq_true rfl) (fun u hu => by simp [Value.cells] at hu; subst hu; rfl) (fun w H => ?_)
  replace H : Hd _ _ _ [blk b26 [.slice A29 ((hdr1 C.J.us).length) c30, .int .i64 C.J.parts, .slice A54 C.J.map.length c55, .slice A11 C.J.comb.length c12, .slice A16 C.J.red.length c17, .int .i64 C.J.chunk, .int .i64 C.J.window, .int .i64 C.J.fuel, .slice A21 C.J.marks.length c22, .int .i64 C.w, .int .i64 C.t, .int .i64 C.o] 28, osl (kHd kPair) (.slice A29 ((hdr1 C.J.us).length) c30) zs, blk b27 [.slice none 0 0, .int .i64 0, .slice none 0 0, .slice none 0 0, .slice none 0 0, .int .i64 0, .int .i64 0, .int .i64 0, .slice none 0 0, .int .i64 0, .int .i64 0, .int .i64 0] 28, osl kIns v53 C.J.red, osl kIns v52 C.J.comb, osl kIns (.slice A54 C.J.map.length c55) C.J.map] [rsl (kHd kPair) (.slice A1 C.J.us.length c2) C.J.us, rsl kIns (.slice A6 C.J.map.length c7) C.J.map, rsl kIns (.slice A11 C.J.comb.length c12) C.J.comb, rsl kIns (.slice A16 C.J.red.length c17) C.J.red, rsl (kInt .i64) (.slice A21 C.J.marks.length c22) C.J.marks] := H
  refine d_back ⟨_, H⟩ (d_val rfl rfl rfl (fun w ⟨Ar, H⟩ => r_fa rfl fo28_0 rfl) (d_val rfl rfl rfl (fun w ⟨Ar, H⟩ => r_fa rfl fo26_3 rfl) (d_main rfl ?_)))
  obtain ⟨A59, c60, rfl, hc61, hm62, hp63⟩ := H.fA 4 rfl
  refine s_st rfl rfl rfl ty23 rfl rfl H rfl (Nat.le_of_ble_eq_true rfl) (fun u hu => by simp [Value.cells] at hu; subst hu; rfl) (fun w H => ?_)
  replace H : Hd _ _ _ [blk b26 [.slice A29 ((hdr1 C.J.us).length) c30, .int .i64 C.J.parts, .slice A54 C.J.map.length c55, .slice A59 C.J.comb.length c60, .slice A16 C.J.red.length c17, .int .i64 C.J.chunk, .int .i64 C.J.window, .int .i64 C.J.fuel, .slice A21 C.J.marks.length c22, .int .i64 C.w, .int .i64 C.t, .int .i64 C.o] 28, osl (kHd kPair) (.slice A29 ((hdr1 C.J.us).length) c30) zs, blk b27 [.slice none 0 0, .int .i64 0, .slice none 0 0, .slice none 0 0, .slice none 0 0, .int .i64 0, .int .i64 0, .int .i64 0, .slice none 0 0, .int .i64 0, .int .i64 0, .int .i64 0] 28, osl kIns v53 C.J.red, osl kIns (.slice A59 C.J.comb.length c60) C.J.comb, osl kIns (.slice A54 C.J.map.length c55) C.J.map] [rsl (kHd kPair) (.slice A1 C.J.us.length c2) C.J.us, rsl kIns (.slice A6 C.J.map.length c7) C.J.map, rsl kIns (.slice A11 C.J.comb.length c12) C.J.comb, rsl kIns (.slice A16 C.J.red.length c17) C.J.red, rsl (kInt .i64) (.slice A21 C.J.marks.length c22) C.J.marks] := H
  refine d_back ⟨_, H⟩ (d_val rfl rfl rfl (fun w ⟨Ar, H⟩ => r_fa rfl fo28_0 rfl) (d_val rfl rfl rfl (fun w ⟨Ar, H⟩ => r_fa rfl fo26_4 rfl) (d_main rfl ?_)))
  obtain ⟨A64, c65, rfl, hc66, hm67, hp68⟩ := H.fA 3 rfl
  refine s_st rfl rfl rfl ty23 rfl rfl H rfl (Nat.le_of_ble_eq_true rfl) (fun u hu => by simp [Value.cells] at hu; subst hu; rfl) (fun w H => ?_)
  replace H : Hd _ _ _ [blk b26 [.slice A29 ((hdr1 C.J.us).length) c30, .int .i64 C.J.parts, .slice A54 C.J.map.length c55, .slice A59 C.J.comb.length c60, .slice A64 C.J.red.length c65, .int .i64 C.J.chunk, .int .i64 C.J.window, .int .i64 C.J.fuel, .slice A21 C.J.marks.length c22, .int .i64 C.w, .int .i64 C.t, .int .i64 C.o] 28, osl (kHd kPair) (.slice A29 ((hdr1 C.J.us).length) c30) zs, blk b27 [.slice none 0 0, .int .i64 0, .slice none 0 0, .slice none 0 0, .slice none 0 0, .int .i64 0, .int .i64 0, .int .i64 0, .slice none 0 0, .int .i64 0, .int .i64 0, .int .i64 0] 28, osl kIns (.slice A64 C.J.red.length c65) C.J.red, osl kIns (.slice A59 C.J.comb.length c60) C.J.comb, osl kIns (.slice A54 C.J.map.length c55) C.J.map] [rsl (kHd kPair) (.slice A1 C.J.us.length c2) C.J.us, rsl kIns (.slice A6 C.J.map.length c7) C.J.map, rsl kIns (.slice A11 C.J.comb.length c12) C.J.comb, rsl kIns (.slice A16 C.J.red.length c17) C.J.red, rsl (kInt .i64) (.slice A21 C.J.marks.length c22) C.J.marks] := H
  refine d_back ⟨_, H⟩ (d_nil (q_then (c_seq (c_reg (s_val rfl rfl (r_fa rfl fo28_0 rfl) (s_val rfl rfl (r_fa rfl fo26_8 rfl) (s_val rfl rfl (r_ld rfl ty24 rfl (H.cellI 0 rfl rfl)) (sc (cloneInt_ok (.slice A21 C.J.marks.length c22) C.J.marks (by first | omega | decide | assumption)) H (lR 4 rfl l0) rfl rfl (e_fn kn129 rfl rfl) ?_))))))))
  rintro v69 _ w rfl H
  refine s_val rfl rfl (r_fa rfl fo28_0 rfl) (s_val rfl rfl (r_fa rfl fo26_8 rfl) ?_)
  obtain ⟨A70, c71, rfl, hc72, hm73, hp74⟩ := H.fA 0 rfl
  replace H := H.p1
  refine s_st rfl rfl rfl ty24 rfl rfl H rfl (Nat.le_of_ble_eq_true rfl) (fun u hu => by simp [Value.cells] at hu; subst hu; rfl) (fun w H => ?_)
  replace H : Hd _ _ _ [blk b26 [.slice A29 ((hdr1 C.J.us).length) c30, .int .i64 C.J.parts, .slice A54 C.J.map.length c55, .slice A59 C.J.comb.length c60, .slice A64 C.J.red.length c65, .int .i64 C.J.chunk, .int .i64 C.J.window, .int .i64 C.J.fuel, .slice A70 C.J.marks.length c71, .int .i64 C.w, .int .i64 C.t, .int .i64 C.o] 28, osl (kInt .i64) (.slice A70 C.J.marks.length c71) C.J.marks, osl (kHd kPair) (.slice A29 ((hdr1 C.J.us).length) c30) zs, blk b27 [.slice none 0 0, .int .i64 0, .slice none 0 0, .slice none 0 0, .slice none 0 0, .int .i64 0, .int .i64 0, .int .i64 0, .slice none 0 0, .int .i64 0, .int .i64 0, .int .i64 0] 28, osl kIns (.slice A64 C.J.red.length c65) C.J.red, osl kIns (.slice A59 C.J.comb.length c60) C.J.comb, osl kIns (.slice A54 C.J.map.length c55) C.J.map] [rsl (kHd kPair) (.slice A1 C.J.us.length c2) C.J.us, rsl kIns (.slice A6 C.J.map.length c7) C.J.map, rsl kIns (.slice A11 C.J.comb.length c12) C.J.comb, rsl kIns (.slice A16 C.J.red.length c17) C.J.red, rsl (kInt .i64) (.slice A21 C.J.marks.length c22) C.J.marks] := H
  refine s_nil (q_then (c_seq (c_reg (s_val rfl rfl (r_ldA (cs := [.slice A29 ((hdr1 C.J.us).length) c30, .int .i64 C.J.parts, .slice A54 C.J.map.length c55, .slice A59 C.J.comb.length c60, .slice A64 C.J.red.length c65, .int .i64 C.J.chunk, .int .i64 C.J.window, .int .i64 C.J.fuel, .slice A70 C.J.marks.length c71, .int .i64 C.w, .int .i64 C.t, .int .i64 C.o]) rfl ty28 rfl rfl (H.cellsI 0 rfl rfl)) ?_))))
  replace H := H.p3
  refine s_st rfl rfl rfl ty28 rfl rfl H rfl (Nat.le_of_ble_eq_true rfl) (fun u hu => by simp [Value.cells] at hu; rcases hu with rfl | rfl | rfl | rfl | rfl | rfl | rfl | rfl | rfl | rfl | rfl | rfl <;> rfl) (fun w H => ?_)
  replace H := H.h1 (A := blk b27 [.slice A29 ((hdr1 C.J.us).length) c30, .int .i64 C.J.parts, .slice A54 C.J.map.length c55, .slice A59 C.J.comb.length c60, .slice A64 C.J.red.length c65, .int .i64 C.J.chunk, .int .i64 C.J.window, .int .i64 C.J.fuel, .slice A70 C.J.marks.length c71, .int .i64 C.w, .int .i64 C.t, .int .i64 C.o] 28)
  refine s_nil (q_then (c_ret (q_retC (cs := [.slice A29 ((hdr1 C.J.us).length) c30, .int .i64 C.J.parts, .slice A54 C.J.map.length c55, .slice A59 C.J.comb.length c60, .slice A64 C.J.red.length c65, .int .i64 C.J.chunk, .int .i64 C.J.window, .int .i64 C.J.fuel, .slice A70 C.J.marks.length c71, .int .i64 C.w, .int .i64 C.t, .int .i64 C.o]) rfl rfl ty28 rfl (H.cellsI 0 rfl rfl) ?_)))
  replace H := H.p2.p4.p5.p6.p6.k5
  exact fin ⟨({ C.J with us := zs } : Job), (.slice A29 ((hdr1 C.J.us).length) c30), (.slice A54 C.J.map.length c55), (.slice A59 C.J.comb.length c60), (.slice A64 C.J.red.length c65), (.slice A70 C.J.marks.length c71), rfl, rfl, hsj⟩ H

set_option maxHeartbeats 4000000 in
theorem cutSize_ok (c : Int) (a : Int) (hc : 1 ≤ c ∧ c ≤ 7) :
    Cn Tryz.prog 168 [.int .i64 c, .int .i64 a] [] [] (fun v Bs => v = .int .i64 (cutSz c a) ∧ Bs = []) := by
 intro w0 F0 H
 refine enter Tryz.func168 rfl rfl (Nat.le_of_ble_eq_true rfl) (c_seq (c_reg (s_1 rfl (s_nil (q_then (c_seq (c_seq (c_reg (s_1 rfl (s_val rfl rfl (r_rem (z := a.tmod 2) rfl rfl rfl (by omega) rfl) (s_val rfl rfl (r_ne rfl rfl rfl) (s_nil (q_then ?_)))))))))))))
 refine c_dec rfl (fun h1 => ?_) (fun h1 => ?_)
 ·refine c_seq (c_reg (s_1 rfl (s_val rfl rfl (r_add (z := c + 1) rfl rfl rfl (w64 (by omega) (by omega))) (s_1 rfl (s_nil (q_then (c_ret (q_thenR (q_ret1 rfl rfl ?_)))))))))
  replace H : Hd _ _ _ [] [] := H
  exact fin ⟨congrArg (Value.int .i64) (if_pos h1).symm, rfl⟩ H
 ·refine c_skip (q_then (c_seq (c_reg (s_k 2 rfl (s_nil (q_then (c_ret (q_ret1 rfl rfl ?_))))))))
  replace H : Hd _ _ _ [] [] := H
  exact fin ⟨congrArg (Value.int .i64) (if_neg h1).symm, rfl⟩ H
set_option maxHeartbeats 4000000 in
theorem cutChunks_ok (n : Int) (size : Int) (hn : 0 ≤ n ∧ n ≤ 1000000) :
    Cn Tryz.prog 105 [.int .i64 n, .int .i64 size] [] [] (fun v Bs => v = .int .i64 (chunksN n size) ∧ Bs = []) := by
 intro w0 F0 H
 refine enter Tryz.func105 rfl rfl (Nat.le_of_ble_eq_true rfl) (c_seq (c_reg (s_1 rfl (s_nil (q_then (c_seq (c_seq (c_reg (s_1 rfl (s_val rfl rfl (r_lt rfl rfl rfl) (s_1 rfl ?_)))))))))))
 refine s_dec (d := 7) rfl (fun h1 => ?_) (fun h1 => ?_)
 ·refine s_k 3 rfl (s_nil (q_then (c_yes rfl (c_seq (c_reg (s_1 rfl (s_nil (q_then (c_ret (q_thenR (q_ret1 rfl rfl ?_)))))))))))
  replace H : Hd _ _ _ [] [] := H
  exact fin ⟨congrArg (Value.int .i64) (if_pos (by omega)).symm, rfl⟩ H
 ·refine s_1 rfl (s_val rfl rfl (r_lt rfl rfl rfl) (s_1 rfl (s_nil (q_then ?_))))
  refine c_dec rfl (fun h2 => ?_) (fun h2 => ?_)
  ·refine c_seq (c_reg (s_1 rfl (s_nil (q_then (c_ret (q_thenR (q_ret1 rfl rfl ?_)))))))
   replace H : Hd _ _ _ [] [] := H
   exact fin ⟨congrArg (Value.int .i64) (if_pos (by omega)).symm, rfl⟩ H
  ·refine c_skip (q_then (c_seq ?_))
   have htd := tdiv_in (n := n - 1) (size := size) (by omega) (by omega)
   refine c_reg (s_1 rfl (s_val rfl rfl (r_sub (z := n - 1) rfl rfl rfl (w64 (by omega) (by omega))) (s_1 rfl (s_val rfl rfl (r_quo (z := (n - 1).tdiv size) rfl rfl rfl (by omega) (w64 (by omega) (by omega))) (s_val rfl rfl (r_add (z := ((n - 1).tdiv size) + 1) rfl rfl rfl (w64 (by omega) (by omega))) (s_1 rfl (s_nil (q_then (c_ret (q_ret1 rfl rfl ?_))))))))))
   replace H : Hd _ _ _ [] [] := H
   exact fin ⟨congrArg (Value.int .i64) (if_neg (by omega)).symm, rfl⟩ H
set_option maxHeartbeats 4000000 in
theorem cutChunk_ok (vps : Value) (ps : List Pair) (size : Int) (q : Int) (hl : ps.length ≤ 1000) (hs : 1 ≤ size ∧ size ≤ 8) :
    Cn Tryz.prog 113 [vps, .int .i64 size, .int .i64 q] [] [rsl kPair vps ps] (fun v Bs => Bs = [osl kPair v (cutL ps size q)]) := by
 intro w0 F0 H
 obtain ⟨A1, c2, rfl, hc3, hm4, hp5⟩ := H.fR 0 rfl
 refine enter Tryz.func113 rfl rfl (Nat.le_of_ble_eq_true rfl) (c_seq (c_reg (s_1 rfl (s_nil (q_then ?_)))))
 replace H : Hd _ _ _ [] [rsl kPair (.slice A1 ps.length c2) ps] := H
 refine c_seq (c_seq (c_reg (s_1 rfl (s_val rfl rfl (r_lt rfl rfl rfl) (s_1 rfl ?_)))))
 refine s_dec (d := 10) rfl (fun h6 => ?_) (fun h6 => ?_)
 ·refine s_k 7 rfl (s_nil (q_then (c_yes rfl (c_seq (c_reg (s_1 rfl (s_nil (q_then (c_ret (q_thenR (q_ret1 rfl rfl ?_)))))))))))
  replace H := H.newnil kPair |>.tellK (ys := cutL ps size q) (by rw [cutL_no (by omega)]) |>.h1 (A := osl kPair (.slice none 0 0) (cutL ps size q))
  exact fin rfl H
 ·refine s_k 2 rfl (s_val rfl rfl (r_lenL rfl un35 rfl) (s_1 rfl (sc (cutChunks_ok ((ps.length : Nat) : Int) size (by first | assumption | omega | (simp only [List.length_take, List.length_drop]; omega))) H l0 rfl rfl (e_fn kn105 rfl rfl) ?_)))
  rintro _ _ w ⟨rfl, rfl⟩ H
  refine s_val rfl rfl (r_ge rfl rfl rfl) (s_1 rfl (s_nil (q_then ?_)))
  refine c_dec rfl (fun h7 => ?_) (fun h7 => ?_)
  ·refine c_seq (c_reg (s_1 rfl (s_nil (q_then (c_ret (q_thenR (q_ret1 rfl rfl ?_)))))))
   replace H := H.newnil kPair |>.tellK (ys := cutL ps size q) (by rw [cutL_no (by omega)]) |>.h1 (A := osl kPair (.slice none 0 0) (cutL ps size q))
   exact fin rfl H
  ·refine c_skip (q_then (c_seq ?_))
   have hlo := chunk_lo (n := ps.length) (size := size) (q := q) (by omega) (by omega) hs.1
   obtain ⟨m, hm⟩ : ∃ m : Nat, q * size = (m : Int) := ⟨(q * size).toNat, by omega⟩
   obtain ⟨k, hk⟩ : ∃ k : Nat, min size (((ps.length - m : Nat) : Int)) = (k : Int) := ⟨(min size (((ps.length - m : Nat) : Int))).toNat, by omega⟩
   refine c_reg (s_k 3 rfl (s_val rfl rfl (r_mul (z := ((m : Nat) : Int)) rfl rfl rfl (by rw [hm]; exact w64 (by omega) (by omega))) (s_val rfl rfl (r_cutS rfl sl35 rfl rfl (by omega) (by omega) rfl) (s_1 rfl (s_nil (q_then (c_seq (c_reg (s_k 3 rfl (s_val rfl rfl (r_lenL rfl un35 rfl) (s_val rfl rfl (r_min (z := ((k : Nat) : Int)) rfl rfl rfl hk) (s_val rfl rfl (r_cutP rfl sl35 rfl rfl (by omega) (by omega) rfl) (sc (clone_ok (.slice (cutA A1 c2 m 2) k (c2 - m)) ((ps.drop m).take k) (by first | assumption | omega | (simp only [List.length_take, List.length_drop]; omega))) H (lX (fun F hA hR => rsl_mid2 (hR _ (List.mem_of_getElem? (i := 0) rfl)) (i := m) (m' := k) (by omega)) l0) rfl rfl (e_fn kn123 rfl rfl) ?_)))))))))))))
   rintro v8 _ w rfl H
   replace H := H.h1 (A := osl kPair v8 ((ps.drop m).take k))
   refine s_1 rfl (s_nil (q_then (c_ret (q_ret1 rfl rfl ?_))))
   replace H := H.tellK (ys := cutL ps size q) (by rw [cutL_is (by omega) (by omega) hs.1 hm hk]) |>.h1 (A := osl kPair v8 (cutL ps size q))
   exact fin rfl H

set_option maxHeartbeats 4000000 in
theorem codeNum_ok (vb : Value) (bs : List UInt8) (n : Nat) (hb : bs.length ≤ 1000000) (hn : n < 9223372036854775808) :
    Cn Tryz.prog 159 [vb, .int .i64 ((n : Nat) : Int)] [] [rsl kByte vb bs] (fun v Bs => Bs = [osl kByte v (bs ++ be8 n)]) := by
 intro w0 F0 H
 obtain ⟨A1, c2, rfl, hc3, hm4, hp5⟩ := H.fR 0 rfl
 refine enter Tryz.func159 rfl rfl (Nat.le_of_ble_eq_true rfl) (c_seq (c_reg (s_1 rfl (s_nil (q_then ?_)))))
 replace H : Hd _ _ _ [] [rsl kByte (.slice A1 bs.length c2) bs] := H
 refine c_seq (c_reg (s_1 rfl (s_val rfl rfl (r_lenL rfl un235 rfl) (s_1 rfl (s_val rfl rfl (r_lenL rfl un235 rfl) (s_val rfl rfl (r_add (z := ((bs.length + 8 : Nat) : Int)) rfl rfl rfl (by rw [w64 (by omega) (by omega)]; omega)) (s_mkF (m := bs.length) (c := bs.length + 8) (a0 := (0 : UInt8)) (enc := encB) rfl rfl rfl sl235 zr5 rfl (by decide) hlB rfl rfl (by omega) (by omega) (by omega) H (fun b6 w H => ?_))))))))
 replace H := H.h1 (A := rowF encB b6 5 (List.replicate (bs.length + 8) (0 : UInt8)))
 refine s_1 rfl (s_nil (q_then (c_seq (c_reg (s_k 2 rfl (s_copyIn (ys := bs) rfl rfl rfl sl235 rfl rfl H (by simp) (by omega) (fun F hA hR => hR _ (List.mem_of_getElem? (i := 0) rfl)) (fun w H => ?_)))))))
 replace H : Hd w0 F0 w [osl kByte (.slice (some ⟨b6, 0, none⟩) bs.length (bs.length + 8)) bs] [rsl kByte (.slice A1 bs.length c2) bs] := H.turn (fun F h => rowF_osl h (by simp) rfl (by simp) (by omega))
 refine s_nil (q_then (c_seq (c_seq (c_reg (s_1 rfl (s_nil (q_then (c_block ?_))))))))
 replace H : Hd w0 F0 w [osl kByte (.slice (some ⟨b6, 0, none⟩) bs.length (bs.length + 8)) (bs ++ (be8 n).take 0)] [rsl kByte (.slice A1 bs.length c2) bs] := by rw [List.take_zero, List.append_nil]; exact H
 refine c_loop (σ := Nat × Value) (fun (i, q) => [(1, .int .i64 ((n : Nat) : Int)), (4, .slice none 0 0), (5, q), (16, .int .i64 ((i : Nat) : Int))]) (fun (i, q) w => (Hd w0 F0 w [osl kByte q (bs ++ (be8 n).take i)] [rsl kByte (.slice A1 bs.length c2) bs]) ∧ (i ≤ 8)) (fun (i, q) => 8 - i) (0, .slice (some ⟨b6, 0, none⟩) bs.length (bs.length + 8)) ⟨rfl, rfl, rfl, rfl, trivial⟩ ⟨H, Nat.zero_le _⟩ ?_
 rintro ⟨i, q⟩ w ⟨H, hi⟩
 have hbl := be8_len n
 have htl : ((be8 n).take i).length ≤ 8 := by rw [List.length_take]; omega
 refine c_seq (c_reg (s_val rfl rfl (r_lt rfl rfl rfl) (s_nil (q_then (c_seq ?_)))))
 refine c_dec rfl (fun h7 => ?_) (fun h7 => ?_)
 ·refine c_skip (q_then (c_seq (c_block (c_seq (c_reg (s_k 2 rfl (s_nil (q_then (c_reg (s_k 2 rfl (s_val rfl rfl (r_i2i (z := ((n : Nat) : Int)) rfl rfl un3 un270 (wu64 (by omega) (by omega))) (s_1 rfl (s_val rfl rfl (r_sub (z := 7 - ((i : Nat) : Int)) rfl rfl rfl (w64 (by omega) (by omega))) (s_val rfl rfl (r_mul (z := 8 * (7 - ((i : Nat) : Int))) rfl rfl rfl (w64 (by omega) (by omega))) (s_val rfl rfl (r_i2i (z := 8 * (7 - ((i : Nat) : Int))) rfl rfl un3 un158 (wu64 (by omega) (by omega))) (s_val rfl rfl (r_shr (z := ((n / 256 ^ (7 - i) : Nat) : Int)) rfl rfl rfl (by omega) (shr8 n (by omega))) (s_val rfl rfl (r_i2i (z := ((UInt8.ofNat (n / 256 ^ (7 - i))).toNat : Int)) rfl rfl un270 un5 (wrap8 _)) (s_bsl (parts := [(0, .tmp 27)]) (vs := [.int .u8 ((UInt8.ofNat (n / 256 ^ (7 - i))).toNat : Int)]) (cs := [.int .u8 ((UInt8.ofNat (n / 256 ^ (7 - i))).toNat : Int)]) rfl rfl rfl sl235 zr5 rfl (by decide) (by decide) rfl rfl H (fun b8 w H => ?_)))))))))))))))))))
  replace H := H.p1
  refine s_appF (xs := bs ++ (be8 n).take i) (ys := [UInt8.ofNat (n / 256 ^ (7 - i))]) rfl rfl rfl sl235 zr5 rfl (by decide) rfl rfl H (by first | omega | (simp only [List.length_append, List.length_cons, List.length_nil]; omega)) (fun F hA hR => blk_rsl (hA _ (List.mem_of_getElem? (i := 0) rfl)) rfl (by decide) (RepsR.flat_eq.2 rfl)) (fun v9 w H => (s_1 rfl (s_nil (q_blockN (q_then ?_)))))
  replace H : Hd _ _ _ [osl kByte v9 ((bs ++ (be8 n).take i) ++ [UInt8.ofNat (n / 256 ^ (7 - i))]), blk b8 [.int .u8 ((UInt8.ofNat (n / 256 ^ (7 - i))).toNat : Int)] 5] [rsl kByte (.slice A1 bs.length c2) bs] := H
  refine c_reg (s_val rfl rfl (r_add (z := ((i + 1 : Nat) : Int)) rfl rfl rfl (by rw [w64 (by omega) (by omega)]; omega)) (s_1 rfl (s_nil ?_)))
  replace H := H.k1
  replace H : Hd w0 F0 w [osl kByte v9 (bs ++ (be8 n).take (i + 1))] [rsl kByte (.slice A1 bs.length c2) bs] := by rw [be8_take n (by omega), ← List.append_assoc]; exact H
  exact q_round (s := (i, undef)) (i + 1, v9) ⟨rfl, rfl, rfl, rfl, trivial⟩ ⟨H, by (try dsimp only); omega⟩ (by (try dsimp only); omega)
 ·refine c_exit (q_thenE (q_thenE (q_blockE (q_then (c_seq (c_reg (s_k 2 rfl (s_nil (q_then (c_ret (q_ret1 rfl rfl ?_)))))))))))
  replace H := H.h1 (A := osl kByte q (bs ++ (be8 n).take i))
  replace H : Hd w0 F0 w [osl kByte q (bs ++ be8 n)] [rsl kByte (.slice A1 bs.length c2) bs] := by rw [List.take_of_length_le (by omega)] at H; exact H
  exact fin rfl H
set_option maxHeartbeats 4000000 in
theorem codeText_ok (vb : Value) (bs : List UInt8) (s : ByteArray) (hb : bs.length ≤ 900000) (hs : s.size ≤ 900000) :
    Cn Tryz.prog 160 [vb, .string s] [] [rsl kByte vb bs] (fun v Bs => Bs = [osl kByte v (bs ++ textB s)]) := by
 intro w0 F0 H
 refine enter Tryz.func160 rfl rfl (Nat.le_of_ble_eq_true rfl) (c_seq (c_reg (s_1 rfl (s_nil (q_then (c_seq (c_reg (s_k 2 rfl (s_val rfl rfl (r_lenS rfl un9 rfl) (sc (codeNum_ok vb bs s.size (by first | assumption | omega) (by first | assumption | omega)) H (lR 0 rfl l0) rfl rfl (e_fn kn159 rfl rfl) ?_))))))))))
 rintro v1 _ w rfl H
 refine s_1 rfl (s_appStr rfl rfl rfl sl235 zr5 rfl (by decide) un9 rfl rfl H (by rw [List.length_append, be8_len]; omega) (fun v2 w H => (s_1 rfl (s_nil (q_then ?_)))))
 replace H : Hd _ _ _ [osl kByte v2 ((bs ++ be8 s.size) ++ bytesOf s)] [rsl kByte vb bs] := H
 refine c_ret (q_ret1 rfl rfl ?_)
 replace H : Hd w0 F0 w [osl kByte v2 (bs ++ textB s)] [rsl kByte vb bs] := by unfold textB; rw [← List.append_assoc]; exact H
 exact fin rfl H
set_option maxHeartbeats 4000000 in
theorem readNum_ok (vb : Value) (bs : List UInt8) (a : Int) (hb : bs.length ≤ 1000000) (ha : In64 a) :
    Cn Tryz.prog 203 [vb, .int .i64 a] [] [rsl kByte vb bs] (fun v Bs => v = .tuple #[.int .i64 ((rdN bs a).1), .int .i64 ((rdN bs a).2.1), .bool ((rdN bs a).2.2)] ∧ Bs = []) := by
 intro w0 F0 H
 obtain ⟨A1, c2, rfl, hc3, hm4, hp5⟩ := H.fR 0 rfl
 unfold In64 at ha
 refine enter Tryz.func203 rfl rfl (Nat.le_of_ble_eq_true rfl) (c_seq (c_reg (s_k 3 rfl (s_nil (q_then ?_)))))
 replace H : Hd _ _ _ [] [rsl kByte (.slice A1 bs.length c2) bs] := H
 refine c_seq (c_seq (c_reg (s_1 rfl (s_val rfl rfl (r_lt rfl rfl rfl) (s_1 rfl ?_)))))
 refine s_dec (d := 12) rfl (fun h6 => ?_) (fun h6 => ?_)
 ·refine s_k 12 rfl (s_nil (q_then (c_yes rfl (c_seq (c_reg (s_k 3 rfl (s_nil (q_then (c_ret (q_thenR (q_ret3 rfl rfl rfl rfl ?_)))))))))))
  have e := rdN_no (b := bs) (at_ := a) (by omega)
  exact fin ⟨by rw [e] <;> rfl, rfl⟩ H
 ·refine s_k 2 rfl (s_val rfl rfl (r_lenL rfl un235 rfl) (s_val rfl rfl (r_gt rfl rfl rfl) (s_k 2 rfl ?_)))
  refine s_dec (d := 18) rfl (fun h7 => ?_) (fun h7 => ?_)
  ·refine s_k 6 rfl (s_nil (q_then (c_yes rfl (c_seq (c_reg (s_k 3 rfl (s_nil (q_then (c_ret (q_thenR (q_ret3 rfl rfl rfl rfl ?_)))))))))))
   have e := rdN_no (b := bs) (at_ := a) (by omega)
   exact fin ⟨by rw [e] <;> rfl, rfl⟩ H
  ·refine s_1 rfl (s_val rfl rfl (r_lenL rfl un235 rfl) (s_1 rfl (s_val rfl rfl (r_sub (z := ((bs.length : Nat) : Int) - a) rfl rfl rfl (w64 (by omega) (by omega))) (s_val rfl rfl (r_lt rfl rfl rfl) (s_1 rfl (s_nil (q_then ?_)))))))
   refine c_dec rfl (fun h8 => ?_) (fun h8 => ?_)
   ·refine c_seq (c_reg (s_k 3 rfl (s_nil (q_then (c_ret (q_thenR (q_ret3 rfl rfl rfl rfl ?_)))))))
    have e := rdN_no (b := bs) (at_ := a) (by omega)
    exact fin ⟨by rw [e] <;> rfl, rfl⟩ H
   ·refine c_skip (q_then (c_seq (c_reg (s_1 rfl (s_nil (q_then (c_seq (c_seq (c_reg (s_k 3 rfl (s_val rfl rfl (r_add (z := a + 8) rfl rfl rfl (w64 (by omega) (by omega))) (s_val rfl rfl (r_cutM (i' := (a).toNat) (j' := (a + 8).toNat) (m' := 8) rfl sl235 rfl rfl rfl (by omega) (by omega) (by omega) rfl rfl (by omega)) (s_val rfl rfl (r_lenL rfl un235 rfl) (s_1 rfl (s_nil (q_then (c_block (c_loop (σ := Nat) (fun i => [(1, .int .i64 a), (4, .int .i64 0), (5, .int .i64 0), (6, .bool false), (7, .int .u64 ((rd8 (((bs.drop (a).toNat).take 8).take i) : Nat) : Int)), (29, .slice (cutA A1 c2 ((a).toNat) 1) 8 (c2 - ((a).toNat))), (30, .int .i64 ((8 : Nat) : Int)), (31, .int .i64 ((i : Nat) : Int))]) (fun i w => (Hd w0 F0 w [] [rsl kByte (.slice A1 bs.length c2) bs]) ∧ (i ≤ 8)) (fun i => 8 - i) 0 ⟨rfl, rfl, rfl, rfl, rfl, rfl, rfl, rfl, trivial⟩ ⟨H, Nat.zero_le _⟩ ?_))))))))))))))))))
    rintro i w ⟨H, hi⟩
    have hlt := rd8_lt (((bs.drop (a).toNat).take 8).take i) 0
    have hle8 : (((bs.drop (a).toNat).take 8).take i).length ≤ i := by rw [List.length_take]; omega
    refine c_seq (c_reg (s_val rfl rfl (r_lt rfl rfl rfl) (s_nil (q_then (c_seq ?_)))))
    refine c_dec rfl (fun h9 => ?_) (fun h9 => ?_)
    ·refine c_skip (q_then (c_seq (c_block (c_seq (c_reg ?_)))))
     obtain ⟨x10, hx11⟩ : ∃ z9, ((bs.drop ((a).toNat)).take 8)[i]? = some z9 := ⟨_, List.getElem?_eq_getElem (show i < ((bs.drop ((a).toNat)).take 8).length by simp only [List.length_take, List.length_drop]; omega)⟩
     have th12 := H.thX (fun F hA hR => rsl_mid2 (hR _ (List.mem_of_getElem? (i := 0) rfl)) (i := (a).toNat) (m' := 8) (by omega)) hx11
     refine s_val rfl rfl (r_iaE (p := oOf (cutA A1 c2 ((a).toNat) 1) + i * 1) rfl sl235 rfl rfl (by omega) (by omega) th12 rfl) (s_val rfl rfl (r_ld rfl ty5 rfl (H.elX (fun F hA hR => rsl_mid2 (hR _ (List.mem_of_getElem? (i := 0) rfl)) (i := (a).toNat) (m' := 8) (by omega)) hx11 (q := 0) rfl rfl)) (s_1 rfl (s_nil (q_then ?_))))
     have hx8 := UInt8.toNat_lt x10
     have hm7 : rd8 (((bs.drop (a).toNat).take 8).take i) < 72057594037927936 := Nat.lt_of_lt_of_le hlt (Nat.le_trans (Nat.pow_le_pow_right (by omega) (show _ ≤ 7 by omega)) (by decide))
     refine c_reg (s_1 rfl (s_val rfl rfl (r_shl (z := ((rd8 (((bs.drop (a).toNat).take 8).take i) * 256 : Nat) : Int)) rfl rfl rfl (by omega) (shl8 hm7)) (s_1 rfl (s_val rfl rfl (r_i2i (z := ((x10.toNat : Nat) : Int)) rfl rfl un5 un270 (wu64 (by omega) (by omega))) (s_val rfl rfl (r_bits (z := ((rd8 (((bs.drop (a).toNat).take 8).take i) * 256 + x10.toNat : Nat) : Int)) rfl (by simp) rfl rfl (or8 hm7 _)) (s_1 rfl (s_nil (q_blockN (q_then (c_reg (s_val rfl rfl (r_add (z := ((i + 1 : Nat) : Int)) rfl rfl rfl (by rw [w64 (by omega) (by omega)]; omega)) (s_1 rfl (s_nil ?_)))))))))))))
     have hst := rd8_step hx11
     exact q_round (s := i) (i + 1) ⟨rfl, rfl, rfl, rfl, (by (try dsimp only); rw [hst]; rfl), rfl, rfl, rfl, trivial⟩ ⟨H, by (try dsimp only); omega⟩ (by (try dsimp only); omega)
    ·refine c_exit (q_thenE (q_thenE (q_blockE (q_then (c_seq (c_reg (s_1 rfl (s_val rfl rfl (r_i2i (z := IntKind.i64.wrap ((rd8 ((bs.drop (a).toNat).take 8) : Nat) : Int)) rfl rfl un270 un3 (by rw [List.take_of_length_le (by rw [List.length_take]; omega)])) (s_1 rfl (s_val rfl rfl (r_add (z := a + 8) rfl rfl rfl (w64 (by omega) (by omega))) (s_k 3 rfl (s_nil (q_then (c_ret (q_ret3 rfl rfl rfl rfl ?_)))))))))))))))
     have e := rdN_yes (b := bs) (at_ := a) (by omega)
     exact fin ⟨by rw [e] <;> rfl, rfl⟩ H
set_option maxHeartbeats 4000000 in
theorem readText_ok (vb : Value) (bs : List UInt8) (a : Int) (hb : bs.length ≤ 1000000) (ha : In64 a) :
    Cn Tryz.prog 204 [vb, .int .i64 a] [] [rsl kByte vb bs] (fun v Bs => v = .tuple #[.string ((rdT bs a).1), .int .i64 ((rdT bs a).2.1), .bool ((rdT bs a).2.2)] ∧ Bs = []) := by
 intro w0 F0 H
 obtain ⟨A1, c2, rfl, hc3, hm4, hp5⟩ := H.fR 0 rfl
 refine enter Tryz.func204 rfl rfl (Nat.le_of_ble_eq_true rfl) (c_seq (c_reg (s_k 3 rfl (s_nil (q_then ?_)))))
 replace H : Hd _ _ _ [] [rsl kByte (.slice A1 bs.length c2) bs] := H
 refine c_seq (c_reg (s_k 2 rfl (sc (readNum_ok (.slice A1 bs.length c2) bs a (by first | assumption | omega) (by first | assumption | omega)) H (lR 0 rfl l0) rfl rfl (e_fn kn203 rfl rfl) ?_)))
 rintro _ _ w ⟨rfl, rfl⟩ H
 refine s_k 7 rfl (s_nil (q_then (c_seq (c_seq ?_))))
 have hi6 := @rdN_64 bs a
 have hin := @rdN_in bs a
 refine c_reg (s_1 rfl (s_val rfl rfl (r_not rfl rfl rfl) (s_1 rfl ?_)))
 refine s_boo (d := 19) (b := !((rdN bs a).2.2)) rfl (fun h6 => ?_) (fun h6 => ?_)
 ·refine s_k 11 rfl (s_nil (q_then (c_yes rfl (c_seq (c_reg (s_k 3 rfl (s_nil (q_then (c_ret (q_thenR (q_ret3 rfl rfl rfl rfl ?_)))))))))))
  have e := rdT_no1 (b := bs) (at_ := a) (by simpa using h6)
  exact fin ⟨by rw [e] <;> rfl, rfl⟩ H
 ·have hii := hin (by simpa using h6)
  refine s_1 rfl (s_val rfl rfl (r_lt rfl rfl rfl) (s_k 2 rfl ?_))
  refine s_dec (d := 23) rfl (fun h7 => ?_) (fun h7 => ?_)
  ·refine s_k 7 rfl (s_nil (q_then (c_yes rfl (c_seq (c_reg (s_k 3 rfl (s_nil (q_then (c_ret (q_thenR (q_ret3 rfl rfl rfl rfl ?_)))))))))))
   have e := (rdT_yes (b := bs) (at_ := a) (by simpa using h6)).trans (if_pos (by omega))
   exact fin ⟨by rw [e] <;> rfl, rfl⟩ H
  ·refine s_k 2 rfl (s_val rfl rfl (r_lenL rfl un235 rfl) (s_1 rfl (s_val rfl rfl (r_sub (z := ((bs.length : Nat) : Int) - ((rdN bs a).2.1)) rfl rfl rfl (w64 (by omega) (by omega))) (s_val rfl rfl (r_gt rfl rfl rfl) (s_1 rfl (s_nil (q_then ?_)))))))
   refine c_dec rfl (fun h8 => ?_) (fun h8 => ?_)
   ·refine c_seq (c_reg (s_k 3 rfl (s_nil (q_then (c_ret (q_thenR (q_ret3 rfl rfl rfl rfl ?_)))))))
    have e := (rdT_yes (b := bs) (at_ := a) (by simpa using h6)).trans (if_pos (by omega))
    exact fin ⟨by rw [e] <;> rfl, rfl⟩ H
   ·refine c_skip (q_then (c_seq (c_reg (s_k 4 rfl (s_val rfl rfl (r_add (z := ((rdN bs a).2.1) + ((rdN bs a).1)) rfl rfl rfl (w64 (by omega) (by omega))) (s_val rfl rfl (r_cutM (i' := ((rdN bs a).2.1).toNat) (j' := ((rdN bs a).2.1 + (rdN bs a).1).toNat) (m' := ((rdN bs a).1).toNat) rfl sl235 rfl rfl rfl (by omega) (by omega) (by omega) rfl rfl (by omega)) (s_val rfl rfl (H.read fun F hA hR => r_bytesStr rfl un235 un5 un9 rfl rfl (rsl_mid2 (hR _ (List.mem_of_getElem? (i := 0) rfl)) (i := ((rdN bs a).2.1).toNat) (m' := ((rdN bs a).1).toNat) (by omega))) (s_k 2 rfl (s_val rfl rfl (r_add (z := ((rdN bs a).2.1) + ((rdN bs a).1)) rfl rfl rfl (w64 (by omega) (by omega))) (s_k 3 rfl (s_nil (q_then (c_ret (q_ret3 rfl rfl rfl rfl ?_))))))))))))))
    have e := (rdT_yes (b := bs) (at_ := a) (by simpa using h6)).trans (if_neg (by omega))
    exact fin ⟨by rw [e] <;> rfl, rfl⟩ H

set_option maxHeartbeats 4000000 in
theorem packed_ok (vps : Value) (ps : List Pair) (hl : ps.length ≤ 1000) (hsz : ∀ p ∈ ps, p.key.size ≤ 100 ∧ p.val.size ≤ 100) :
    Cn Tryz.prog 97 [vps] [] [rsl kPair vps ps] (fun v Bs => v = .string (packS ps) ∧ Bs = []) := by
 intro w0 F0 H
 obtain ⟨A1, c2, rfl, hc3, hm4, hp5⟩ := H.fR 0 rfl
 refine enter Tryz.func97 rfl rfl (Nat.le_of_ble_eq_true rfl) (c_seq (c_reg (s_1 rfl (s_nil (q_then ?_)))))
 replace H : Hd _ _ _ [] [rsl kPair (.slice A1 ps.length c2) ps] := H
 refine c_seq (c_reg (s_1 rfl (s_val rfl rfl (r_lenL rfl un35 rfl) (sc (codeNum_ok (.slice none 0 0) [] ps.length (by first | assumption | omega | (simp only [List.length_nil]; omega)) (by first | assumption | omega | (simp only [List.length_nil]; omega))) H (lX (fun F _ _ => rsl_nil _ _ F trivial (by decide)) l0) rfl rfl (e_fn kn159 rfl rfl) ?_))))
 rintro v6 _ w rfl H
 replace H := H.h1 (A := osl kByte v6 ([] ++ be8 ps.length))
 refine s_1 rfl (s_nil (q_then (c_seq (c_seq (c_reg (s_1 rfl (s_val rfl rfl (r_lenL rfl un35 rfl) (s_1 rfl (s_nil (q_then (c_block ?_)))))))))))
 replace H : Hd w0 F0 w [osl kByte v6 (be8 ps.length ++ packP (ps.take 0))] [rsl kPair (.slice A1 ps.length c2) ps] := by rw [List.take_zero]; simpa [packP] using H
 refine c_loop (σ := Nat × Value) (fun (i, q) => [(2, .string ⟨#[]⟩), (3, q), (9, .slice A1 ps.length c2), (10, .int .i64 ((ps.length : Nat) : Int)), (11, .int .i64 ((i : Nat) : Int))]) (fun (i, q) w => (Hd w0 F0 w [osl kByte q (be8 ps.length ++ packP (ps.take i))] [rsl kPair (.slice A1 ps.length c2) ps]) ∧ (i ≤ ps.length)) (fun (i, q) => ps.length - i) (0, v6) ⟨rfl, rfl, rfl, rfl, rfl, trivial⟩ ⟨H, Nat.zero_le _⟩ ?_
 rintro ⟨i, q⟩ w ⟨H, hi⟩
 have hpl := packP_len (ps := ps.take i) (fun p hp => hsz p (List.mem_of_mem_take hp))
 have hpi : (ps.take i).length ≤ i := by rw [List.length_take]; omega
 have hbl : (be8 ps.length ++ packP (ps.take i)).length = 8 + (packP (ps.take i)).length := by rw [List.length_append, be8_len]
 refine c_seq (c_reg (s_val rfl rfl (r_lt rfl rfl rfl) (s_nil (q_then (c_seq ?_)))))
 refine c_dec rfl (fun h7 => ?_) (fun h7 => ?_)
 ·refine c_skip (q_then (c_seq (c_block (c_seq (c_reg ?_)))))
  obtain ⟨x8, hx9⟩ : ∃ z9, ps[i]? = some z9 := ⟨_, List.getElem?_eq_getElem (show i < ps.length by omega)⟩
  have th10 := H.thR 0 rfl hx9
  refine s_val rfl rfl (r_iaE (p := oOf A1 + i * 2) rfl sl35 rfl rfl (by omega) (by omega) th10 rfl) (s_val rfl rfl (r_ldA (cs := [.string x8.key, .string x8.val]) rfl ty106 rfl rfl (H.elsR 0 rfl hx9 rfl)) (s_alloc rfl rfl rfl zr106 H (fun b11 w H => (s_st rfl rfl rfl ty106 rfl rfl H rfl (Nat.le_of_ble_eq_true rfl) (fun u hu => by simp [Value.cells] at hu; rcases hu with rfl | rfl <;> rfl) (fun w H => ?_)))))
  replace H := H.h2 (A := blk b11 [.string x8.key, .string x8.val] 106) (B := osl kByte q (be8 ps.length ++ packP (ps.take i)))
  refine s_nil (q_then ?_)
  have hxs := hsz _ (at_mem hx9)
  have htk := textB_len x8.key
  have hbl2 : ((be8 ps.length ++ packP (ps.take i)) ++ textB x8.key).length = (be8 ps.length ++ packP (ps.take i)).length + (textB x8.key).length := List.length_append
  refine c_ord (.e 0 (.e 1 (.e 2 (.e 4 (.e 5 (.m 3 (.m 6 (.e 7 .z)))))))) (fun w => ∃ Ar, Hd w0 F0 w (blk b11 [.string x8.key, .string x8.val] 106 :: osl kByte q (be8 ps.length ++ packP (ps.take i)) :: Ar) [rsl kPair (.slice A1 ps.length c2) ps]) mo (by kernel_rfl) (fun w H => ⟨_, H⟩) H (fun w H => (d_1 rfl (d_val rfl rfl rfl (fun w ⟨Ar, H⟩ => r_fa rfl fo106_0 rfl) (d_val rfl rfl rfl (fun w ⟨Ar, H⟩ => r_ld rfl ty9 rfl (H.cellI 0 rfl rfl)) (d_val rfl rfl rfl (fun w ⟨Ar, H⟩ => r_fa rfl fo106_1 rfl) (d_val rfl rfl rfl (fun w ⟨Ar, H⟩ => r_ld rfl ty9 rfl (H.cellI 0 rfl rfl)) (d_main rfl (sc (codeText_ok q (be8 ps.length ++ packP (ps.take i)) x8.key (by first | assumption | omega | (simp only [List.length_nil]; omega)) (by first | assumption | omega | (simp only [List.length_nil]; omega))) H (lA 1 rfl own_rd l0) rfl rfl (e_fn kn160 rfl rfl) ?_))))))))
  rintro v12 _ w rfl H
  replace H := H.h1 (A := osl kByte v12 ((be8 ps.length ++ packP (ps.take i)) ++ textB x8.key)) |>.p2 |>.p2
  refine d_back ⟨_, H⟩ (d_main rfl (sc (codeText_ok v12 ((be8 ps.length ++ packP (ps.take i)) ++ textB x8.key) x8.val (by first | assumption | omega | (simp only [List.length_nil]; omega)) (by first | assumption | omega | (simp only [List.length_nil]; omega))) H (lA 2 rfl own_rd l0) rfl rfl (e_fn kn160 rfl rfl) ?_))
  rintro v13 _ w rfl H
  replace H := H.h1 (A := osl kByte v13 (((be8 ps.length ++ packP (ps.take i)) ++ textB x8.key) ++ textB x8.val)) |>.p2 |>.p2
  refine d_back ⟨_, H⟩ (d_1 rfl (d_nil (q_blockN (q_then (c_reg (s_val rfl rfl (r_add (z := ((i + 1 : Nat) : Int)) rfl rfl rfl (by rw [w64 (by omega) (by omega)]; omega)) (s_1 rfl (s_nil ?_))))))))
  replace H := H.p2.k1
  replace H : Hd w0 F0 w [osl kByte v13 (be8 ps.length ++ packP (ps.take (i + 1)))] [rsl kPair (.slice A1 ps.length c2) ps] := by rw [take_snoc hx9, packP_snoc, ← List.append_assoc, ← List.append_assoc]; exact H
  exact q_round (s := (i, undef)) (i + 1, v13) ⟨rfl, rfl, rfl, rfl, rfl, trivial⟩ ⟨H, by (try dsimp only); omega⟩ (by (try dsimp only); omega)
 ·refine c_exit (q_thenE (q_thenE (q_blockE (q_then (c_seq (c_reg (s_1 rfl ?_)))))))
  obtain ⟨A14, c15, rfl, hc16, hm17, hp18⟩ := H.fA 0 rfl
  refine s_val rfl rfl (H.read fun F hA hR => r_bytesStr rfl un235 un5 un9 rfl rfl (own_rd F (hA _ (List.mem_of_getElem? (i := 0) rfl)))) (s_1 rfl (s_nil (q_then (c_ret (q_ret1 rfl rfl ?_)))))
  replace H := H.nil
  have e : ps.take i = ps := List.take_of_length_le (by omega)
  exact fin ⟨by rw [e]; rfl, rfl⟩ H
set_option maxHeartbeats 4000000 in
theorem unpacked_ok (ps : List Pair) (hl : ps.length ≤ 1000) (hsz : ∀ p ∈ ps, p.key.size ≤ 100 ∧ p.val.size ≤ 100) :
    Cn Tryz.prog 167 [.string (packS ps)] [] [] (fun v Bs => Bs = [osl kPair v ps]) := by
 intro w0 F0 H
 have hps := packS_size hsz hl
 have hbb : (bytesOf (packS ps)).length ≤ 300000 := by rw [bytesOf_len]; exact hps
 have h064 : In64 (0 : Int) := by unfold In64; omega
 refine enter Tryz.func167 rfl rfl (Nat.le_of_ble_eq_true rfl) (c_seq (c_reg (s_1 rfl (s_nil (q_then (c_seq (c_reg (s_1 rfl (s_strBytes rfl rfl rfl un9 un235 un5 rfl (by omega) H (fun b1 c2 w hc3 hc4 H => (s_1 rfl (s_nil (q_then (c_seq (c_reg (s_1 rfl (sc (readNum_ok (.slice (some ⟨b1, 0, none⟩) ((packS ps).size) c2) (bytesOf (packS ps)) 0 (by first | assumption | omega | (simp only [List.length_nil]; omega)) (by first | assumption | omega | (simp only [List.length_nil]; omega))) H (lR 0 rfl l0) rfl rfl (e_fn kn203 rfl rfl) ?_)))))))))))))))))
 rintro _ _ w ⟨rfl, rfl⟩ H
 have hq : rdN (bytesOf (packS ps)) 0 = (((ps.length : Nat) : Int), 8, true) := by rw [packS_bytes]; exact pack_num (by omega)
 rw [hq]
 refine s_k 7 rfl (s_nil (q_then ?_))
 replace H : Hd _ _ _ [] [rsl kByte (.slice (some ⟨b1, 0, none⟩) ((packS ps).size) c2) (bytesOf (packS ps))] := H
 refine c_seq (c_reg (s_1 rfl (s_nil (q_then (c_seq (c_seq (c_reg (s_k 2 rfl (s_nil (q_then (c_block ?_)))))))))))
 replace H := H.newnil kPair
 replace H : Hd w0 F0 w [osl kPair (.slice none 0 0) (ps.take 0)] [rsl kByte (.slice (some ⟨b1, 0, none⟩) ((packS ps).size) c2) (bytesOf (packS ps))] := by rw [List.take_zero]; exact H
 refine c_loop (σ := Nat × Value) (fun (i, q) => [(2, .slice none 0 0), (3, .slice (some ⟨b1, 0, none⟩) ((packS ps).size) c2), (5, .int .i64 ((packAt ps i : Nat) : Int)), (7, q), (17, .int .i64 ((ps.length : Nat) : Int)), (18, .int .i64 ((i : Nat) : Int))]) (fun (i, q) w => (Hd w0 F0 w [osl kPair q (ps.take i)] [rsl kByte (.slice (some ⟨b1, 0, none⟩) ((packS ps).size) c2) (bytesOf (packS ps))]) ∧ (i ≤ ps.length)) (fun (i, q) => ps.length - i) (0, .slice none 0 0) ⟨rfl, rfl, rfl, rfl, rfl, rfl, trivial⟩ ⟨H, Nat.zero_le _⟩ ?_
 rintro ⟨i, q⟩ w ⟨H, hi⟩
 have htl : (ps.take i).length ≤ i := by rw [List.length_take]; omega
 refine c_seq (c_reg (s_val rfl rfl (r_lt rfl rfl rfl) (s_nil (q_then (c_seq ?_)))))
 refine c_dec rfl (fun h5 => ?_) (fun h5 => ?_)
 ·refine c_skip (q_then (c_seq (c_block (c_seq (c_reg (s_alloc rfl rfl rfl zr106 H (fun b6 w H => ?_)))))))
  replace H := H.h2 (A := blk b6 [.string ⟨#[]⟩, .string ⟨#[]⟩] 106) (B := osl kPair q (ps.take i))
  refine s_nil (q_then (c_seq ?_))
  obtain ⟨x7, hx8⟩ : ∃ z9, ps[i]? = some z9 := ⟨_, List.getElem?_eq_getElem (show i < ps.length by omega)⟩
  have hxs := hsz _ (at_mem hx8)
  have hkey : rdT (bytesOf (packS ps)) ((packAt ps i : Nat) : Int) = (x7.key, ((packAt ps i + 8 + x7.key.size : Nat) : Int), true) := by rw [packS_bytes]; exact pack_key hx8 (by omega)
  have hval : rdT (bytesOf (packS ps)) ((packAt ps i + 8 + x7.key.size : Nat) : Int) = (x7.val, ((packAt ps (i + 1) : Nat) : Int), true) := by rw [packS_bytes]; exact pack_val hx8 (by omega)
  have hpa : packAt ps i ≤ 300000 := packAt_le hsz hl i
  have hi64 : In64 ((packAt ps i : Nat) : Int) := by unfold In64; omega
  have hj64 : In64 ((packAt ps i + 8 + x7.key.size : Nat) : Int) := by unfold In64; omega
  refine c_reg (s_k 2 rfl (sc (readText_ok (.slice (some ⟨b1, 0, none⟩) ((packS ps).size) c2) (bytesOf (packS ps)) ((packAt ps i : Nat) : Int) (by first | assumption | omega | (simp only [List.length_nil]; omega)) (by first | assumption | omega | (simp only [List.length_nil]; omega))) H (lR 0 rfl l0) rfl rfl (e_fn kn204 rfl rfl) ?_))
  rintro _ _ w ⟨rfl, rfl⟩ H
  rw [hkey]
  refine s_k 4 rfl (s_val rfl rfl (r_fa rfl fo106_0 rfl) (s_st rfl rfl rfl ty9 rfl rfl H rfl (Nat.le_of_ble_eq_true rfl) (fun u hu => by simp [Value.cells] at hu; subst hu; rfl) (fun w H => ?_)))
  replace H := H.h1 (A := blk b6 [.string x7.key, .string ⟨#[]⟩] 106)
  refine s_1 rfl (s_nil (q_then (c_seq (c_reg (s_k 2 rfl (sc (readText_ok (.slice (some ⟨b1, 0, none⟩) ((packS ps).size) c2) (bytesOf (packS ps)) ((packAt ps i + 8 + x7.key.size : Nat) : Int) (by first | assumption | omega | (simp only [List.length_nil]; omega)) (by first | assumption | omega | (simp only [List.length_nil]; omega))) H (lR 0 rfl l0) rfl rfl (e_fn kn204 rfl rfl) ?_))))))
  rintro _ _ w ⟨rfl, rfl⟩ H
  rw [hval]
  refine s_k 4 rfl (s_val rfl rfl (r_fa rfl fo106_1 rfl) (s_st rfl rfl rfl ty9 rfl rfl H rfl (Nat.le_of_ble_eq_true rfl) (fun u hu => by simp [Value.cells] at hu; subst hu; rfl) (fun w H => ?_)))
  replace H := H.h1 (A := blk b6 [.string x7.key, .string x7.val] 106)
  refine s_1 rfl (s_nil (q_then (c_reg (s_1 rfl (s_val rfl rfl (r_ldA (cs := [.string x7.key, .string x7.val]) rfl ty106 rfl rfl (H.cellsI 0 rfl rfl)) (s_bsl (parts := [(0, .tmp 37)]) (vs := [.agg #[.string x7.key, .string x7.val]]) (cs := [.string x7.key, .string x7.val]) rfl rfl rfl sl35 zr106 rfl (by decide) (by decide) rfl rfl H (fun b9 w H => ?_)))))))
  replace H := H.p2
  refine s_appF (xs := ps.take i) (ys := [x7]) rfl rfl rfl sl35 zr106 rfl (by decide) rfl rfl H (by first | omega | (simp only [List.length_append, List.length_cons, List.length_nil]; omega)) (fun F hA hR => blk_rsl (hA _ (List.mem_of_getElem? (i := 0) rfl)) rfl (by decide) (RepsR.flat_eq.2 rfl)) (fun v10 w H => (s_1 rfl (s_nil (q_blockN (q_then ?_)))))
  replace H : Hd _ _ _ [osl kPair v10 ((ps.take i) ++ [x7]), blk b9 [.string x7.key, .string x7.val] 106, blk b6 [.string x7.key, .string x7.val] 106] [rsl kByte (.slice (some ⟨b1, 0, none⟩) ((packS ps).size) c2) (bytesOf (packS ps))] := H
  refine c_reg (s_val rfl rfl (r_add (z := ((i + 1 : Nat) : Int)) rfl rfl rfl (by rw [w64 (by omega) (by omega)]; omega)) (s_1 rfl (s_nil ?_)))
  replace H := H.k1
  replace H : Hd w0 F0 w [osl kPair v10 (ps.take (i + 1))] [rsl kByte (.slice (some ⟨b1, 0, none⟩) ((packS ps).size) c2) (bytesOf (packS ps))] := by rw [take_snoc hx8]; exact H
  exact q_round (s := (i, undef)) (i + 1, v10) ⟨rfl, rfl, rfl, rfl, rfl, rfl, trivial⟩ ⟨H, by (try dsimp only); omega⟩ (by (try dsimp only); omega)
 ·refine c_exit (q_thenE (q_thenE (q_blockE (q_then (c_seq (c_reg (s_k 2 rfl (s_nil (q_then (c_ret (q_ret1 rfl rfl ?_)))))))))))
  replace H := H.h1 (A := osl kPair q (ps.take i))
  replace H : Hd w0 F0 w [osl kPair q ps] [rsl kByte (.slice (some ⟨b1, 0, none⟩) ((packS ps).size) c2) (bytesOf (packS ps))] := by rw [List.take_of_length_le (by omega)] at H; exact H
  replace H := H.dropR
  replace H : Hd _ _ _ [osl kPair q ps] [] := H
  exact fin rfl H

end Go.Proofs.YthgehekecfpikaaGreatDoor.X
