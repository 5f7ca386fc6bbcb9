/- SnapOf: texts P2, P3, F2, R2, joined by a program of ours; what nothing names is left out. -/
import Derived.Test.YtlpgdkbokakniaaGreatDoorSnapOfQ3
import Derived.Test.YtlpgdkbokakniaaGreatDoorShelf
set_option linter.unusedVariables false
set_option linter.unusedSimpArgs false
namespace Go.Proofs.YtlpgdkbokakniaaGreatDoor.X
open Go
set_option maxHeartbeats 1000000 in
theorem nanS_ok (s : ByteArray) :
    Cn Tryz.prog 80 [.string s] [] [] (fun v Bs => v = .bool false ∧ Bs = []) := by
 intro w0 F0 H
 exact enter (args := [.string s]) Tryz.func80 rfl rfl (Nat.le_of_ble_eq_true rfl) (c_seq (c_reg (s_1 rfl (s_nil (q_then (c_seq (c_reg (s_k 2 rfl (s_val rfl rfl (r_neS rfl rfl rfl) (s_1 rfl (s_nil (q_then (c_ret (q_ret1 rfl rfl (fin ⟨congrArg Value.bool (decide_eq_false (fun h => h rfl)), rfl⟩ H)))))))))))))))
set_option maxHeartbeats 1000000 in
theorem cmpS_ok (a : ByteArray) (b : ByteArray) :
    Cn Tryz.prog 63 [.string a, .string b] [] [] (fun v Bs => v = .int .i64 (cmpK a b) ∧ Bs = []) := by
 intro w0 F0 H
 refine enter (args := [.string a, .string b]) Tryz.func63 rfl rfl (Nat.le_of_ble_eq_true rfl) (c_seq (c_reg (s_1 rfl (s_nil (q_then (c_seq (c_reg (s_1 rfl (sc (nanS_ok a) H l0 rfl rfl (e_fn kn80 rfl rfl) ?_)))))))))
 rintro _ _ w ⟨rfl, rfl⟩ H
 refine s_1 rfl (s_nil (q_then (c_seq (c_reg (s_1 rfl (sc (nanS_ok b) H l0 rfl rfl (e_fn kn80 rfl rfl) ?_))))))
 rintro _ _ w ⟨rfl, rfl⟩ H
 refine s_1 rfl (s_nil (q_then (c_seq (c_seq (c_reg (s_1 rfl (s_nil (q_then (c_no rfl (c_skip (q_then (c_seq (c_seq (c_reg (s_1 rfl (s_nil (q_then (c_no rfl (c_skip (q_then (c_seq (c_seq (c_reg (s_k 2 rfl (s_val rfl rfl (r_ltS rfl rfl rfl) (s_nil (q_then ?_)))))))))))))))))))))))))))
 refine c_dec (p := ltS a b = true) rfl (fun h1 => ?_) (fun h1 => ?_)
 ·exact c_seq (c_reg (s_1 rfl (s_nil (q_then (c_ret (q_thenR (q_ret1 rfl rfl (fin ⟨by rw [cmpK_lt h1], rfl⟩ H))))))))
 ·refine c_skip (q_then (c_seq (c_seq (c_reg (s_k 2 rfl (s_val rfl rfl (r_gtS rfl rfl rfl) (s_nil (q_then ?_))))))))
  refine c_cond (b := !(ltS a b || decide (a = b))) rfl (fun h2 => ?_) (fun h2 => ?_)
  ·exact c_seq (c_reg (s_1 rfl (s_nil (q_then (c_ret (q_thenR (q_ret1 rfl rfl (fin ⟨by rw [cmpK_gt h1 h2], rfl⟩ H))))))))
  ·exact c_skip (q_then (c_seq (c_reg (s_1 rfl (s_nil (q_then (c_ret (q_ret1 rfl rfl (fin ⟨by rw [cmpK_eq h1 h2], rfl⟩ H)))))))))
set_option maxHeartbeats 1000000 in
theorem order_ok (p q : Pair) :
    Cn Tryz.prog 38 [.agg #[.string p.key, .string p.val], .agg #[.string q.key, .string q.val]] [] [] (fun v Bs => v = .int .i64 (cmpK p.key q.key) ∧ Bs = []) := by
 intro w0 F0 H
 refine enter (args := [.agg #[.string p.key, .string p.val], .agg #[.string q.key, .string q.val]]) Tryz.func38 rfl rfl (Nat.le_of_ble_eq_true rfl) (c_seq (c_reg (s_box rfl rfl rfl rfl H (fun b1 w H => (s_box rfl rfl rfl rfl H (fun b2 w H => (s_1 rfl (s_nil (q_then ?_)))))))))
 replace H : Hd _ _ _ [blk b2 [.string q.key, .string q.val] 56, blk b1 [.string p.key, .string p.val] 56] [] := H
 refine c_seq (c_reg (s_val rfl rfl (r_fa rfl fo56_0 rfl) (s_val rfl rfl (r_ld rfl ty9 rfl (H.cellI 1 rfl rfl)) (s_val rfl rfl (r_fa rfl fo56_0 rfl) (s_val rfl rfl (r_ld rfl ty9 rfl (H.cellI 0 rfl rfl)) (sc (cmpS_ok p.key q.key) H l0 rfl rfl (e_fn kn63 rfl rfl) ?_))))))
 rintro _ _ w ⟨rfl, rfl⟩ H
 refine s_1 rfl (s_nil (q_then (c_ret (q_ret1 rfl rfl ?_))))
 replace H := H.keep 0
 exact fin ⟨rfl, rfl⟩ H
set_option maxHeartbeats 1000000 in
theorem swapRange_ok (v : Value) (xs : List Pair) (a : Nat) (b : Nat) (n : Nat) (h1 : a + n ≤ b) (h2 : b + n ≤ xs.length) (hb : xs.length ≤ 1000000) :
    Cn Tryz.prog 118 [v, .int .i64 ((a : Nat) : Int), .int .i64 ((b : Nat) : Int), .int .i64 ((n : Nat) : Int), .func (.func 38) #[] #[]] [osl kPair v xs] [] (fun _ Bs => ∃ ys, Bs = [osl kPair v ys] ∧ Via xs ys (swapI a b n)) := by
 intro w0 F0 H
 obtain ⟨A1, c2, rfl, hc3, hm4, hp5⟩ := H.fA 0 rfl
 refine enter (args := [.slice A1 xs.length c2, .int .i64 ((a : Nat) : Int), .int .i64 ((b : Nat) : Int), .int .i64 ((n : Nat) : Int), .func (.func 38) #[] #[]]) Tryz.func118 rfl rfl (Nat.le_of_ble_eq_true rfl) (c_seq (c_reg (s_1 rfl (s_nil (q_then ?_)))))
 replace H : Hd _ _ _ [osl kPair (.slice A1 xs.length c2) xs] [] := H
 refine c_block (c_loop (σ := Nat × List Pair) (fun (k, ys) => [(0, .slice A1 xs.length c2), (1, .int .i64 ((a : Nat) : Int)), (2, .int .i64 ((b : Nat) : Int)), (3, .int .i64 ((n : Nat) : Int)), (10, .int .i64 ((k : Nat) : Int))]) (fun (k, ys) w => (Hd w0 F0 w [osl kPair (.slice A1 xs.length c2) ys] []) ∧ (k ≤ n) ∧ (Via xs ys (swapI a b k))) (fun (k, ys) => n - k) (0, xs) ⟨rfl, rfl, rfl, rfl, rfl, trivial⟩ ⟨H, by omega, via_refl xs (fun t => by unfold swapI; rw [if_neg (by omega), if_neg (by omega)])⟩ ?_)
 rintro ⟨k, ys⟩ w ⟨H, hk, hv⟩
 have hl := hv.1
 refine c_seq (c_seq (c_reg (s_k 2 rfl (s_val rfl rfl (r_lt rfl rfl rfl) (s_nil (q_then ?_))))))
 refine c_dec (p := ((k : Nat) : Int) < ((n : Nat) : Int)) rfl (fun h6 => ?_) (fun h6 => ?_)
 ·refine c_skip (q_then (c_seq (c_block (c_ord (.e 0 (.e 1 (.e 2 (.e 3 (.e 4 (.e 5 (.e 6 (.e 7 (.e 8 (.e 9 (.e 10 (.e 11 (.e 12 (.e 14 (.e 15 (.e 16 (.e 17 (.e 18 (.p 13 19 (.e 20 (.m 21 (.e 22 (.m 23 .z))))))))))))))))))))))) (fun w => ∃ Ar, Hd w0 F0 w (Ar) []) mo (by kernel_rfl) (fun w H => ⟨_, H⟩) H (fun w H => (d_1 rfl (d_1 rfl (d_1 rfl (d_val rfl rfl rfl (fun w ⟨Ar, H⟩ => r_add (z := ((a + k : Nat) : Int)) rfl rfl rfl (by rw [w64 (by omega) (by omega)]; omega)) (d_1 rfl (d_1 rfl (d_1 rfl (d_val rfl rfl rfl (fun w ⟨Ar, H⟩ => r_add (z := ((b + k : Nat) : Int)) rfl rfl rfl (by rw [w64 (by omega) (by omega)]; omega)) (d_1 rfl (d_1 rfl (d_1 rfl (d_val rfl rfl rfl (fun w ⟨Ar, H⟩ => r_add (z := ((b + k : Nat) : Int)) rfl rfl rfl (by rw [w64 (by omega) (by omega)]; omega)) ?_)))))))))))))))))
  obtain ⟨x7, hx8⟩ : ∃ z9, ys[b + k]? = some z9 := ⟨_, List.getElem?_eq_getElem (show b + k < ys.length by omega)⟩
  have th9 := H.thA 0 rfl hx8
  refine d_val rfl rfl rfl (fun w ⟨Ar, H⟩ => r_iaE (p := oOf A1 + (b + k) * 2) rfl sl23 rfl rfl (by omega) (by omega) th9 rfl) (d_1 rfl (d_1 rfl (d_1 rfl (d_val rfl rfl rfl (fun w ⟨Ar, H⟩ => r_add (z := ((a + k : Nat) : Int)) rfl rfl rfl (by rw [w64 (by omega) (by omega)]; omega)) ?_))))
  obtain ⟨x10, hx11⟩ : ∃ z9, ys[a + k]? = some z9 := ⟨_, List.getElem?_eq_getElem (show a + k < ys.length by omega)⟩
  have th12 := H.thA 0 rfl hx11
  refine d_val rfl rfl rfl (fun w ⟨Ar, H⟩ => r_iaE (p := oOf A1 + (a + k) * 2) rfl sl23 rfl rfl (by omega) (by omega) th12 rfl) (d_pair rfl rfl rfl rfl rfl rfl rfl rfl (by decide) (r_ldA (cs := [.string x7.key, .string x7.val]) rfl ty56 rfl rfl (H.elsA 0 rfl hx8 rfl)) (r_ldA (cs := [.string x10.key, .string x10.val]) rfl ty56 rfl rfl (H.elsA 0 rfl hx11 rfl)) ?_)
  have th13 := H.thA 0 rfl hx11
  refine d_val rfl rfl rfl (fun w ⟨Ar, H⟩ => r_iaE (p := oOf A1 + (a + k) * 2) rfl sl23 rfl rfl (by omega) (by omega) th13 rfl) (d_main rfl (s_stO (i := a + k) (a := x7) rfl rfl rfl ty56 rfl rfl rfl H (by omega) rfl (fun w H => ?_)))
  replace H := H.h1 (A := osl kPair (.slice A1 xs.length c2) (ys.set (a + k) x7))
  refine d_back ⟨_, H⟩ ?_
  obtain ⟨x14, hx15⟩ : ∃ z9, (ys.set (a + k) x7)[b + k]? = some z9 := ⟨_, List.getElem?_eq_getElem (show b + k < (ys.set (a + k) x7).length by simp only [List.length_set]; omega)⟩
  have th16 := H.thA 0 rfl hx15
  refine d_val rfl rfl rfl (fun w ⟨Ar, H⟩ => r_iaE (p := oOf A1 + (b + k) * 2) rfl sl23 rfl rfl (by omega) (by omega) th16 rfl) (d_main rfl (s_stO (i := b + k) (a := x10) rfl rfl rfl ty56 rfl rfl rfl H (by simp only [List.length_set]; omega) rfl (fun w H => ?_)))
  replace H := H.h1 (A := osl kPair (.slice A1 xs.length c2) ((ys.set (a + k) x7).set (b + k) x10))
  exact d_back ⟨_, H⟩ (d_nil (q_blockN (q_then (c_reg (s_1 rfl (s_val rfl rfl (r_add (z := ((k + 1 : Nat) : Int)) rfl rfl rfl (by rw [w64 (by omega) (by omega)]; omega)) (s_1 rfl (s_nil (q_round (s := (k, ys)) (k + 1, (ys.set (a + k) x7).set (b + k) x10) ⟨rfl, rfl, rfl, rfl, rfl, trivial⟩ ⟨H, by omega, via_set2 (by omega) hv hx11 hx8⟩ (by (try dsimp only); omega))))))))))
 ·exact c_exit (q_thenE (q_thenE (q_blockE (q_end rfl (fin ⟨_, rfl, (by omega : k = n) ▸ hv⟩ H)))))
set_option maxHeartbeats 1000000 in
theorem rotate_ok (v : Value) (xs : List Pair) (a : Nat) (m : Nat) (b : Nat) (h1 : a < m) (h2 : m < b) (h3 : b ≤ xs.length) (hb : xs.length ≤ 1000000) :
    Cn Tryz.prog 90 [v, .int .i64 ((a : Nat) : Int), .int .i64 ((m : Nat) : Int), .int .i64 ((b : Nat) : Int), .func (.func 38) #[] #[]] [osl kPair v xs] [] (fun _ Bs => ∃ ys, Bs = [osl kPair v ys] ∧ Via xs ys (rotI a m b)) := by
 intro w0 F0 H
 obtain ⟨A1, c2, rfl, hc3, hm4, hp5⟩ := H.fA 0 rfl
 refine enter (args := [.slice A1 xs.length c2, .int .i64 ((a : Nat) : Int), .int .i64 ((m : Nat) : Int), .int .i64 ((b : Nat) : Int), .func (.func 38) #[] #[]]) Tryz.func90 rfl rfl (Nat.le_of_ble_eq_true rfl) (c_seq (c_reg (s_k 2 rfl (s_val rfl rfl (r_sub (z := ((m - a : Nat) : Int)) rfl rfl rfl (by rw [w64 (by omega) (by omega)]; omega)) (s_1 rfl (s_nil (q_then ?_)))))))
 replace H : Hd _ _ _ [osl kPair (.slice A1 xs.length c2) xs] [] := H
 refine c_seq (c_reg (s_k 2 rfl (s_val rfl rfl (r_sub (z := ((b - m : Nat) : Int)) rfl rfl rfl (by rw [w64 (by omega) (by omega)]; omega)) (s_1 rfl (s_nil (q_then (c_seq (c_block (c_loop (σ := Nat × Nat × List Pair) (fun (i, j, ys) => [(0, .slice A1 xs.length c2), (2, .int .i64 ((m : Nat) : Int)), (4, .func (.func 38) #[] #[]), (10, .int .i64 ((i : Nat) : Int)), (11, .int .i64 ((j : Nat) : Int))]) (fun (i, j, ys) w => (Hd w0 F0 w [osl kPair (.slice A1 xs.length c2) ys] []) ∧ (0 < i ∧ i ≤ m ∧ 0 < j ∧ m + j ≤ xs.length) ∧ (ys.length = xs.length) ∧ (∀ t, xs[rotI a m b t]? = ys[rotI (m - i) m (m + j) t]?)) (fun (i, j, ys) => i + j) (m - a, b - m, xs) ⟨rfl, rfl, rfl, rfl, rfl, trivial⟩ ⟨H, by (try dsimp only); omega, rfl, fun t => by (try dsimp only); rw [show m - (m - a) = a by omega, show m + (b - m) = b by omega]⟩ ?_)))))))))
 rintro ⟨i, j, ys⟩ w ⟨H, hi, hl, hv⟩
 refine c_seq (c_seq (c_reg (s_k 2 rfl (s_val rfl rfl (r_ne rfl rfl rfl) (s_nil (q_then ?_))))))
 refine c_dec (p := ((i : Nat) : Int) ≠ ((j : Nat) : Int)) rfl (fun h6 => ?_) (fun h6 => ?_)
 ·refine c_skip (q_then (c_block (c_seq (c_reg (s_k 2 rfl (s_val rfl rfl (r_gt rfl rfl rfl) (s_nil (q_then ?_))))))))
  refine c_dec (p := ((j : Nat) : Int) < ((i : Nat) : Int)) rfl (fun h7 => ?_) (fun h7 => ?_)
  ·refine c_seq (c_reg (s_k 3 rfl (s_val rfl rfl (r_sub (z := ((m - i : Nat) : Int)) rfl rfl rfl (by rw [w64 (by omega) (by omega)]; omega)) (s_k 3 rfl (sc (swapRange_ok (.slice A1 xs.length c2) ys (m - i) m j (by omega) (by omega) (by omega)) H l0 rfl rfl (e_fn kn118 rfl rfl) ?_)))))
   rintro _ _ w ⟨ys8, rfl, hv9⟩ H
   refine s_nil (q_then ?_)
   replace H := H.h1 (A := osl kPair (.slice A1 xs.length c2) ys8)
   refine c_reg (s_k 2 rfl (s_val rfl rfl (r_sub (z := ((i - j : Nat) : Int)) rfl rfl rfl (by rw [w64 (by omega) (by omega)]; omega)) (s_1 rfl (s_nil (q_blockN ?_)))))
   have hw := rot_gt (m := m) (i := i) (j := j) (by omega) (by omega) hv9
   exact q_round (s := (i, j, ys)) (i - j, j, ys8) ⟨rfl, rfl, rfl, rfl, rfl, trivial⟩ ⟨H, by (try dsimp only); omega, by (try dsimp only); rw [hv9.1]; exact hl, fun t => (hv t).trans (hw t)⟩ (by (try dsimp only); omega)
  ·refine c_seq (c_reg (s_k 3 rfl (s_val rfl rfl (r_sub (z := ((m - i : Nat) : Int)) rfl rfl rfl (by rw [w64 (by omega) (by omega)]; omega)) (s_k 2 rfl (s_val rfl rfl (r_add (z := ((m + j : Nat) : Int)) rfl rfl rfl (by rw [w64 (by omega) (by omega)]; omega)) (s_1 rfl (s_val rfl rfl (r_sub (z := ((m + j - i : Nat) : Int)) rfl rfl rfl (by rw [w64 (by omega) (by omega)]; omega)) (s_k 2 rfl (sc (swapRange_ok (.slice A1 xs.length c2) ys (m - i) (m + j - i) i (by omega) (by omega) (by omega)) H l0 rfl rfl (e_fn kn118 rfl rfl) ?_)))))))))
   rintro _ _ w ⟨ys10, rfl, hv11⟩ H
   refine s_nil (q_then ?_)
   replace H := H.h1 (A := osl kPair (.slice A1 xs.length c2) ys10)
   refine c_reg (s_k 2 rfl (s_val rfl rfl (r_sub (z := ((j - i : Nat) : Int)) rfl rfl rfl (by rw [w64 (by omega) (by omega)]; omega)) (s_1 rfl (s_nil (q_blockN ?_)))))
   have hw := rot_lt (m := m) (i := i) (j := j) (by omega) (by omega) hv11
   exact q_round (s := (i, j, ys)) (i, j - i, ys10) ⟨rfl, rfl, rfl, rfl, rfl, trivial⟩ ⟨H, by (try dsimp only); omega, by (try dsimp only); rw [hv11.1]; exact hl, fun t => (hv t).trans (hw t)⟩ (by (try dsimp only); omega)
 ·refine c_exit (q_thenE (q_thenE (q_blockE (q_then (c_reg (s_k 3 rfl (s_val rfl rfl (r_sub (z := ((m - i : Nat) : Int)) rfl rfl rfl (by rw [w64 (by omega) (by omega)]; omega)) (s_k 3 rfl (sc (swapRange_ok (.slice A1 xs.length c2) ys (m - i) m i (by omega) (by omega) (by omega)) H l0 rfl rfl (e_fn kn118 rfl rfl) ?_)))))))))
  rintro _ _ w ⟨ys12, rfl, hv13⟩ H
  refine s_nil (q_end rfl ?_)
  obtain rfl : i = j := by omega
  exact fin ⟨_, rfl, hv13.1.trans hl, fun t => by rw [hv, hv13.2, rot_eq (by omega)]⟩ H
set_option maxHeartbeats 1000000 in
theorem insSort_ok (v : Value) (xs : List Pair) (a : Nat) (b : Nat) (h1 : a ≤ b) (h2 : b ≤ xs.length) (hb : xs.length ≤ 1000000) :
    Cn Tryz.prog 78 [v, .int .i64 ((a : Nat) : Int), .int .i64 ((b : Nat) : Int), .func (.func 38) #[] #[]] [osl kPair v xs] [] (fun _ Bs => ∃ ys, Bs = [osl kPair v ys] ∧ Sorts xs ys a b) := by
 intro w0 F0 H
 obtain ⟨A1, c2, rfl, hc3, hm4, hp5⟩ := H.fA 0 rfl
 refine enter (args := [.slice A1 xs.length c2, .int .i64 ((a : Nat) : Int), .int .i64 ((b : Nat) : Int), .func (.func 38) #[] #[]]) Tryz.func78 rfl rfl (Nat.le_of_ble_eq_true rfl) (c_seq (c_reg (s_1 rfl (s_val rfl rfl (r_add (z := ((a + 1 : Nat) : Int)) rfl rfl rfl (by rw [w64 (by omega) (by omega)]; omega)) (s_1 rfl (s_nil (q_then ?_)))))))
 replace H : Hd _ _ _ [osl kPair (.slice A1 xs.length c2) xs] [] := H
 refine c_block (c_loop (σ := Nat × List Pair) (fun (i, ys) => [(0, .slice A1 xs.length c2), (1, .int .i64 ((a : Nat) : Int)), (2, .int .i64 ((b : Nat) : Int)), (3, .func (.func 38) #[] #[]), (8, .int .i64 ((i : Nat) : Int))]) (fun (i, ys) w => (Hd w0 F0 w [osl kPair (.slice A1 xs.length c2) ys] []) ∧ (a + 1 ≤ i ∧ (i ≤ b ∨ i = a + 1)) ∧ (Stab xs ys) ∧ (InI xs ys a b) ∧ (SrtI ys a i)) (fun (i, ys) => b - i) (a + 1, xs) ⟨rfl, rfl, rfl, rfl, rfl, trivial⟩ ⟨H, by (try dsimp only); omega, Stab.refl _, InI.refl _ _ _, SrtI.one xs (Nat.le_refl _)⟩ ?_)
 rintro ⟨i, ys⟩ w ⟨H, hi, hst, hin, hso⟩
 have hl := hin.1
 refine c_seq (c_seq (c_reg (s_k 2 rfl (s_val rfl rfl (r_lt rfl rfl rfl) (s_nil (q_then ?_))))))
 refine c_dec (p := ((i : Nat) : Int) < ((b : Nat) : Int)) rfl (fun h6 => ?_) (fun h6 => ?_)
 ·refine c_skip (q_then (c_seq (c_block (c_seq (c_reg (s_k 2 rfl (s_nil (q_then (c_block (c_loop (σ := Nat × List Pair) (fun (j, zs) => [(0, .slice A1 xs.length c2), (1, .int .i64 ((a : Nat) : Int)), (2, .int .i64 ((b : Nat) : Int)), (3, .func (.func 38) #[] #[]), (8, .int .i64 ((i : Nat) : Int)), (9, .int .i64 ((j : Nat) : Int))]) (fun (j, zs) w => (Hd w0 F0 w [osl kPair (.slice A1 xs.length c2) zs] []) ∧ (a ≤ j ∧ j ≤ i) ∧ (Stab xs zs) ∧ (InI xs zs a b) ∧ (ButI zs a (i + 1) j)) (fun (j, zs) => j) (i, ys) ⟨rfl, rfl, rfl, rfl, rfl, rfl, trivial⟩ ⟨H, by (try dsimp only); omega, hst, hin, but_start hso⟩ ?_))))))))))
  rintro ⟨j, zs⟩ w ⟨H, hj, hst2, hin2, hbu⟩
  have hl2 := hin2.1
  refine c_seq (c_seq (c_ord (.e 0 (.e 1 (.e 2 (.e 3 (.e 4 (.e 5 (.e 6 (.e 7 (.e 8 (.e 9 (.e 10 (.e 11 (.e 12 (.e 13 (.m 14 (.e 15 (.e 16 .z))))))))))))))))) (fun w => ∃ Ar, Hd w0 F0 w (osl kPair (.slice A1 xs.length c2) zs :: Ar) []) mo (by kernel_rfl) (fun w H => ⟨_, H⟩) H (fun w H => (d_1 rfl (d_1 rfl (d_val rfl rfl rfl (fun w ⟨Ar, H⟩ => r_gt rfl rfl rfl) (d_1 rfl ?_)))))))
  refine d_dec (d := 21) (p := ((a : Nat) : Int) < ((j : Nat) : Int)) rfl (fun h7 => ?_) (fun h7 => ?_)
  ·refine d_1 rfl (d_1 rfl (d_1 rfl ?_))
   obtain ⟨x8, hx9⟩ : ∃ z9, zs[j]? = some z9 := ⟨_, List.getElem?_eq_getElem (show j < zs.length by omega)⟩
   have th10 := H.thA 0 rfl hx9
   refine d_val rfl rfl rfl (fun w ⟨Ar, H⟩ => r_iaE (p := oOf A1 + j * 2) rfl sl23 rfl rfl (by omega) (by omega) th10 rfl) (d_val rfl rfl rfl (fun w ⟨Ar, H⟩ => r_ldA (cs := [.string x8.key, .string x8.val]) rfl ty56 rfl rfl (H.elsA 0 rfl hx9 rfl)) (d_1 rfl (d_1 rfl (d_val rfl rfl rfl (fun w ⟨Ar, H⟩ => r_sub (z := ((j - 1 : Nat) : Int)) rfl rfl rfl (by rw [w64 (by omega) (by omega)]; omega)) ?_))))
   obtain ⟨x11, hx12⟩ : ∃ z9, zs[j - 1]? = some z9 := ⟨_, List.getElem?_eq_getElem (show j - 1 < zs.length by omega)⟩
   have th13 := H.thA 0 rfl hx12
   refine d_val rfl rfl rfl (fun w ⟨Ar, H⟩ => r_iaE (p := oOf A1 + (j - 1) * 2) rfl sl23 rfl rfl (by omega) (by omega) th13 rfl) (d_val rfl rfl rfl (fun w ⟨Ar, H⟩ => r_ldA (cs := [.string x11.key, .string x11.val]) rfl ty56 rfl rfl (H.elsA 0 rfl hx12 rfl)) (d_main rfl (sc (order_ok x8 x11) H l0 rfl rfl (e_val (vs := [.agg #[.string x8.key, .string x8.val], .agg #[.string x11.key, .string x11.val]]) (fs := #[]) (cs := #[]) kn38 rfl rfl rfl) ?_)))
   rintro _ _ w ⟨rfl, rfl⟩ H
   refine d_back ⟨_, H⟩ (d_val rfl rfl rfl (fun w ⟨Ar, H⟩ => r_lt rfl rfl rfl) (d_1 rfl (d_nil (q_then ?_))))
   refine c_dec (p := (cmpK x8.key x11.key) < 0) rfl (fun h14 => ?_) (fun h14 => ?_)
   ·refine c_skip (q_then (c_seq (c_block (c_ord (.e 0 (.e 1 (.e 2 (.e 3 (.e 4 (.e 5 (.e 6 (.e 7 (.e 8 (.e 10 (.e 11 (.e 12 (.p 9 13 (.e 14 (.m 15 (.e 16 (.m 17 .z))))))))))))))))) (fun w => ∃ Ar, Hd w0 F0 w (Ar) []) mo (by kernel_rfl) (fun w H => ⟨_, H⟩) H (fun w H => (d_1 rfl (d_1 rfl (d_1 rfl (d_1 rfl (d_val rfl rfl rfl (fun w ⟨Ar, H⟩ => r_sub (z := ((j - 1 : Nat) : Int)) rfl rfl rfl (by rw [w64 (by omega) (by omega)]; omega)) (d_1 rfl (d_1 rfl (d_val rfl rfl rfl (fun w ⟨Ar, H⟩ => r_sub (z := ((j - 1 : Nat) : Int)) rfl rfl rfl (by rw [w64 (by omega) (by omega)]; omega)) ?_)))))))))))))
    have th15 := H.thA 0 rfl hx12
    refine d_val rfl rfl rfl (fun w ⟨Ar, H⟩ => r_iaE (p := oOf A1 + (j - 1) * 2) rfl sl23 rfl rfl (by omega) (by omega) th15 rfl) (d_1 rfl (d_1 rfl ?_))
    have th16 := H.thA 0 rfl hx9
    refine d_val rfl rfl rfl (fun w ⟨Ar, H⟩ => r_iaE (p := oOf A1 + j * 2) rfl sl23 rfl rfl (by omega) (by omega) th16 rfl) (d_pair rfl rfl rfl rfl rfl rfl rfl rfl (by decide) (r_ldA (cs := [.string x11.key, .string x11.val]) rfl ty56 rfl rfl (H.elsA 0 rfl hx12 rfl)) (r_ldA (cs := [.string x8.key, .string x8.val]) rfl ty56 rfl rfl (H.elsA 0 rfl hx9 rfl)) ?_)
    have th17 := H.thA 0 rfl hx9
    refine d_val rfl rfl rfl (fun w ⟨Ar, H⟩ => r_iaE (p := oOf A1 + j * 2) rfl sl23 rfl rfl (by omega) (by omega) th17 rfl) (d_main rfl (s_stO (i := j) (a := x11) rfl rfl rfl ty56 rfl rfl rfl H (by omega) rfl (fun w H => ?_)))
    replace H := H.h1 (A := osl kPair (.slice A1 xs.length c2) (zs.set j x11))
    refine d_back ⟨_, H⟩ ?_
    obtain ⟨x18, hx19⟩ : ∃ z9, (zs.set j x11)[j - 1]? = some z9 := ⟨_, List.getElem?_eq_getElem (show j - 1 < (zs.set j x11).length by simp only [List.length_set]; omega)⟩
    have th20 := H.thA 0 rfl hx19
    refine d_val rfl rfl rfl (fun w ⟨Ar, H⟩ => r_iaE (p := oOf A1 + (j - 1) * 2) rfl sl23 rfl rfl (by omega) (by omega) th20 rfl) (d_main rfl (s_stO (i := j - 1) (a := x8) rfl rfl rfl ty56 rfl rfl rfl H (by simp only [List.length_set]; omega) rfl (fun w H => ?_)))
    replace H := H.h1 (A := osl kPair (.slice A1 xs.length c2) ((zs.set j x11).set (j - 1) x8))
    refine d_back ⟨_, H⟩ (d_nil (q_blockN (q_then (c_reg (s_1 rfl (s_val rfl rfl (r_sub (z := ((j - 1 : Nat) : Int)) rfl rfl rfl (by rw [w64 (by omega) (by omega)]; omega)) (s_1 rfl (s_nil ?_))))))))
    have hsw := swap_stab' (by omega) hx12 hx9 (cmpK_neg.1 h14)
    exact q_round (s := (j, zs)) (j - 1, (zs.set j x11).set (j - 1) x8) ⟨rfl, rfl, rfl, rfl, rfl, rfl, trivial⟩ ⟨H, by (try dsimp only); omega, hst2.trans hsw.1, hin2.trans (hsw.2.wider (by omega) (by omega)), but_step' hbu (by omega) hx12 hx9 (cmpK_neg.1 h14) (by omega)⟩ (by (try dsimp only); omega)
   ·exact c_exit (q_thenE (q_thenE (q_blockE (q_blockN (q_then (c_reg (s_1 rfl (s_val rfl rfl (r_add (z := ((i + 1 : Nat) : Int)) rfl rfl rfl (by rw [w64 (by omega) (by omega)]; omega)) (s_1 rfl (s_nil (q_round (s := (i, ys)) (i + 1, zs) ⟨rfl, rfl, rfl, rfl, rfl, trivial⟩ ⟨H, by (try dsimp only); omega, hst2, hin2, but_stop' hbu (by omega) hx12 hx9 (cmpK_nneg h14)⟩ (by (try dsimp only); omega))))))))))))
  ·exact d_1 rfl (d_1 rfl (d_1 rfl (d_1 rfl (d_1 rfl (d_1 rfl (d_1 rfl (d_1 rfl (d_1 rfl (d_1 rfl (d_mno rfl ⟨_, H⟩ rfl rfl (d_1 rfl (d_1 rfl (d_nil (q_then (c_no rfl (c_exit (q_thenE (q_thenE (q_blockE (q_blockN (q_then (c_reg (s_1 rfl (s_val rfl rfl (r_add (z := ((i + 1 : Nat) : Int)) rfl rfl rfl (by rw [w64 (by omega) (by omega)]; omega)) (s_1 rfl (s_nil (q_round (s := (i, ys)) (i + 1, zs) ⟨rfl, rfl, rfl, rfl, rfl, trivial⟩ ⟨H, by (try dsimp only); omega, hst2, hin2, but_low ((by omega : j = a) ▸ hbu)⟩ (by (try dsimp only); omega))))))))))))))))))))))))))))
 ·exact c_exit (q_thenE (q_thenE (q_blockE (q_end rfl (fin ⟨_, rfl, hst, hin, hso.sub (Nat.le_refl _) (by omega)⟩ H)))))
set_option maxHeartbeats 1000000 in
theorem symMerge_step (N : Nat) (ih : ∀ (v : Value) (xs : List Pair) (a m b : Nat), b - a < N → a < m → m < b → b ≤ xs.length → xs.length ≤ 1000000 → SrtI xs a m → SrtI xs m b → Cn Tryz.prog 79 [v, .int .i64 ((a : Nat) : Int), .int .i64 ((m : Nat) : Int), .int .i64 ((b : Nat) : Int), .func (.func 38) #[] #[]] [osl kPair v xs] [] (fun _ Bs => ∃ ys, Bs = [osl kPair v ys] ∧ Sorts xs ys a b)) (v : Value) (xs : List Pair) (a : Nat) (m : Nat) (b : Nat) (hN : b - a < N + 1) (h1 : a < m) (h2 : m < b) (h3 : b ≤ xs.length) (hb : xs.length ≤ 1000000) (hs1 : SrtI xs a m) (hs2 : SrtI xs m b) :
    Cn Tryz.prog 79 [v, .int .i64 ((a : Nat) : Int), .int .i64 ((m : Nat) : Int), .int .i64 ((b : Nat) : Int), .func (.func 38) #[] #[]] [osl kPair v xs] [] (fun _ Bs => ∃ ys, Bs = [osl kPair v ys] ∧ Sorts xs ys a b) := by
 intro w0 F0 H
 obtain ⟨A1, c2, rfl, hc3, hm4, hp5⟩ := H.fA 0 rfl
 refine enter (args := [.slice A1 xs.length c2, .int .i64 ((a : Nat) : Int), .int .i64 ((m : Nat) : Int), .int .i64 ((b : Nat) : Int), .func (.func 38) #[] #[]]) Tryz.func79 rfl rfl (Nat.le_of_ble_eq_true rfl) (c_seq (c_seq (c_reg (s_k 2 rfl (s_val rfl rfl (r_sub (z := ((m - a : Nat) : Int)) rfl rfl rfl (by rw [w64 (by omega) (by omega)]; omega)) (s_val rfl rfl (r_eq rfl rfl rfl) (s_nil (q_then ?_))))))))
 replace H : Hd _ _ _ [osl kPair (.slice A1 xs.length c2) xs] [] := H
 refine c_dec (p := ((m - a : Nat) : Int) = 1) rfl (fun h6 => ?_) (fun h6 => ?_)
 ·refine c_seq ?_
  have hm : m = a + 1 := by omega
  obtain ⟨x0, hx0⟩ : ∃ z9, xs[a]? = some z9 := ⟨_, List.getElem?_eq_getElem (show a < xs.length by omega)⟩
  refine c_reg (s_k 2 rfl (s_nil (q_then (c_seq (c_reg (s_k 2 rfl (s_nil (q_then (c_seq (c_block (c_loop (σ := Nat × Nat) (fun (i, j) => [(0, .slice A1 xs.length c2), (1, .int .i64 ((a : Nat) : Int)), (2, .int .i64 ((m : Nat) : Int)), (3, .int .i64 ((b : Nat) : Int)), (4, .func (.func 38) #[] #[]), (10, .int .i64 ((i : Nat) : Int)), (11, .int .i64 ((j : Nat) : Int))]) (fun (i, j) w => (Hd w0 F0 w [osl kPair (.slice A1 xs.length c2) xs] []) ∧ (m ≤ i ∧ i ≤ j ∧ j ≤ b) ∧ (i = m ∨ ∃ u, xs[i - 1]? = some u ∧ ltS u.key x0.key = true) ∧ (j = b ∨ ∃ u, xs[j]? = some u ∧ ltS u.key x0.key = false)) (fun (i, j) => j - i) (m, b) ⟨rfl, rfl, rfl, rfl, rfl, rfl, rfl, trivial⟩ ⟨H, by (try dsimp only); omega, .inl rfl, .inl rfl⟩ ?_)))))))))))
  rintro ⟨i, j⟩ w ⟨H, hij, hlow, hup⟩
  refine c_seq (c_seq (c_reg (s_k 2 rfl (s_val rfl rfl (r_lt rfl rfl rfl) (s_nil (q_then ?_))))))
  refine c_dec (p := ((i : Nat) : Int) < ((j : Nat) : Int)) rfl (fun h7 => ?_) (fun h7 => ?_)
  ·refine c_skip (q_then (c_block (c_seq (c_reg (s_k 2 rfl (s_val rfl rfl (r_add (z := ((i + j : Nat) : Int)) rfl rfl rfl (by rw [w64 (by omega) (by omega)]; omega)) (s_val rfl rfl (r_i2i (z := ((i + j : Nat) : Int)) rfl rfl un3 un72 (wu64 (by omega) (by omega))) (s_val rfl rfl (r_shr (z := (((i + j) / 2 : Nat) : Int)) rfl rfl rfl (by omega) (half_u64 _)) (s_val rfl rfl (r_i2i (z := (((i + j) / 2 : Nat) : Int)) rfl rfl un72 un3 (w64 (by omega) (by omega))) (s_1 rfl (s_nil (q_then (c_seq (c_ord (.e 0 (.e 1 (.e 2 (.e 3 (.e 4 (.e 5 (.e 6 (.e 7 (.e 8 (.m 9 (.e 10 .z))))))))))) (fun w => ∃ Ar, Hd w0 F0 w (osl kPair (.slice A1 xs.length c2) xs :: Ar) []) mo (by kernel_rfl) (fun w H => ⟨_, H⟩) H (fun w H => (d_1 rfl (d_1 rfl (d_1 rfl ?_))))))))))))))))))
   obtain ⟨x8, hx9⟩ : ∃ z9, xs[(i + j) / 2]? = some z9 := ⟨_, List.getElem?_eq_getElem (show (i + j) / 2 < xs.length by omega)⟩
   have th10 := H.thA 0 rfl hx9
   refine d_val rfl rfl rfl (fun w ⟨Ar, H⟩ => r_iaE (p := oOf A1 + ((i + j) / 2) * 2) rfl sl23 rfl rfl (by omega) (by omega) th10 rfl) (d_val rfl rfl rfl (fun w ⟨Ar, H⟩ => r_ldA (cs := [.string x8.key, .string x8.val]) rfl ty56 rfl rfl (H.elsA 0 rfl hx9 rfl)) (d_1 rfl (d_1 rfl ?_)))
   obtain ⟨x11, hx12⟩ : ∃ z9, xs[a]? = some z9 := ⟨_, List.getElem?_eq_getElem (show a < xs.length by omega)⟩
   have th13 := H.thA 0 rfl hx12
   refine d_val rfl rfl rfl (fun w ⟨Ar, H⟩ => r_iaE (p := oOf A1 + a * 2) rfl sl23 rfl rfl (by omega) (by omega) th13 rfl) (d_val rfl rfl rfl (fun w ⟨Ar, H⟩ => r_ldA (cs := [.string x11.key, .string x11.val]) rfl ty56 rfl rfl (H.elsA 0 rfl hx12 rfl)) (d_main rfl (sc (order_ok x8 x11) H l0 rfl rfl (e_val (vs := [.agg #[.string x8.key, .string x8.val], .agg #[.string x11.key, .string x11.val]]) (fs := #[]) (cs := #[]) kn38 rfl rfl rfl) ?_)))
   rintro _ _ w ⟨rfl, rfl⟩ H
   refine d_back ⟨_, H⟩ (d_val rfl rfl rfl (fun w ⟨Ar, H⟩ => r_lt rfl rfl rfl) (d_nil (q_then ?_)))
   refine c_dec (p := (cmpK x8.key x11.key) < 0) rfl (fun h14 => ?_) (fun h14 => ?_)
   ·obtain rfl : x11 = x0 := Option.some.inj (hx12.symm.trans hx0)
    exact c_reg (s_1 rfl (s_val rfl rfl (r_add (z := (((i + j) / 2 + 1 : Nat) : Int)) rfl rfl rfl (by rw [w64 (by omega) (by omega)]; omega)) (s_1 rfl (s_nil (q_blockN (q_round (s := (i, j)) ((i + j) / 2 + 1, j) ⟨rfl, rfl, rfl, rfl, rfl, rfl, rfl, trivial⟩ ⟨H, by (try dsimp only); omega, .inr ⟨x8, by rw [Nat.add_sub_cancel]; exact hx9, cmpK_neg.1 h14⟩, hup⟩ (by (try dsimp only); omega)))))))
   ·obtain rfl : x11 = x0 := Option.some.inj (hx12.symm.trans hx0)
    exact c_reg (s_k 2 rfl (s_nil (q_blockN (q_round (s := (i, j)) (i, (i + j) / 2) ⟨rfl, rfl, rfl, rfl, rfl, rfl, rfl, trivial⟩ ⟨H, by (try dsimp only); omega, hlow, .inr ⟨x8, hx9, cmpK_nneg h14⟩⟩ (by (try dsimp only); omega)))))
  ·refine c_exit (q_thenE (q_thenE (q_blockE (q_then (c_seq (c_seq (c_reg (s_k 2 rfl (s_nil (q_then (c_block (c_loop (σ := Nat × List Pair) (fun (k, ys) => [(0, .slice A1 xs.length c2), (1, .int .i64 ((a : Nat) : Int)), (2, .int .i64 ((m : Nat) : Int)), (3, .int .i64 ((b : Nat) : Int)), (4, .func (.func 38) #[] #[]), (10, .int .i64 ((i : Nat) : Int)), (13, .int .i64 ((k : Nat) : Int))]) (fun (k, ys) w => (Hd w0 F0 w [osl kPair (.slice A1 xs.length c2) ys] []) ∧ (a ≤ k ∧ k + 1 ≤ i) ∧ (Via xs ys (rotI a m (k + 1)))) (fun (k, ys) => i - k) (a, xs) ⟨rfl, rfl, rfl, rfl, rfl, rfl, rfl, trivial⟩ ⟨H, by (try dsimp only); omega, by rw [hm]; exact via_one xs a⟩ ?_))))))))))))
   rintro ⟨k, ys⟩ w ⟨H, hk, hv⟩
   have hl := hv.1
   refine c_seq (c_seq (c_reg (s_k 2 rfl (s_val rfl rfl (r_sub (z := ((i - 1 : Nat) : Int)) rfl rfl rfl (by rw [w64 (by omega) (by omega)]; omega)) (s_val rfl rfl (r_lt rfl rfl rfl) (s_nil (q_then ?_)))))))
   refine c_dec (p := ((k : Nat) : Int) < ((i - 1 : Nat) : Int)) rfl (fun h15 => ?_) (fun h15 => ?_)
   ·refine c_skip (q_then (c_seq (c_block (c_ord (.e 0 (.e 1 (.e 2 (.e 3 (.e 4 (.e 5 (.e 6 (.e 7 (.e 8 (.e 10 (.e 11 (.e 12 (.p 9 13 (.e 14 (.m 15 (.e 16 (.m 17 .z))))))))))))))))) (fun w => ∃ Ar, Hd w0 F0 w (Ar) []) mo (by kernel_rfl) (fun w H => ⟨_, H⟩) H (fun w H => (d_1 rfl (d_1 rfl (d_1 rfl (d_1 rfl (d_val rfl rfl rfl (fun w ⟨Ar, H⟩ => r_add (z := ((k + 1 : Nat) : Int)) rfl rfl rfl (by rw [w64 (by omega) (by omega)]; omega)) (d_1 rfl (d_1 rfl (d_val rfl rfl rfl (fun w ⟨Ar, H⟩ => r_add (z := ((k + 1 : Nat) : Int)) rfl rfl rfl (by rw [w64 (by omega) (by omega)]; omega)) ?_)))))))))))))
    obtain ⟨x16, hx17⟩ : ∃ z9, ys[k + 1]? = some z9 := ⟨_, List.getElem?_eq_getElem (show k + 1 < ys.length by omega)⟩
    have th18 := H.thA 0 rfl hx17
    refine d_val rfl rfl rfl (fun w ⟨Ar, H⟩ => r_iaE (p := oOf A1 + (k + 1) * 2) rfl sl23 rfl rfl (by omega) (by omega) th18 rfl) (d_1 rfl (d_1 rfl ?_))
    obtain ⟨x19, hx20⟩ : ∃ z9, ys[k]? = some z9 := ⟨_, List.getElem?_eq_getElem (show k < ys.length by omega)⟩
    have th21 := H.thA 0 rfl hx20
    refine d_val rfl rfl rfl (fun w ⟨Ar, H⟩ => r_iaE (p := oOf A1 + k * 2) rfl sl23 rfl rfl (by omega) (by omega) th21 rfl) (d_pair rfl rfl rfl rfl rfl rfl rfl rfl (by decide) (r_ldA (cs := [.string x16.key, .string x16.val]) rfl ty56 rfl rfl (H.elsA 0 rfl hx17 rfl)) (r_ldA (cs := [.string x19.key, .string x19.val]) rfl ty56 rfl rfl (H.elsA 0 rfl hx20 rfl)) ?_)
    have th22 := H.thA 0 rfl hx20
    refine d_val rfl rfl rfl (fun w ⟨Ar, H⟩ => r_iaE (p := oOf A1 + k * 2) rfl sl23 rfl rfl (by omega) (by omega) th22 rfl) (d_main rfl (s_stO (i := k) (a := x16) rfl rfl rfl ty56 rfl rfl rfl H (by omega) rfl (fun w H => ?_)))
    replace H := H.h1 (A := osl kPair (.slice A1 xs.length c2) (ys.set k x16))
    refine d_back ⟨_, H⟩ ?_
    obtain ⟨x23, hx24⟩ : ∃ z9, (ys.set k x16)[k + 1]? = some z9 := ⟨_, List.getElem?_eq_getElem (show k + 1 < (ys.set k x16).length by simp only [List.length_set]; omega)⟩
    have th25 := H.thA 0 rfl hx24
    refine d_val rfl rfl rfl (fun w ⟨Ar, H⟩ => r_iaE (p := oOf A1 + (k + 1) * 2) rfl sl23 rfl rfl (by omega) (by omega) th25 rfl) (d_main rfl (s_stO (i := k + 1) (a := x19) rfl rfl rfl ty56 rfl rfl rfl H (by simp only [List.length_set]; omega) rfl (fun w H => ?_)))
    replace H := H.h1 (A := osl kPair (.slice A1 xs.length c2) ((ys.set k x16).set (k + 1) x19))
    exact d_back ⟨_, H⟩ (d_nil (q_blockN (q_then (c_reg (s_1 rfl (s_val rfl rfl (r_add (z := ((k + 1 : Nat) : Int)) rfl rfl rfl (by rw [w64 (by omega) (by omega)]; omega)) (s_1 rfl (s_nil (q_round (s := (k, ys)) (k + 1, (ys.set k x16).set (k + 1) x19) ⟨rfl, rfl, rfl, rfl, rfl, rfl, rfl, trivial⟩ ⟨H, by (try dsimp only); omega, via_up' hm (by omega) hv hx20 hx17⟩ (by (try dsimp only); omega))))))))))
   ·refine c_exit (q_thenE (q_thenE (q_blockE (q_then (c_ret (q_thenR (q_ret0 rfl ?_)))))))
    obtain rfl : j = i := by omega
    obtain rfl : j = k + 1 := by omega
    exact fin ⟨_, rfl, merge_left' hm hv (by omega) (by omega) (by omega) hs2 hx0 hlow hup⟩ H
 ·refine c_skip (q_then (c_seq (c_seq (c_reg (s_k 2 rfl (s_val rfl rfl (r_sub (z := ((b - m : Nat) : Int)) rfl rfl rfl (by rw [w64 (by omega) (by omega)]; omega)) (s_val rfl rfl (r_eq rfl rfl rfl) (s_nil (q_then ?_)))))))))
  refine c_dec (p := ((b - m : Nat) : Int) = 1) rfl (fun h26 => ?_) (fun h26 => ?_)
  ·refine c_seq ?_
   have hm : b = m + 1 := by omega
   obtain ⟨x0, hx0⟩ : ∃ z9, xs[m]? = some z9 := ⟨_, List.getElem?_eq_getElem (show m < xs.length by omega)⟩
   refine c_reg (s_k 2 rfl (s_nil (q_then (c_seq (c_reg (s_k 2 rfl (s_nil (q_then (c_seq (c_block (c_loop (σ := Nat × Nat) (fun (i, j) => [(0, .slice A1 xs.length c2), (1, .int .i64 ((a : Nat) : Int)), (2, .int .i64 ((m : Nat) : Int)), (3, .int .i64 ((b : Nat) : Int)), (4, .func (.func 38) #[] #[]), (14, .int .i64 ((i : Nat) : Int)), (15, .int .i64 ((j : Nat) : Int))]) (fun (i, j) w => (Hd w0 F0 w [osl kPair (.slice A1 xs.length c2) xs] []) ∧ (a ≤ i ∧ i ≤ j ∧ j ≤ m) ∧ (i = a ∨ ∃ u, xs[i - 1]? = some u ∧ ltS x0.key u.key = false) ∧ (j = m ∨ ∃ u, xs[j]? = some u ∧ ltS x0.key u.key = true)) (fun (i, j) => j - i) (a, m) ⟨rfl, rfl, rfl, rfl, rfl, rfl, rfl, trivial⟩ ⟨H, by (try dsimp only); omega, .inl rfl, .inl rfl⟩ ?_)))))))))))
   rintro ⟨i, j⟩ w ⟨H, hij, hlow, hup⟩
   refine c_seq (c_seq (c_reg (s_k 2 rfl (s_val rfl rfl (r_lt rfl rfl rfl) (s_nil (q_then ?_))))))
   refine c_dec (p := ((i : Nat) : Int) < ((j : Nat) : Int)) rfl (fun h27 => ?_) (fun h27 => ?_)
   ·refine c_skip (q_then (c_block (c_seq (c_reg (s_k 2 rfl (s_val rfl rfl (r_add (z := ((i + j : Nat) : Int)) rfl rfl rfl (by rw [w64 (by omega) (by omega)]; omega)) (s_val rfl rfl (r_i2i (z := ((i + j : Nat) : Int)) rfl rfl un3 un72 (wu64 (by omega) (by omega))) (s_val rfl rfl (r_shr (z := (((i + j) / 2 : Nat) : Int)) rfl rfl rfl (by omega) (half_u64 _)) (s_val rfl rfl (r_i2i (z := (((i + j) / 2 : Nat) : Int)) rfl rfl un72 un3 (w64 (by omega) (by omega))) (s_1 rfl (s_nil (q_then (c_seq (c_ord (.e 0 (.e 1 (.e 2 (.e 3 (.e 4 (.e 5 (.e 6 (.e 7 (.e 8 (.m 9 (.e 10 (.e 11 .z)))))))))))) (fun w => ∃ Ar, Hd w0 F0 w (osl kPair (.slice A1 xs.length c2) xs :: Ar) []) mo (by kernel_rfl) (fun w H => ⟨_, H⟩) H (fun w H => (d_1 rfl (d_1 rfl (d_1 rfl ?_))))))))))))))))))
    obtain ⟨x28, hx29⟩ : ∃ z9, xs[m]? = some z9 := ⟨_, List.getElem?_eq_getElem (show m < xs.length by omega)⟩
    have th30 := H.thA 0 rfl hx29
    refine d_val rfl rfl rfl (fun w ⟨Ar, H⟩ => r_iaE (p := oOf A1 + m * 2) rfl sl23 rfl rfl (by omega) (by omega) th30 rfl) (d_val rfl rfl rfl (fun w ⟨Ar, H⟩ => r_ldA (cs := [.string x28.key, .string x28.val]) rfl ty56 rfl rfl (H.elsA 0 rfl hx29 rfl)) (d_1 rfl (d_1 rfl ?_)))
    obtain ⟨x31, hx32⟩ : ∃ z9, xs[(i + j) / 2]? = some z9 := ⟨_, List.getElem?_eq_getElem (show (i + j) / 2 < xs.length by omega)⟩
    have th33 := H.thA 0 rfl hx32
    refine d_val rfl rfl rfl (fun w ⟨Ar, H⟩ => r_iaE (p := oOf A1 + ((i + j) / 2) * 2) rfl sl23 rfl rfl (by omega) (by omega) th33 rfl) (d_val rfl rfl rfl (fun w ⟨Ar, H⟩ => r_ldA (cs := [.string x31.key, .string x31.val]) rfl ty56 rfl rfl (H.elsA 0 rfl hx32 rfl)) (d_main rfl (sc (order_ok x28 x31) H l0 rfl rfl (e_val (vs := [.agg #[.string x28.key, .string x28.val], .agg #[.string x31.key, .string x31.val]]) (fs := #[]) (cs := #[]) kn38 rfl rfl rfl) ?_)))
    rintro _ _ w ⟨rfl, rfl⟩ H
    refine d_back ⟨_, H⟩ (d_val rfl rfl rfl (fun w ⟨Ar, H⟩ => r_lt rfl rfl rfl) (d_val rfl rfl rfl (fun w ⟨Ar, H⟩ => r_notP rfl rfl) (d_nil (q_then ?_))))
    refine c_dec (p := ¬ ((cmpK x28.key x31.key) < 0)) rfl (fun h34 => ?_) (fun h34 => ?_)
    ·obtain rfl : x28 = x0 := Option.some.inj (hx29.symm.trans hx0)
     exact c_reg (s_1 rfl (s_val rfl rfl (r_add (z := (((i + j) / 2 + 1 : Nat) : Int)) rfl rfl rfl (by rw [w64 (by omega) (by omega)]; omega)) (s_1 rfl (s_nil (q_blockN (q_round (s := (i, j)) ((i + j) / 2 + 1, j) ⟨rfl, rfl, rfl, rfl, rfl, rfl, rfl, trivial⟩ ⟨H, by (try dsimp only); omega, .inr ⟨x31, by rw [Nat.add_sub_cancel]; exact hx32, cmpK_nneg h34⟩, hup⟩ (by (try dsimp only); omega)))))))
    ·obtain rfl : x28 = x0 := Option.some.inj (hx29.symm.trans hx0)
     exact c_reg (s_k 2 rfl (s_nil (q_blockN (q_round (s := (i, j)) (i, (i + j) / 2) ⟨rfl, rfl, rfl, rfl, rfl, rfl, rfl, trivial⟩ ⟨H, by (try dsimp only); omega, hlow, .inr ⟨x31, hx32, cmpK_neg.1 (Classical.not_not.1 h34)⟩⟩ (by (try dsimp only); omega)))))
   ·refine c_exit (q_thenE (q_thenE (q_blockE (q_then (c_seq (c_seq (c_reg (s_k 2 rfl (s_nil (q_then (c_block (c_loop (σ := Nat × List Pair) (fun (k, ys) => [(0, .slice A1 xs.length c2), (1, .int .i64 ((a : Nat) : Int)), (2, .int .i64 ((m : Nat) : Int)), (3, .int .i64 ((b : Nat) : Int)), (4, .func (.func 38) #[] #[]), (14, .int .i64 ((i : Nat) : Int)), (17, .int .i64 ((k : Nat) : Int))]) (fun (k, ys) w => (Hd w0 F0 w [osl kPair (.slice A1 xs.length c2) ys] []) ∧ (i ≤ k ∧ k ≤ m) ∧ (Via xs ys (rotI k m b))) (fun (k, ys) => k) (m, xs) ⟨rfl, rfl, rfl, rfl, rfl, rfl, rfl, trivial⟩ ⟨H, by (try dsimp only); omega, by rw [hm]; exact via_one' xs m⟩ ?_))))))))))))
    rintro ⟨k, ys⟩ w ⟨H, hk, hv⟩
    have hl := hv.1
    refine c_seq (c_seq (c_reg (s_k 2 rfl (s_val rfl rfl (r_gt rfl rfl rfl) (s_nil (q_then ?_))))))
    refine c_dec (p := ((i : Nat) : Int) < ((k : Nat) : Int)) rfl (fun h35 => ?_) (fun h35 => ?_)
    ·refine c_skip (q_then (c_seq (c_block (c_ord (.e 0 (.e 1 (.e 2 (.e 3 (.e 4 (.e 5 (.e 6 (.e 7 (.e 8 (.e 10 (.e 11 (.e 12 (.p 9 13 (.e 14 (.m 15 (.e 16 (.m 17 .z))))))))))))))))) (fun w => ∃ Ar, Hd w0 F0 w (Ar) []) mo (by kernel_rfl) (fun w H => ⟨_, H⟩) H (fun w H => (d_1 rfl (d_1 rfl (d_1 rfl (d_1 rfl (d_val rfl rfl rfl (fun w ⟨Ar, H⟩ => r_sub (z := ((k - 1 : Nat) : Int)) rfl rfl rfl (by rw [w64 (by omega) (by omega)]; omega)) (d_1 rfl (d_1 rfl (d_val rfl rfl rfl (fun w ⟨Ar, H⟩ => r_sub (z := ((k - 1 : Nat) : Int)) rfl rfl rfl (by rw [w64 (by omega) (by omega)]; omega)) ?_)))))))))))))
     obtain ⟨x36, hx37⟩ : ∃ z9, ys[k - 1]? = some z9 := ⟨_, List.getElem?_eq_getElem (show k - 1 < ys.length by omega)⟩
     have th38 := H.thA 0 rfl hx37
     refine d_val rfl rfl rfl (fun w ⟨Ar, H⟩ => r_iaE (p := oOf A1 + (k - 1) * 2) rfl sl23 rfl rfl (by omega) (by omega) th38 rfl) (d_1 rfl (d_1 rfl ?_))
     obtain ⟨x39, hx40⟩ : ∃ z9, ys[k]? = some z9 := ⟨_, List.getElem?_eq_getElem (show k < ys.length by omega)⟩
     have th41 := H.thA 0 rfl hx40
     refine d_val rfl rfl rfl (fun w ⟨Ar, H⟩ => r_iaE (p := oOf A1 + k * 2) rfl sl23 rfl rfl (by omega) (by omega) th41 rfl) (d_pair rfl rfl rfl rfl rfl rfl rfl rfl (by decide) (r_ldA (cs := [.string x36.key, .string x36.val]) rfl ty56 rfl rfl (H.elsA 0 rfl hx37 rfl)) (r_ldA (cs := [.string x39.key, .string x39.val]) rfl ty56 rfl rfl (H.elsA 0 rfl hx40 rfl)) ?_)
     have th42 := H.thA 0 rfl hx40
     refine d_val rfl rfl rfl (fun w ⟨Ar, H⟩ => r_iaE (p := oOf A1 + k * 2) rfl sl23 rfl rfl (by omega) (by omega) th42 rfl) (d_main rfl (s_stO (i := k) (a := x36) rfl rfl rfl ty56 rfl rfl rfl H (by omega) rfl (fun w H => ?_)))
     replace H := H.h1 (A := osl kPair (.slice A1 xs.length c2) (ys.set k x36))
     refine d_back ⟨_, H⟩ ?_
     obtain ⟨x43, hx44⟩ : ∃ z9, (ys.set k x36)[k - 1]? = some z9 := ⟨_, List.getElem?_eq_getElem (show k - 1 < (ys.set k x36).length by simp only [List.length_set]; omega)⟩
     have th45 := H.thA 0 rfl hx44
     refine d_val rfl rfl rfl (fun w ⟨Ar, H⟩ => r_iaE (p := oOf A1 + (k - 1) * 2) rfl sl23 rfl rfl (by omega) (by omega) th45 rfl) (d_main rfl (s_stO (i := k - 1) (a := x39) rfl rfl rfl ty56 rfl rfl rfl H (by simp only [List.length_set]; omega) rfl (fun w H => ?_)))
     replace H := H.h1 (A := osl kPair (.slice A1 xs.length c2) ((ys.set k x36).set (k - 1) x39))
     exact d_back ⟨_, H⟩ (d_nil (q_blockN (q_then (c_reg (s_1 rfl (s_val rfl rfl (r_sub (z := ((k - 1 : Nat) : Int)) rfl rfl rfl (by rw [w64 (by omega) (by omega)]; omega)) (s_1 rfl (s_nil (q_round (s := (k, ys)) (k - 1, (ys.set k x36).set (k - 1) x39) ⟨rfl, rfl, rfl, rfl, rfl, rfl, rfl, trivial⟩ ⟨H, by (try dsimp only); omega, via_down' hm (by omega) (by omega) hv hx40 hx37⟩ (by (try dsimp only); omega))))))))))
    ·refine c_exit (q_thenE (q_thenE (q_blockE (q_then (c_ret (q_thenR (q_ret0 rfl ?_)))))))
     obtain rfl : j = i := by omega
     obtain rfl : j = k := by omega
     exact fin ⟨_, rfl, merge_right' hm hv (by omega) (by omega) (by omega) hs1 hx0 hlow hup⟩ H
  ·refine c_skip (q_then (c_seq (c_reg (s_k 2 rfl (s_val rfl rfl (r_add (z := ((a + b : Nat) : Int)) rfl rfl rfl (by rw [w64 (by omega) (by omega)]; omega)) (s_val rfl rfl (r_i2i (z := ((a + b : Nat) : Int)) rfl rfl un3 un72 (wu64 (by omega) (by omega))) (s_val rfl rfl (r_shr (z := (((a + b) / 2 : Nat) : Int)) rfl rfl rfl (by omega) (half_u64 _)) (s_val rfl rfl (r_i2i (z := (((a + b) / 2 : Nat) : Int)) rfl rfl un72 un3 (w64 (by omega) (by omega))) (s_1 rfl (s_nil (q_then (c_seq ?_))))))))))))
   generalize hmd : (a + b) / 2 = md
   refine c_reg (s_k 2 rfl (s_val rfl rfl (r_add (z := ((md + m : Nat) : Int)) rfl rfl rfl (by rw [w64 (by omega) (by omega)]; omega)) (s_1 rfl (s_nil (q_then (c_seq (c_reg (s_k 2 rfl (s_nil (q_then (c_seq (c_seq (c_reg (s_k 2 rfl (s_val rfl rfl (r_gt rfl rfl rfl) (s_nil (q_then ?_)))))))))))))))))
   refine c_dec (p := ((md : Nat) : Int) < ((m : Nat) : Int)) rfl (fun h46 => ?_) (fun h46 => ?_)
   ·refine c_seq (c_reg (s_k 2 rfl (s_val rfl rfl (r_sub (z := ((md + m - b : Nat) : Int)) rfl rfl rfl (by rw [w64 (by omega) (by omega)]; omega)) (s_1 rfl (s_nil (q_then (c_reg (s_k 2 rfl (s_nil (q_then (c_seq (c_reg (s_1 rfl (s_val rfl rfl (r_sub (z := ((md + m - 1 : Nat) : Int)) rfl rfl rfl (by rw [w64 (by omega) (by omega)]; omega)) (s_1 rfl (s_nil (q_then (c_seq (c_block (c_loop (σ := Nat × Nat) (fun (i, j) => [(0, .slice A1 xs.length c2), (1, .int .i64 ((a : Nat) : Int)), (2, .int .i64 ((m : Nat) : Int)), (3, .int .i64 ((b : Nat) : Int)), (4, .func (.func 38) #[] #[]), (18, .int .i64 ((md : Nat) : Int)), (19, .int .i64 ((md + m : Nat) : Int)), (20, .int .i64 ((i : Nat) : Int)), (21, .int .i64 ((j : Nat) : Int)), (22, .int .i64 ((md + m - 1 : Nat) : Int))]) (fun (i, j) w => (Hd w0 F0 w [osl kPair (.slice A1 xs.length c2) xs] []) ∧ (md + m - b ≤ i ∧ i ≤ j ∧ j ≤ md) ∧ (i = md + m - b ∨ ∃ u v, xs[i - 1]? = some u ∧ xs[md + m - i]? = some v ∧ ltS v.key u.key = false) ∧ (j = md ∨ ∃ u v, xs[md + m - j - 1]? = some u ∧ xs[j]? = some v ∧ ltS u.key v.key = true)) (fun (i, j) => j - i) (md + m - b, md) ⟨rfl, rfl, rfl, rfl, rfl, rfl, rfl, rfl, rfl, rfl, trivial⟩ ⟨H, by (try dsimp only); omega, .inl rfl, .inl rfl⟩ ?_))))))))))))))))))))
    rintro ⟨i, j⟩ w ⟨H, hij, hlow, hup⟩
    refine c_seq (c_seq (c_reg (s_k 2 rfl (s_val rfl rfl (r_lt rfl rfl rfl) (s_nil (q_then ?_))))))
    refine c_dec (p := ((i : Nat) : Int) < ((j : Nat) : Int)) rfl (fun h47 => ?_) (fun h47 => ?_)
    ·refine c_skip (q_then (c_block (c_seq (c_reg (s_k 2 rfl (s_val rfl rfl (r_add (z := ((i + j : Nat) : Int)) rfl rfl rfl (by rw [w64 (by omega) (by omega)]; omega)) (s_val rfl rfl (r_i2i (z := ((i + j : Nat) : Int)) rfl rfl un3 un72 (wu64 (by omega) (by omega))) (s_val rfl rfl (r_shr (z := (((i + j) / 2 : Nat) : Int)) rfl rfl rfl (by omega) (half_u64 _)) (s_val rfl rfl (r_i2i (z := (((i + j) / 2 : Nat) : Int)) rfl rfl un72 un3 (w64 (by omega) (by omega))) (s_1 rfl (s_nil (q_then (c_seq (c_ord (.e 0 (.e 1 (.e 2 (.e 3 (.e 4 (.e 5 (.e 6 (.e 7 (.e 8 (.e 9 (.e 10 (.m 11 (.e 12 (.e 13 .z)))))))))))))) (fun w => ∃ Ar, Hd w0 F0 w (osl kPair (.slice A1 xs.length c2) xs :: Ar) []) mo (by kernel_rfl) (fun w H => ⟨_, H⟩) H (fun w H => (d_1 rfl (d_1 rfl (d_1 rfl (d_1 rfl (d_val rfl rfl rfl (fun w ⟨Ar, H⟩ => r_sub (z := ((md + m - 1 - ((i + j) / 2) : Nat) : Int)) rfl rfl rfl (by rw [w64 (by omega) (by omega)]; omega)) ?_))))))))))))))))))))
     obtain ⟨x48, hx49⟩ : ∃ z9, xs[md + m - 1 - ((i + j) / 2)]? = some z9 := ⟨_, List.getElem?_eq_getElem (show md + m - 1 - ((i + j) / 2) < xs.length by omega)⟩
     have th50 := H.thA 0 rfl hx49
     refine d_val rfl rfl rfl (fun w ⟨Ar, H⟩ => r_iaE (p := oOf A1 + (md + m - 1 - ((i + j) / 2)) * 2) rfl sl23 rfl rfl (by omega) (by omega) th50 rfl) (d_val rfl rfl rfl (fun w ⟨Ar, H⟩ => r_ldA (cs := [.string x48.key, .string x48.val]) rfl ty56 rfl rfl (H.elsA 0 rfl hx49 rfl)) (d_1 rfl (d_1 rfl ?_)))
     obtain ⟨x51, hx52⟩ : ∃ z9, xs[(i + j) / 2]? = some z9 := ⟨_, List.getElem?_eq_getElem (show (i + j) / 2 < xs.length by omega)⟩
     have th53 := H.thA 0 rfl hx52
     refine d_val rfl rfl rfl (fun w ⟨Ar, H⟩ => r_iaE (p := oOf A1 + ((i + j) / 2) * 2) rfl sl23 rfl rfl (by omega) (by omega) th53 rfl) (d_val rfl rfl rfl (fun w ⟨Ar, H⟩ => r_ldA (cs := [.string x51.key, .string x51.val]) rfl ty56 rfl rfl (H.elsA 0 rfl hx52 rfl)) (d_main rfl (sc (order_ok x48 x51) H l0 rfl rfl (e_val (vs := [.agg #[.string x48.key, .string x48.val], .agg #[.string x51.key, .string x51.val]]) (fs := #[]) (cs := #[]) kn38 rfl rfl rfl) ?_)))
     rintro _ _ w ⟨rfl, rfl⟩ H
     refine d_back ⟨_, H⟩ (d_val rfl rfl rfl (fun w ⟨Ar, H⟩ => r_lt rfl rfl rfl) (d_val rfl rfl rfl (fun w ⟨Ar, H⟩ => r_notP rfl rfl) (d_nil (q_then ?_))))
     refine c_dec (p := ¬ ((cmpK x48.key x51.key) < 0)) rfl (fun h54 => ?_) (fun h54 => ?_)
     ·exact c_reg (s_1 rfl (s_val rfl rfl (r_add (z := (((i + j) / 2 + 1 : Nat) : Int)) rfl rfl rfl (by rw [w64 (by omega) (by omega)]; omega)) (s_1 rfl (s_nil (q_blockN (q_round (s := (i, j)) ((i + j) / 2 + 1, j) ⟨rfl, rfl, rfl, rfl, rfl, rfl, rfl, rfl, rfl, rfl, trivial⟩ ⟨H, by (try dsimp only); omega, .inr ⟨x51, x48, by rw [Nat.add_sub_cancel]; exact hx52, by rw [show md + m - ((i + j) / 2 + 1) = md + m - 1 - (i + j) / 2 by omega]; exact hx49, cmpK_nneg h54⟩, hup⟩ (by (try dsimp only); omega)))))))
     ·exact c_reg (s_k 2 rfl (s_nil (q_blockN (q_round (s := (i, j)) (i, (i + j) / 2) ⟨rfl, rfl, rfl, rfl, rfl, rfl, rfl, rfl, rfl, rfl, trivial⟩ ⟨H, by (try dsimp only); omega, hlow, .inr ⟨x48, x51, by rw [show md + m - (i + j) / 2 - 1 = md + m - 1 - (i + j) / 2 by omega]; exact hx49, hx52, cmpK_neg.1 (Classical.not_not.1 h54)⟩⟩ (by (try dsimp only); omega)))))
    ·refine c_exit (q_thenE (q_thenE (q_blockE (q_then (c_seq ?_)))))
     obtain rfl : j = i := by omega
     have hlow2 : j = a ∨ md + m - j = b ∨ ∃ u v, xs[j - 1]? = some u ∧ xs[md + m - j]? = some v ∧ ltS v.key u.key = false := hlow.elim (fun h => .inr (.inl (by omega))) (fun h => .inr (.inr h))
     have hup2 : j = m ∨ md + m - j = m ∨ ∃ u v, xs[md + m - j - 1]? = some u ∧ xs[j]? = some v ∧ ltS u.key v.key = true := hup.elim (fun h => .inr (.inl (by omega))) (fun h => .inr (.inr h))
     have hbd : a ≤ j ∧ j ≤ m ∧ m ≤ md + m - j ∧ md + m - j ≤ b ∧ md = j + (md + m - j - m) := by omega
     refine c_reg (s_k 2 rfl (s_val rfl rfl (r_sub (z := ((md + m - j : Nat) : Int)) rfl rfl rfl (by rw [w64 (by omega) (by omega)]; omega)) (s_1 rfl (s_nil (q_then ?_)))))
     refine c_cut (σ := List Pair) (fun ys => [(0, .slice A1 xs.length c2), (1, .int .i64 ((a : Nat) : Int)), (2, .int .i64 ((m : Nat) : Int)), (3, .int .i64 ((b : Nat) : Int)), (4, .func (.func 38) #[] #[]), (18, .int .i64 ((md : Nat) : Int)), (20, .int .i64 ((j : Nat) : Int)), (24, .int .i64 ((md + m - j : Nat) : Int))]) (fun ys w => (Hd w0 F0 w [osl kPair (.slice A1 xs.length c2) ys] []) ∧ (Via xs ys (rotI j m (md + m - j)))) ?_ ?_
     ·refine c_seq (c_reg (s_k 2 rfl (s_val rfl rfl (r_lt rfl rfl rfl) (s_1 rfl ?_))))
      refine s_dec (d := 181) (p := ((j : Nat) : Int) < ((m : Nat) : Int)) rfl (fun h55 => ?_) (fun h55 => ?_)
      ·refine s_k 2 rfl (s_val rfl rfl (r_lt rfl rfl rfl) (s_1 rfl (s_nil (q_then ?_))))
       refine c_dec (p := ((m : Nat) : Int) < ((md + m - j : Nat) : Int)) rfl (fun h56 => ?_) (fun h56 => ?_)
       ·refine c_reg (s_k 5 rfl (sc (rotate_ok (.slice A1 xs.length c2) xs j m (md + m - j) (by omega) (by omega) (by omega) (by omega)) H l0 rfl rfl (e_fn kn90 rfl rfl) ?_))
        rintro _ _ w ⟨ys57, rfl, hv58⟩ H
        exact s_nil (q_cut ys57 ⟨rfl, rfl, rfl, rfl, rfl, rfl, rfl, rfl, trivial⟩ ⟨H, hv58⟩)
       ·exact c_skip (q_cut xs ⟨rfl, rfl, rfl, rfl, rfl, rfl, rfl, rfl, trivial⟩ ⟨H, via_none xs (by omega) (by omega) (by omega)⟩)
      ·exact s_k 4 rfl (s_nil (q_then (c_no rfl (c_skip (q_cut xs ⟨rfl, rfl, rfl, rfl, rfl, rfl, rfl, rfl, trivial⟩ ⟨H, via_none xs (by omega) (by omega) (by omega)⟩)))))
     ·rintro ys w ⟨H, hv⟩
      have hl := hv.1
      have hru := rot_runs hv hbd.1 hbd.2.1 hbd.2.2.1 hbd.2.2.2.1 hbd.2.2.2.2 hs1 hs2
      refine c_cut (σ := List Pair) (fun zs => [(0, .slice A1 xs.length c2), (1, .int .i64 ((a : Nat) : Int)), (2, .int .i64 ((m : Nat) : Int)), (3, .int .i64 ((b : Nat) : Int)), (4, .func (.func 38) #[] #[]), (18, .int .i64 ((md : Nat) : Int)), (20, .int .i64 ((j : Nat) : Int)), (24, .int .i64 ((md + m - j : Nat) : Int))]) (fun zs w => (Hd w0 F0 w [osl kPair (.slice A1 xs.length c2) zs] []) ∧ (Sorts ys zs a md)) ?_ ?_
      ·refine c_seq (c_reg (s_k 2 rfl (s_val rfl rfl (r_lt rfl rfl rfl) (s_1 rfl ?_))))
       refine s_dec (d := 195) (p := ((a : Nat) : Int) < ((j : Nat) : Int)) rfl (fun h59 => ?_) (fun h59 => ?_)
       ·refine s_k 2 rfl (s_val rfl rfl (r_lt rfl rfl rfl) (s_1 rfl (s_nil (q_then ?_))))
        refine c_dec (p := ((j : Nat) : Int) < ((md : Nat) : Int)) rfl (fun h60 => ?_) (fun h60 => ?_)
        ·refine c_reg (s_k 5 rfl (sc (ih (.slice A1 xs.length c2) ys a j md (by omega) (by omega) (by omega) (by omega) (by omega) hru.1 hru.2.1) H l0 rfl rfl (e_fn kn79 rfl rfl) ?_))
         rintro _ _ w ⟨ys61, rfl, hv62⟩ H
         exact s_nil (q_cut ys61 ⟨rfl, rfl, rfl, rfl, rfl, rfl, rfl, rfl, trivial⟩ ⟨H, hv62⟩)
        ·exact c_skip (q_cut ys ⟨rfl, rfl, rfl, rfl, rfl, rfl, rfl, rfl, trivial⟩ ⟨H, Sorts.refl (runs_skip hru.1 hru.2.1 (by omega) hbd.1)⟩)
       ·exact s_k 4 rfl (s_nil (q_then (c_no rfl (c_skip (q_cut ys ⟨rfl, rfl, rfl, rfl, rfl, rfl, rfl, rfl, trivial⟩ ⟨H, Sorts.refl (runs_skip hru.1 hru.2.1 (by omega) hbd.1)⟩)))))
      ·rintro zs w ⟨H, hz⟩
       have hl3 := hz.ins.1
       have hr3 : SrtI zs md (md + m - j) := hru.2.2.1.same (fun t h1 h2 => hz.ins.2.1 t (by omega))
       have hr4 : SrtI zs (md + m - j) b := hru.2.2.2.same (fun t h1 h2 => hz.ins.2.1 t (by omega))
       refine c_seq (c_reg (s_k 2 rfl (s_val rfl rfl (r_lt rfl rfl rfl) (s_1 rfl ?_))))
       refine s_dec (d := 209) (p := ((md : Nat) : Int) < ((md + m - j : Nat) : Int)) rfl (fun h63 => ?_) (fun h63 => ?_)
       ·refine s_k 2 rfl (s_val rfl rfl (r_lt rfl rfl rfl) (s_1 rfl (s_nil (q_then ?_))))
        refine c_dec (p := ((md + m - j : Nat) : Int) < ((b : Nat) : Int)) rfl (fun h64 => ?_) (fun h64 => ?_)
        ·refine c_reg (s_k 5 rfl (sc (ih (.slice A1 xs.length c2) zs md (md + m - j) b (by omega) (by omega) (by omega) (by omega) (by omega) hr3 hr4) H l0 rfl rfl (e_fn kn79 rfl rfl) ?_))
         rintro _ _ w ⟨ys65, rfl, hv66⟩ H
         exact s_nil (q_end rfl (fin ⟨_, rfl, merge_parts hv hbd.1 hbd.2.1 hbd.2.2.1 hbd.2.2.2.1 (by omega) hbd.2.2.2.2 hs1 hs2 hlow2 hup2 hz hv66⟩ H))
        ·exact c_skip (q_end rfl (fin ⟨_, rfl, merge_parts hv hbd.1 hbd.2.1 hbd.2.2.1 hbd.2.2.2.1 (by omega) hbd.2.2.2.2 hs1 hs2 hlow2 hup2 hz (Sorts.refl (runs_skip hr3 hr4 (by omega) (by omega)))⟩ H))
       ·exact s_k 4 rfl (s_nil (q_then (c_no rfl (c_skip (q_end rfl (fin ⟨_, rfl, merge_parts hv hbd.1 hbd.2.1 hbd.2.2.1 hbd.2.2.2.1 (by omega) hbd.2.2.2.2 hs1 hs2 hlow2 hup2 hz (Sorts.refl (runs_skip hr3 hr4 (by omega) (by omega)))⟩ H))))))
   ·refine c_seq (c_reg (s_k 2 rfl (s_nil (q_then (c_reg (s_k 2 rfl (s_nil (q_then (c_seq (c_reg (s_1 rfl (s_val rfl rfl (r_sub (z := ((md + m - 1 : Nat) : Int)) rfl rfl rfl (by rw [w64 (by omega) (by omega)]; omega)) (s_1 rfl (s_nil (q_then (c_seq (c_block (c_loop (σ := Nat × Nat) (fun (i, j) => [(0, .slice A1 xs.length c2), (1, .int .i64 ((a : Nat) : Int)), (2, .int .i64 ((m : Nat) : Int)), (3, .int .i64 ((b : Nat) : Int)), (4, .func (.func 38) #[] #[]), (18, .int .i64 ((md : Nat) : Int)), (19, .int .i64 ((md + m : Nat) : Int)), (20, .int .i64 ((i : Nat) : Int)), (21, .int .i64 ((j : Nat) : Int)), (22, .int .i64 ((md + m - 1 : Nat) : Int))]) (fun (i, j) w => (Hd w0 F0 w [osl kPair (.slice A1 xs.length c2) xs] []) ∧ (a ≤ i ∧ i ≤ j ∧ j ≤ m) ∧ (i = a ∨ ∃ u v, xs[i - 1]? = some u ∧ xs[md + m - i]? = some v ∧ ltS v.key u.key = false) ∧ (j = m ∨ ∃ u v, xs[md + m - j - 1]? = some u ∧ xs[j]? = some v ∧ ltS u.key v.key = true)) (fun (i, j) => j - i) (a, m) ⟨rfl, rfl, rfl, rfl, rfl, rfl, rfl, rfl, rfl, rfl, trivial⟩ ⟨H, by (try dsimp only); omega, .inl rfl, .inl rfl⟩ ?_))))))))))))))))))
    rintro ⟨i, j⟩ w ⟨H, hij, hlow, hup⟩
    refine c_seq (c_seq (c_reg (s_k 2 rfl (s_val rfl rfl (r_lt rfl rfl rfl) (s_nil (q_then ?_))))))
    refine c_dec (p := ((i : Nat) : Int) < ((j : Nat) : Int)) rfl (fun h67 => ?_) (fun h67 => ?_)
    ·refine c_skip (q_then (c_block (c_seq (c_reg (s_k 2 rfl (s_val rfl rfl (r_add (z := ((i + j : Nat) : Int)) rfl rfl rfl (by rw [w64 (by omega) (by omega)]; omega)) (s_val rfl rfl (r_i2i (z := ((i + j : Nat) : Int)) rfl rfl un3 un72 (wu64 (by omega) (by omega))) (s_val rfl rfl (r_shr (z := (((i + j) / 2 : Nat) : Int)) rfl rfl rfl (by omega) (half_u64 _)) (s_val rfl rfl (r_i2i (z := (((i + j) / 2 : Nat) : Int)) rfl rfl un72 un3 (w64 (by omega) (by omega))) (s_1 rfl (s_nil (q_then (c_seq (c_ord (.e 0 (.e 1 (.e 2 (.e 3 (.e 4 (.e 5 (.e 6 (.e 7 (.e 8 (.e 9 (.e 10 (.m 11 (.e 12 (.e 13 .z)))))))))))))) (fun w => ∃ Ar, Hd w0 F0 w (osl kPair (.slice A1 xs.length c2) xs :: Ar) []) mo (by kernel_rfl) (fun w H => ⟨_, H⟩) H (fun w H => (d_1 rfl (d_1 rfl (d_1 rfl (d_1 rfl (d_val rfl rfl rfl (fun w ⟨Ar, H⟩ => r_sub (z := ((md + m - 1 - ((i + j) / 2) : Nat) : Int)) rfl rfl rfl (by rw [w64 (by omega) (by omega)]; omega)) ?_))))))))))))))))))))
     obtain ⟨x68, hx69⟩ : ∃ z9, xs[md + m - 1 - ((i + j) / 2)]? = some z9 := ⟨_, List.getElem?_eq_getElem (show md + m - 1 - ((i + j) / 2) < xs.length by omega)⟩
     have th70 := H.thA 0 rfl hx69
     refine d_val rfl rfl rfl (fun w ⟨Ar, H⟩ => r_iaE (p := oOf A1 + (md + m - 1 - ((i + j) / 2)) * 2) rfl sl23 rfl rfl (by omega) (by omega) th70 rfl) (d_val rfl rfl rfl (fun w ⟨Ar, H⟩ => r_ldA (cs := [.string x68.key, .string x68.val]) rfl ty56 rfl rfl (H.elsA 0 rfl hx69 rfl)) (d_1 rfl (d_1 rfl ?_)))
     obtain ⟨x71, hx72⟩ : ∃ z9, xs[(i + j) / 2]? = some z9 := ⟨_, List.getElem?_eq_getElem (show (i + j) / 2 < xs.length by omega)⟩
     have th73 := H.thA 0 rfl hx72
     refine d_val rfl rfl rfl (fun w ⟨Ar, H⟩ => r_iaE (p := oOf A1 + ((i + j) / 2) * 2) rfl sl23 rfl rfl (by omega) (by omega) th73 rfl) (d_val rfl rfl rfl (fun w ⟨Ar, H⟩ => r_ldA (cs := [.string x71.key, .string x71.val]) rfl ty56 rfl rfl (H.elsA 0 rfl hx72 rfl)) (d_main rfl (sc (order_ok x68 x71) H l0 rfl rfl (e_val (vs := [.agg #[.string x68.key, .string x68.val], .agg #[.string x71.key, .string x71.val]]) (fs := #[]) (cs := #[]) kn38 rfl rfl rfl) ?_)))
     rintro _ _ w ⟨rfl, rfl⟩ H
     refine d_back ⟨_, H⟩ (d_val rfl rfl rfl (fun w ⟨Ar, H⟩ => r_lt rfl rfl rfl) (d_val rfl rfl rfl (fun w ⟨Ar, H⟩ => r_notP rfl rfl) (d_nil (q_then ?_))))
     refine c_dec (p := ¬ ((cmpK x68.key x71.key) < 0)) rfl (fun h74 => ?_) (fun h74 => ?_)
     ·exact c_reg (s_1 rfl (s_val rfl rfl (r_add (z := (((i + j) / 2 + 1 : Nat) : Int)) rfl rfl rfl (by rw [w64 (by omega) (by omega)]; omega)) (s_1 rfl (s_nil (q_blockN (q_round (s := (i, j)) ((i + j) / 2 + 1, j) ⟨rfl, rfl, rfl, rfl, rfl, rfl, rfl, rfl, rfl, rfl, trivial⟩ ⟨H, by (try dsimp only); omega, .inr ⟨x71, x68, by rw [Nat.add_sub_cancel]; exact hx72, by rw [show md + m - ((i + j) / 2 + 1) = md + m - 1 - (i + j) / 2 by omega]; exact hx69, cmpK_nneg h74⟩, hup⟩ (by (try dsimp only); omega)))))))
     ·exact c_reg (s_k 2 rfl (s_nil (q_blockN (q_round (s := (i, j)) (i, (i + j) / 2) ⟨rfl, rfl, rfl, rfl, rfl, rfl, rfl, rfl, rfl, rfl, trivial⟩ ⟨H, by (try dsimp only); omega, hlow, .inr ⟨x68, x71, by rw [show md + m - (i + j) / 2 - 1 = md + m - 1 - (i + j) / 2 by omega]; exact hx69, hx72, cmpK_neg.1 (Classical.not_not.1 h74)⟩⟩ (by (try dsimp only); omega)))))
    ·refine c_exit (q_thenE (q_thenE (q_blockE (q_then (c_seq ?_)))))
     obtain rfl : j = i := by omega
     have hlow2 : j = a ∨ md + m - j = b ∨ ∃ u v, xs[j - 1]? = some u ∧ xs[md + m - j]? = some v ∧ ltS v.key u.key = false := hlow.elim (fun h => .inl (by omega)) (fun h => .inr (.inr h))
     have hup2 : j = m ∨ md + m - j = m ∨ ∃ u v, xs[md + m - j - 1]? = some u ∧ xs[j]? = some v ∧ ltS u.key v.key = true := hup.elim (fun h => .inl (by omega)) (fun h => .inr (.inr h))
     have hbd : a ≤ j ∧ j ≤ m ∧ m ≤ md + m - j ∧ md + m - j ≤ b ∧ md = j + (md + m - j - m) := by omega
     refine c_reg (s_k 2 rfl (s_val rfl rfl (r_sub (z := ((md + m - j : Nat) : Int)) rfl rfl rfl (by rw [w64 (by omega) (by omega)]; omega)) (s_1 rfl (s_nil (q_then ?_)))))
     refine c_cut (σ := List Pair) (fun ys => [(0, .slice A1 xs.length c2), (1, .int .i64 ((a : Nat) : Int)), (2, .int .i64 ((m : Nat) : Int)), (3, .int .i64 ((b : Nat) : Int)), (4, .func (.func 38) #[] #[]), (18, .int .i64 ((md : Nat) : Int)), (20, .int .i64 ((j : Nat) : Int)), (24, .int .i64 ((md + m - j : Nat) : Int))]) (fun ys w => (Hd w0 F0 w [osl kPair (.slice A1 xs.length c2) ys] []) ∧ (Via xs ys (rotI j m (md + m - j)))) ?_ ?_
     ·refine c_seq (c_reg (s_k 2 rfl (s_val rfl rfl (r_lt rfl rfl rfl) (s_1 rfl ?_))))
      refine s_dec (d := 181) (p := ((j : Nat) : Int) < ((m : Nat) : Int)) rfl (fun h75 => ?_) (fun h75 => ?_)
      ·refine s_k 2 rfl (s_val rfl rfl (r_lt rfl rfl rfl) (s_1 rfl (s_nil (q_then ?_))))
       refine c_dec (p := ((m : Nat) : Int) < ((md + m - j : Nat) : Int)) rfl (fun h76 => ?_) (fun h76 => ?_)
       ·refine c_reg (s_k 5 rfl (sc (rotate_ok (.slice A1 xs.length c2) xs j m (md + m - j) (by omega) (by omega) (by omega) (by omega)) H l0 rfl rfl (e_fn kn90 rfl rfl) ?_))
        rintro _ _ w ⟨ys77, rfl, hv78⟩ H
        exact s_nil (q_cut ys77 ⟨rfl, rfl, rfl, rfl, rfl, rfl, rfl, rfl, trivial⟩ ⟨H, hv78⟩)
       ·exact c_skip (q_cut xs ⟨rfl, rfl, rfl, rfl, rfl, rfl, rfl, rfl, trivial⟩ ⟨H, via_none xs (by omega) (by omega) (by omega)⟩)
      ·exact s_k 4 rfl (s_nil (q_then (c_no rfl (c_skip (q_cut xs ⟨rfl, rfl, rfl, rfl, rfl, rfl, rfl, rfl, trivial⟩ ⟨H, via_none xs (by omega) (by omega) (by omega)⟩)))))
     ·rintro ys w ⟨H, hv⟩
      have hl := hv.1
      have hru := rot_runs hv hbd.1 hbd.2.1 hbd.2.2.1 hbd.2.2.2.1 hbd.2.2.2.2 hs1 hs2
      refine c_cut (σ := List Pair) (fun zs => [(0, .slice A1 xs.length c2), (1, .int .i64 ((a : Nat) : Int)), (2, .int .i64 ((m : Nat) : Int)), (3, .int .i64 ((b : Nat) : Int)), (4, .func (.func 38) #[] #[]), (18, .int .i64 ((md : Nat) : Int)), (20, .int .i64 ((j : Nat) : Int)), (24, .int .i64 ((md + m - j : Nat) : Int))]) (fun zs w => (Hd w0 F0 w [osl kPair (.slice A1 xs.length c2) zs] []) ∧ (Sorts ys zs a md)) ?_ ?_
      ·refine c_seq (c_reg (s_k 2 rfl (s_val rfl rfl (r_lt rfl rfl rfl) (s_1 rfl ?_))))
       refine s_dec (d := 195) (p := ((a : Nat) : Int) < ((j : Nat) : Int)) rfl (fun h79 => ?_) (fun h79 => ?_)
       ·refine s_k 2 rfl (s_val rfl rfl (r_lt rfl rfl rfl) (s_1 rfl (s_nil (q_then ?_))))
        refine c_dec (p := ((j : Nat) : Int) < ((md : Nat) : Int)) rfl (fun h80 => ?_) (fun h80 => ?_)
        ·refine c_reg (s_k 5 rfl (sc (ih (.slice A1 xs.length c2) ys a j md (by omega) (by omega) (by omega) (by omega) (by omega) hru.1 hru.2.1) H l0 rfl rfl (e_fn kn79 rfl rfl) ?_))
         rintro _ _ w ⟨ys81, rfl, hv82⟩ H
         exact s_nil (q_cut ys81 ⟨rfl, rfl, rfl, rfl, rfl, rfl, rfl, rfl, trivial⟩ ⟨H, hv82⟩)
        ·exact c_skip (q_cut ys ⟨rfl, rfl, rfl, rfl, rfl, rfl, rfl, rfl, trivial⟩ ⟨H, Sorts.refl (runs_skip hru.1 hru.2.1 (by omega) hbd.1)⟩)
       ·exact s_k 4 rfl (s_nil (q_then (c_no rfl (c_skip (q_cut ys ⟨rfl, rfl, rfl, rfl, rfl, rfl, rfl, rfl, trivial⟩ ⟨H, Sorts.refl (runs_skip hru.1 hru.2.1 (by omega) hbd.1)⟩)))))
      ·rintro zs w ⟨H, hz⟩
       have hl3 := hz.ins.1
       have hr3 : SrtI zs md (md + m - j) := hru.2.2.1.same (fun t h1 h2 => hz.ins.2.1 t (by omega))
       have hr4 : SrtI zs (md + m - j) b := hru.2.2.2.same (fun t h1 h2 => hz.ins.2.1 t (by omega))
       refine c_seq (c_reg (s_k 2 rfl (s_val rfl rfl (r_lt rfl rfl rfl) (s_1 rfl ?_))))
       refine s_dec (d := 209) (p := ((md : Nat) : Int) < ((md + m - j : Nat) : Int)) rfl (fun h83 => ?_) (fun h83 => ?_)
       ·refine s_k 2 rfl (s_val rfl rfl (r_lt rfl rfl rfl) (s_1 rfl (s_nil (q_then ?_))))
        refine c_dec (p := ((md + m - j : Nat) : Int) < ((b : Nat) : Int)) rfl (fun h84 => ?_) (fun h84 => ?_)
        ·refine c_reg (s_k 5 rfl (sc (ih (.slice A1 xs.length c2) zs md (md + m - j) b (by omega) (by omega) (by omega) (by omega) (by omega) hr3 hr4) H l0 rfl rfl (e_fn kn79 rfl rfl) ?_))
         rintro _ _ w ⟨ys85, rfl, hv86⟩ H
         exact s_nil (q_end rfl (fin ⟨_, rfl, merge_parts hv hbd.1 hbd.2.1 hbd.2.2.1 hbd.2.2.2.1 (by omega) hbd.2.2.2.2 hs1 hs2 hlow2 hup2 hz hv86⟩ H))
        ·exact c_skip (q_end rfl (fin ⟨_, rfl, merge_parts hv hbd.1 hbd.2.1 hbd.2.2.1 hbd.2.2.2.1 (by omega) hbd.2.2.2.2 hs1 hs2 hlow2 hup2 hz (Sorts.refl (runs_skip hr3 hr4 (by omega) (by omega)))⟩ H))
       ·exact s_k 4 rfl (s_nil (q_then (c_no rfl (c_skip (q_end rfl (fin ⟨_, rfl, merge_parts hv hbd.1 hbd.2.1 hbd.2.2.1 hbd.2.2.2.1 (by omega) hbd.2.2.2.2 hs1 hs2 hlow2 hup2 hz (Sorts.refl (runs_skip hr3 hr4 (by omega) (by omega)))⟩ H))))))
theorem symMerge_all : ∀ (N : Nat) (v : Value) (xs : List Pair) (a m b : Nat), b - a < N → a < m → m < b → b ≤ xs.length → xs.length ≤ 1000000 → SrtI xs a m → SrtI xs m b → Cn Tryz.prog 79 [v, .int .i64 ((a : Nat) : Int), .int .i64 ((m : Nat) : Int), .int .i64 ((b : Nat) : Int), .func (.func 38) #[] #[]] [osl kPair v xs] [] (fun _ Bs => ∃ ys, Bs = [osl kPair v ys] ∧ Sorts xs ys a b)
  | 0, _, _, _, _, _, h => absurd h (Nat.not_lt_zero _)
  | N + 1, v, xs, a, m, b, h => fun h1 h2 h3 h4 h5 h6 => symMerge_step N (symMerge_all N) v xs a m b h h1 h2 h3 h4 h5 h6

set_option maxHeartbeats 1000000 in
theorem stable_ok (v : Value) (xs : List Pair) (n : Nat) (hn : n = xs.length) (hb : xs.length ≤ 1000000) :
    Cn Tryz.prog 62 [v, .int .i64 ((n : Nat) : Int), .func (.func 38) #[] #[]] [osl kPair v xs] [] (fun _ Bs => ∃ ys, Bs = [osl kPair v ys] ∧ ys = srt xs) := by
 intro w0 F0 H
 obtain ⟨A1, c2, rfl, hc3, hm4, hp5⟩ := H.fA 0 rfl
 refine enter (args := [.slice A1 xs.length c2, .int .i64 ((n : Nat) : Int), .func (.func 38) #[] #[]]) Tryz.func62 rfl rfl (Nat.le_of_ble_eq_true rfl) (c_seq (c_reg (s_1 rfl (s_nil (q_then ?_)))))
 replace H : Hd _ _ _ [osl kPair (.slice A1 xs.length c2) xs] [] := H
 refine c_seq (c_reg (s_k 3 rfl (s_nil (q_then (c_seq (c_block (c_loop (σ := Nat × List Pair) (fun (a, ys) => [(0, .slice A1 xs.length c2), (1, .int .i64 ((n : Nat) : Int)), (2, .func (.func 38) #[] #[]), (6, .int .i64 20), (7, .int .i64 ((a : Nat) : Int)), (8, .int .i64 ((a + 20 : Nat) : Int))]) (fun (a, ys) w => (Hd w0 F0 w [osl kPair (.slice A1 xs.length c2) ys] []) ∧ (a % 20 = 0 ∧ a ≤ n ∧ ys.length = xs.length) ∧ (Stab xs ys) ∧ (BlkS ys 0 a 20)) (fun (a, ys) => n - a) (0, xs) ⟨rfl, rfl, rfl, rfl, rfl, rfl, trivial⟩ ⟨H, by (try dsimp only); omega, Stab.refl _, BlkS.nil _ _⟩ ?_)))))))
 rintro ⟨a, ys⟩ w ⟨H, ha, hst, hbl⟩
 refine c_seq (c_seq (c_reg (s_k 2 rfl (s_val rfl rfl (r_le rfl rfl rfl) (s_nil (q_then ?_))))))
 refine c_dec (p := ((a + 20 : Nat) : Int) ≤ ((n : Nat) : Int)) rfl (fun h6 => ?_) (fun h6 => ?_)
 ·refine c_skip (q_then (c_block (c_seq (c_reg (s_k 4 rfl (sc (insSort_ok (.slice A1 xs.length c2) ys a (a + 20) (by omega) (by omega) (by omega)) H l0 rfl rfl (e_fn kn78 rfl rfl) ?_))))))
  rintro _ _ w ⟨ys7, rfl, hv8⟩ H
  refine s_nil (q_then ?_)
  replace H := H.h1 (A := osl kPair (.slice A1 xs.length c2) ys7)
  exact c_seq (c_reg (s_k 2 rfl (s_nil (q_then (c_reg (s_k 2 rfl (s_val rfl rfl (r_add (z := ((a + 20 + 20 : Nat) : Int)) rfl rfl rfl (by rw [w64 (by omega) (by omega)]; omega)) (s_1 rfl (s_nil (q_blockN (q_round (s := (a, ys)) (a + 20, ys7) ⟨rfl, rfl, rfl, rfl, rfl, rfl, trivial⟩ ⟨H, by (try dsimp only); rw [hv8.ins.1]; omega, hst.trans hv8.stab, hbl.more (c := a / 20) (by omega) (Nat.le_refl _) hv8.ins hv8.srt⟩ (by (try dsimp only); omega))))))))))))
 ·refine c_exit (q_thenE (q_thenE (q_blockE (q_then (c_seq (c_reg (s_k 4 rfl (sc (insSort_ok (.slice A1 xs.length c2) ys a n (by omega) (by omega) (by omega)) H l0 rfl rfl (e_fn kn78 rfl rfl) ?_))))))))
  rintro _ _ w ⟨ys9, rfl, hv10⟩ H
  refine s_nil (q_then ?_)
  replace H := H.h1 (A := osl kPair (.slice A1 xs.length c2) ys9)
  refine c_block (c_loop (σ := Nat × List Pair) (fun (bs, ys) => [(0, .slice A1 xs.length c2), (1, .int .i64 ((n : Nat) : Int)), (2, .func (.func 38) #[] #[]), (6, .int .i64 ((bs : Nat) : Int))]) (fun (bs, ys) w => (Hd w0 F0 w [osl kPair (.slice A1 xs.length c2) ys] []) ∧ (20 ≤ bs ∧ bs ≤ 4000000 ∧ ys.length = xs.length) ∧ (Stab xs ys) ∧ (BlkS ys 0 n bs)) (fun (bs, ys) => n - bs) (20, ys9) ⟨rfl, rfl, rfl, rfl, trivial⟩ ⟨H, by (try dsimp only); rw [hv10.ins.1]; omega, hst.trans hv10.stab, hbl.more (c := a / 20) (by omega) (by omega) hv10.ins hv10.srt⟩ ?_)
  rintro ⟨bs, ys⟩ w ⟨H, hbs, hst2, hbl2⟩
  refine c_seq (c_seq (c_reg (s_k 2 rfl (s_val rfl rfl (r_lt rfl rfl rfl) (s_nil (q_then ?_))))))
  refine c_dec (p := ((bs : Nat) : Int) < ((n : Nat) : Int)) rfl (fun h11 => ?_) (fun h11 => ?_)
  ·refine c_skip (q_then (c_block (c_seq (c_reg (s_1 rfl (s_val rfl rfl (r_mul (z := ((2 * bs : Nat) : Int)) rfl rfl rfl (by rw [w64 (by omega) (by omega)]; omega)) (s_k 2 rfl (s_nil (q_then (c_seq (c_block (c_loop (σ := Nat × List Pair) (fun (a, zs) => [(0, .slice A1 xs.length c2), (1, .int .i64 ((n : Nat) : Int)), (2, .func (.func 38) #[] #[]), (6, .int .i64 ((bs : Nat) : Int)), (7, .int .i64 ((a : Nat) : Int)), (8, .int .i64 ((a + 2 * bs : Nat) : Int))]) (fun (a, zs) w => (Hd w0 F0 w [osl kPair (.slice A1 xs.length c2) zs] []) ∧ (a ≤ n ∧ zs.length = xs.length) ∧ (∃ c, a = c * (2 * bs)) ∧ (Stab xs zs) ∧ (BlkS zs 0 a (2 * bs)) ∧ (BlkS zs a n bs)) (fun (a, zs) => n - a) (0, ys) ⟨rfl, rfl, rfl, rfl, rfl, congrArg (fun z => some (Value.int .i64 z)) (by (try dsimp only); omega), trivial⟩ ⟨H, by (try dsimp only); omega, ⟨0, by simp⟩, hst2, BlkS.nil _ _, hbl2⟩ ?_))))))))))))
   rintro ⟨a, zs⟩ w ⟨H, ha3, hac, hst3, hlo, hhi⟩
   refine c_seq (c_seq (c_reg (s_k 2 rfl (s_val rfl rfl (r_le rfl rfl rfl) (s_nil (q_then ?_))))))
   refine c_dec (p := ((a + 2 * bs : Nat) : Int) ≤ ((n : Nat) : Int)) rfl (fun h12 => ?_) (fun h12 => ?_)
   ·refine c_skip (q_then (c_block (c_seq (c_reg (s_k 4 rfl (s_val rfl rfl (r_add (z := ((a + bs : Nat) : Int)) rfl rfl rfl (by rw [w64 (by omega) (by omega)]; omega)) (s_k 2 rfl (sc (symMerge_all (a + 2 * bs - a + 1) (.slice A1 xs.length c2) zs a (a + bs) (a + 2 * bs) (by omega) (by omega) (by omega) (by omega) (by omega) (blk_two hhi hac (by omega)).1 ((blk_two hhi hac (by omega)).2 _ (by omega) (by omega))) H l0 rfl rfl (e_fn kn79 rfl rfl) ?_))))))))
    rintro _ _ w ⟨ys13, rfl, hv14⟩ H
    refine s_nil (q_then ?_)
    replace H := H.h1 (A := osl kPair (.slice A1 xs.length c2) ys13)
    exact c_seq (c_reg (s_k 2 rfl (s_nil (q_then (c_reg (s_k 2 rfl (s_val rfl rfl (r_mul (z := ((2 * bs : Nat) : Int)) rfl rfl rfl (by rw [w64 (by omega) (by omega)]; omega)) (s_val rfl rfl (r_add (z := ((a + 2 * bs + 2 * bs : Nat) : Int)) rfl rfl rfl (by rw [w64 (by omega) (by omega)]; omega)) (s_1 rfl (s_nil (q_blockN (q_round (s := (a, zs)) (a + 2 * bs, ys13) ⟨rfl, rfl, rfl, rfl, rfl, rfl, trivial⟩ ⟨H, by (try dsimp only); rw [hv14.ins.1]; omega, mul_next hac, hst3.trans hv14.stab, blk_next hlo hac (Nat.le_refl _) hv14, hhi.same (by omega) (fun t ht => hv14.ins.2.1 t (by omega))⟩ (by (try dsimp only); omega)))))))))))))
   ·refine c_exit (q_thenE (q_thenE (q_blockE (q_then (c_seq (c_seq (c_reg (s_k 2 rfl (s_val rfl rfl (r_add (z := ((a + bs : Nat) : Int)) rfl rfl rfl (by rw [w64 (by omega) (by omega)]; omega)) (s_1 rfl (s_nil (q_then (c_seq (c_reg (s_k 2 rfl (s_val rfl rfl (r_lt rfl rfl rfl) (s_nil (q_then ?_))))))))))))))))))
    refine c_dec (p := ((a + bs : Nat) : Int) < ((n : Nat) : Int)) rfl (fun h15 => ?_) (fun h15 => ?_)
    ·refine c_reg (s_k 5 rfl (sc (symMerge_all (n - a + 1) (.slice A1 xs.length c2) zs a (a + bs) n (by omega) (by omega) (by omega) (by omega) (by omega) (blk_two hhi hac (by omega)).1 ((blk_two hhi hac (by omega)).2 _ (by omega) (by omega))) H l0 rfl rfl (e_fn kn79 rfl rfl) ?_))
     rintro _ _ w ⟨ys16, rfl, hv17⟩ H
     refine s_nil (q_then ?_)
     replace H := H.h1 (A := osl kPair (.slice A1 xs.length c2) ys16)
     have hfin := blk_next hlo hac (by omega) hv17
     have hlen4 := hv17.ins.1
     exact c_reg (s_1 rfl (s_val rfl rfl (r_mul (z := ((bs * 2 : Nat) : Int)) rfl rfl rfl (by rw [w64 (by omega) (by omega)]; omega)) (s_1 rfl (s_nil (q_blockN (q_round (s := (bs, ys)) (bs * 2, ys16) ⟨rfl, rfl, rfl, rfl, trivial⟩ ⟨H, by (try dsimp only); omega, hst3.trans hv17.stab, by (try dsimp only); rw [Nat.mul_comm bs 2]; exact hfin⟩ (by (try dsimp only); omega)))))))
    ·refine c_skip (q_then ?_)
     have hfin := blk_next hlo hac (by omega) (Sorts.refl (blk_rest hhi hac (by omega)))
     exact c_reg (s_1 rfl (s_val rfl rfl (r_mul (z := ((bs * 2 : Nat) : Int)) rfl rfl rfl (by rw [w64 (by omega) (by omega)]; omega)) (s_1 rfl (s_nil (q_blockN (q_round (s := (bs, ys)) (bs * 2, zs) ⟨rfl, rfl, rfl, rfl, trivial⟩ ⟨H, by (try dsimp only); omega, hst3, by (try dsimp only); rw [Nat.mul_comm bs 2]; exact hfin⟩ (by (try dsimp only); omega)))))))
  ·exact c_exit (q_thenE (q_thenE (q_blockE (q_end rfl (fin ⟨_, rfl, srt_of hst2 (SrtI.ord (by rw [hbs.2.2, ← hn]; exact hbl2.all (by omega)))⟩ H)))))
set_option maxHeartbeats 1000000 in
theorem sortStable_ok (v : Value) (xs : List Pair) (hb : xs.length ≤ 1000000) :
    Cn Tryz.prog 37 [v, .func (.func 38) #[] #[]] [osl kPair v xs] [] (fun _ Bs => ∃ ys, Bs = [osl kPair v ys] ∧ ys = srt xs) := by
 intro w0 F0 H
 obtain ⟨A1, c2, rfl, hc3, hm4, hp5⟩ := H.fA 0 rfl
 refine enter (args := [.slice A1 xs.length c2, .func (.func 38) #[] #[]]) Tryz.func37 rfl rfl (Nat.le_of_ble_eq_true rfl) (c_reg (s_k 2 rfl (s_val rfl rfl (r_lenL rfl un23 rfl) (s_1 rfl ?_))))
 replace H : Hd _ _ _ [osl kPair (.slice A1 xs.length c2) xs] [] := H
 refine sc (stable_ok (.slice A1 xs.length c2) xs xs.length (by omega) (by omega)) H l0 rfl rfl (e_fn kn62 rfl rfl) ?_
 rintro _ _ w ⟨ys6, rfl, hv7⟩ H
 exact s_nil (q_end rfl (fin ⟨_, rfl, hv7⟩ H))
set_option maxHeartbeats 1000000 in
theorem clone_ok (vxs : Value) (xs : List Pair) (hb : xs.length ≤ 1000000) :
    Cn Tryz.prog 36 [vxs] [] [rsl kPair vxs xs] (fun v Bs => Bs = [osl kPair v xs]) := by
 intro w0 F0 H
 obtain ⟨A1, c2, rfl, hc3, hm4, hp5⟩ := H.fR 0 rfl
 refine enter (args := [.slice A1 xs.length c2]) Tryz.func36 rfl rfl (Nat.le_of_ble_eq_true rfl) (c_seq (c_reg (s_1 rfl (s_nil (q_then ?_)))))
 replace H : Hd _ _ _ [] [rsl kPair (.slice A1 xs.length c2) xs] := H
 refine c_seq (c_seq (c_reg (s_1 rfl (s_val rfl rfl (r_seq0 rfl un23 rfl rfl) (s_nil (q_then ?_))))))
 refine c_cond (b := (A1 : Option Addr).isNone) rfl (fun h6 => ?_) (fun h6 => ?_)
 ·refine c_seq (c_reg (s_1 rfl (s_nil (q_then (c_ret (q_thenR (q_ret1 rfl rfl ?_)))))))
  obtain rfl := H.nilR 0 rfl h6
  replace H := H.newnil kPair
  exact fin rfl H
 ·refine c_skip (q_then (c_seq (c_reg (s_bsl0 rfl rfl rfl sl23 H (fun b7 w H => (s_1 rfl ?_))))))
  replace H := H.newnilA kPair (some ⟨b7, 0, none⟩)
  refine s_appF (xs := []) (ys := xs) rfl rfl rfl sl23 zr56 rfl (by decide) rfl rfl H (by simp only [List.length_nil]; omega) (fun F hA hR => hR _ (List.mem_of_getElem? (i := 0) rfl)) (fun v8 w H => (s_1 rfl (s_nil (q_then ?_))))
  replace H : Hd _ _ _ [osl kPair v8 ([] ++ xs), blk b7 [] 56] [rsl kPair (.slice A1 xs.length c2) xs] := H
  refine c_ret (q_ret1 rfl rfl ?_)
  rw [List.nil_append] at H
  replace H := H.k1
  exact fin rfl H
set_option maxHeartbeats 1000000 in
theorem pairSort_ok (vxs : Value) (xs : List Pair) (hb : xs.length ≤ 1000000) :
    Cn Tryz.prog 15 [vxs] [] [rsl kPair vxs xs] (fun v Bs => Bs = [osl kPair v (srt xs)]) := by
 intro w0 F0 H
 obtain ⟨A1, c2, rfl, hc3, hm4, hp5⟩ := H.fR 0 rfl
 refine enter (args := [.slice A1 xs.length c2]) Tryz.func15 rfl rfl (Nat.le_of_ble_eq_true rfl) (c_seq (c_reg (s_1 rfl (s_nil (q_then ?_)))))
 replace H : Hd _ _ _ [] [rsl kPair (.slice A1 xs.length c2) xs] := H
 refine c_seq (c_reg (s_1 rfl (sc (clone_ok (.slice A1 xs.length c2) xs (by first | omega | decide)) H (lR 0 rfl l0) rfl rfl (e_fn kn36 rfl rfl) ?_)))
 rintro v6 _ w rfl H
 refine s_1 rfl (s_nil (q_then ?_))
 replace H := H.h1 (A := osl kPair v6 xs)
 refine c_seq (c_reg (s_1 rfl (sc (sortStable_ok v6 xs  (by omega)) H l0 rfl rfl (e_fn kn37 rfl rfl) ?_)))
 rintro _ _ w ⟨ys7, rfl, hv8⟩ H
 refine s_nil (q_then ?_)
 replace H := H.h1 (A := osl kPair v6 ys7)
 refine c_seq (c_reg (s_k 2 rfl (s_nil (q_then (c_ret (q_ret1 rfl rfl ?_))))))
 subst hv8
 exact fin rfl H
set_option maxHeartbeats 1000000 in
theorem isSorted_ok (v : Value) (xs : List Pair) (hb : xs.length ≤ 1000000) :
    Cn Tryz.prog 50 [v, .func (.func 38) #[] #[]] [] [rsl kPair v xs] (fun v Bs => v = .bool (decide (Ord xs)) ∧ Bs = []) := by
 intro w0 F0 H
 obtain ⟨A1, c2, rfl, hc3, hm4, hp5⟩ := H.fR 0 rfl
 refine enter (args := [.slice A1 xs.length c2, .func (.func 38) #[] #[]]) Tryz.func50 rfl rfl (Nat.le_of_ble_eq_true rfl) (c_seq (c_reg (s_1 rfl (s_nil (q_then ?_)))))
 replace H : Hd _ _ _ [] [rsl kPair (.slice A1 xs.length c2) xs] := H
 refine c_seq (c_seq ?_)
 by_cases h0 : xs.length = 0
 ·refine c_reg (s_1 rfl (s_val rfl rfl (r_lenL rfl un23 rfl) (s_val rfl rfl (r_sub (z := ((xs.length : Nat) : Int) - 1) rfl rfl rfl (w64 (by omega) (by omega))) (s_1 rfl (s_nil (q_then (c_block (c_loop (σ := Unit) (fun u => [(0, .slice A1 xs.length c2), (1, .func (.func 38) #[] #[]), (5, .int .i64 (((xs.length : Nat) : Int) - 1))]) (fun u w => (Hd w0 F0 w [] [rsl kPair (.slice A1 xs.length c2) xs])) (fun u => 0) () ⟨rfl, rfl, rfl, trivial⟩ H ?_))))))))
  rintro u w H
  refine c_seq (c_seq (c_reg (s_1 rfl (s_val rfl rfl (r_gt rfl rfl rfl) (s_nil (q_then ?_))))))
  refine c_dec (p := (0 : Int) < (((xs.length : Nat) : Int) - 1)) rfl (fun h6 => ?_) (fun h6 => ?_)
  ·exfalso; omega
  ·refine c_exit (q_thenE (q_thenE (q_blockE (q_then (c_seq (c_reg (s_1 rfl (s_nil (q_then (c_ret (q_ret1 rfl rfl ?_)))))))))))
   have ho : Ord xs := by rw [List.eq_nil_of_length_eq_zero h0]; exact List.Pairwise.nil
   exact fin ⟨by rw [decide_eq_true ho], rfl⟩ H
 ·refine c_reg (s_1 rfl (s_val rfl rfl (r_lenL rfl un23 rfl) (s_val rfl rfl (r_sub (z := ((xs.length - 1 : Nat) : Int)) rfl rfl rfl (by rw [w64 (by omega) (by omega)]; omega)) (s_1 rfl (s_nil (q_then (c_block (c_loop (σ := Nat) (fun j => [(0, .slice A1 xs.length c2), (1, .func (.func 38) #[] #[]), (5, .int .i64 ((j : Nat) : Int))]) (fun j w => (Hd w0 F0 w [] [rsl kPair (.slice A1 xs.length c2) xs]) ∧ (j < xs.length) ∧ (AdjI xs j)) (fun j => j) (xs.length - 1) ⟨rfl, rfl, rfl, trivial⟩ ⟨H, by (try dsimp only); omega, adj_end xs⟩ ?_))))))))
  rintro j w ⟨H, hj, had⟩
  refine c_seq (c_seq (c_reg (s_1 rfl (s_val rfl rfl (r_gt rfl rfl rfl) (s_nil (q_then ?_))))))
  refine c_dec (p := (0 : Int) < ((j : Nat) : Int)) rfl (fun h7 => ?_) (fun h7 => ?_)
  ·refine c_skip (q_then (c_seq (c_block (c_seq (c_ord (.e 0 (.e 1 (.e 2 (.e 3 (.e 4 (.e 5 (.e 6 (.e 7 (.e 8 (.e 9 (.m 10 (.e 11 .z)))))))))))) (fun w => ∃ Ar, Hd w0 F0 w (Ar) [rsl kPair (.slice A1 xs.length c2) xs]) mo (by kernel_rfl) (fun w H => ⟨_, H⟩) H (fun w H => (d_1 rfl (d_1 rfl (d_1 rfl ?_)))))))))
   obtain ⟨x8, hx9⟩ : ∃ z9, xs[j]? = some z9 := ⟨_, List.getElem?_eq_getElem (show j < xs.length by omega)⟩
   have th10 := H.thR 0 rfl hx9
   refine d_val rfl rfl rfl (fun w ⟨Ar, H⟩ => r_iaE (p := oOf A1 + j * 2) rfl sl23 rfl rfl (by omega) (by omega) th10 rfl) (d_val rfl rfl rfl (fun w ⟨Ar, H⟩ => r_ldA (cs := [.string x8.key, .string x8.val]) rfl ty56 rfl rfl (H.elsR 0 rfl hx9 rfl)) (d_1 rfl (d_1 rfl (d_val rfl rfl rfl (fun w ⟨Ar, H⟩ => r_sub (z := ((j - 1 : Nat) : Int)) rfl rfl rfl (by rw [w64 (by omega) (by omega)]; omega)) ?_))))
   obtain ⟨x11, hx12⟩ : ∃ z9, xs[j - 1]? = some z9 := ⟨_, List.getElem?_eq_getElem (show j - 1 < xs.length by omega)⟩
   have th13 := H.thR 0 rfl hx12
   refine d_val rfl rfl rfl (fun w ⟨Ar, H⟩ => r_iaE (p := oOf A1 + (j - 1) * 2) rfl sl23 rfl rfl (by omega) (by omega) th13 rfl) (d_val rfl rfl rfl (fun w ⟨Ar, H⟩ => r_ldA (cs := [.string x11.key, .string x11.val]) rfl ty56 rfl rfl (H.elsR 0 rfl hx12 rfl)) (d_main rfl (sc (order_ok x8 x11) H l0 rfl rfl (e_val (vs := [.agg #[.string x8.key, .string x8.val], .agg #[.string x11.key, .string x11.val]]) (fs := #[]) (cs := #[]) kn38 rfl rfl rfl) ?_)))
   rintro _ _ w ⟨rfl, rfl⟩ H
   refine d_back ⟨_, H⟩ (d_val rfl rfl rfl (fun w ⟨Ar, H⟩ => r_lt rfl rfl rfl) (d_nil (q_then ?_)))
   refine c_dec (p := (cmpK x8.key x11.key) < 0) rfl (fun h14 => ?_) (fun h14 => ?_)
   ·refine c_seq (c_reg (s_1 rfl (s_nil (q_then (c_ret (q_blockR (q_thenR (q_thenR (q_blockR (q_thenR (q_ret1 rfl rfl ?_)))))))))))
    have ho : ¬ Ord xs := fun ho => by have := ord_adj ho (by omega) hx9 hx12; rw [cmpK_neg.1 h14] at this; cases this
    exact fin ⟨by rw [decide_eq_false ho], rfl⟩ H
   ·exact c_skip (q_blockN (q_then (c_reg (s_1 rfl (s_val rfl rfl (r_sub (z := ((j - 1 : Nat) : Int)) rfl rfl rfl (by rw [w64 (by omega) (by omega)]; omega)) (s_1 rfl (s_nil (q_round (s := j) (j - 1) ⟨rfl, rfl, rfl, trivial⟩ ⟨H, by (try dsimp only); omega, adj_more had (by omega) hx9 hx12 (cmpK_nneg h14)⟩ (by (try dsimp only); omega)))))))))
  ·refine c_exit (q_thenE (q_thenE (q_blockE (q_then (c_seq (c_reg (s_1 rfl (s_nil (q_then (c_ret (q_ret1 rfl rfl ?_)))))))))))
   have ho : Ord xs := adj_ord ((by omega : j = 0) ▸ had)
   exact fin ⟨by rw [decide_eq_true ho], rfl⟩ H
set_option maxHeartbeats 1000000 in
theorem sorted_ok (vxs : Value) (xs : List Pair) (hb : xs.length ≤ 1000000) :
    Cn Tryz.prog 27 [vxs] [] [rsl kPair vxs xs] (fun v Bs => v = .bool (decide (Ord xs)) ∧ Bs = []) := by
 intro w0 F0 H
 obtain ⟨A1, c2, rfl, hc3, hm4, hp5⟩ := H.fR 0 rfl
 refine enter (args := [.slice A1 xs.length c2]) Tryz.func27 rfl rfl (Nat.le_of_ble_eq_true rfl) (c_seq (c_reg (s_1 rfl (s_nil (q_then ?_)))))
 replace H : Hd _ _ _ [] [rsl kPair (.slice A1 xs.length c2) xs] := H
 refine c_seq (c_reg (s_1 rfl (sc (isSorted_ok (.slice A1 xs.length c2) xs (by omega)) H (lR 0 rfl l0) rfl rfl (e_fn kn50 rfl rfl) ?_)))
 rintro _ _ w ⟨rfl, rfl⟩ H
 exact s_1 rfl (s_nil (q_then (c_ret (q_ret1 rfl rfl (fin ⟨rfl, rfl⟩ H)))))
theorem sortStr_ok (v : Value) (xs : List ByteArray) (hb : xs.length ≤ 1000000) : Cn Tryz.prog 69 [v] [osl kStr v xs] [] (fun _ Bs => Bs = [osl kStr v (sortS xs)]) :=
  cn_sort (e1 := Value.string) (s := sortS) (fun xs => by simp [sortS]) (by simp [sortS]) (fun p c w => Go.Proofs.Tryz.slices_Sort_string_none p c w) (fun b c xs w hH hbl hl => by
    have h := Go.Proofs.Tryz.slices_Sort_string b 0 c (xs.map ofS) w (holdsS hH) hbl (by simp; omega)
    rw [List.length_map] at h
    refine h.mono ?_
    rintro e w' ⟨h1, n, os, h2⟩
    exact ⟨h1, n, os, by rw [h2, putS]; rfl⟩) v xs hb

theorem compStr_ok (v : Value) (xs : List ByteArray) (hb : xs.length ≤ 1000000) : Cn Tryz.prog 70 [v] [osl kStr v xs] [] (fun u Bs => Bs = [osl kStr u (compS xs)]) :=
  cn_compact (e1 := Value.string) (s := compS) (z := toS []) (fun xs => by have := compact_le (xs.map ofS); simpa [compS] using this) rfl (fun p c w => Go.Proofs.Tryz.slices_Compact_string_empty p c w) (fun b c xs w hH hl hc => by
    have h := Go.Proofs.Tryz.slices_Compact_string b 0 c (xs.map ofS) w (holdsS hH) (by simp; omega) (by simpa using hc)
    rw [List.length_map] at h
    refine h.mono ?_
    rintro e w' ⟨h1, n, h2⟩
    exact ⟨by rw [h1]; simp [compS], n, by rw [h2, putS]; simp [compS]⟩) v xs hb

end Go.Proofs.YtlpgdkbokakniaaGreatDoor.X

set_option linter.unusedVariables false
set_option linter.unusedSimpArgs false
namespace Go.Proofs.YtlpgdkbokakniaaGreatDoor.X
open Go
set_option maxHeartbeats 1000000 in
theorem samePairs_ok (v1 v2 : Value) (xs ys : List Pair) :
    Cn Tryz.prog 19 [v1, v2] [] [rsl kPair v1 xs, rsl kPair v2 ys] (fun v Bs => v = .bool (decide (xs = ys)) ∧ Bs = []) := by
 intro w0 F0 H
 obtain ⟨A1, c2, rfl, hc3, hm4, hp5⟩ := H.fR 0 rfl
 obtain ⟨A6, c7, rfl, hc8, hm9, hp10⟩ := H.fR 1 rfl
 refine enter (args := [.slice A1 xs.length c2, .slice A6 ys.length c7]) Tryz.func19 rfl rfl (Nat.le_of_ble_eq_true rfl) (c_seq (c_reg (s_1 rfl (s_nil (q_then ?_)))))
 replace H : Hd _ _ _ [] [rsl kPair (.slice A1 xs.length c2) xs, rsl kPair (.slice A6 ys.length c7) ys] := H
 refine c_seq (c_seq (c_reg (s_1 rfl (s_val rfl rfl (r_lenL rfl un23 rfl) (s_1 rfl (s_val rfl rfl (r_lenL rfl un23 rfl) (s_val rfl rfl (r_ne rfl rfl rfl) (s_nil (q_then ?_)))))))))
 refine c_dec (p := ((xs.length : Nat) : Int) ≠ ((ys.length : Nat) : Int)) rfl (fun h11 => ?_) (fun h11 => ?_)
 ·refine c_seq (c_reg (s_1 rfl (s_nil (q_then (c_ret (q_thenR (q_ret1 rfl rfl ?_)))))))
  have e : ¬ xs = ys := fun e => h11 (by rw [e])
  exact fin ⟨by rw [decide_eq_false e], rfl⟩ H
 ·refine c_skip (q_then (c_seq (c_seq (c_reg (s_1 rfl (s_nil (q_then (c_block ?_))))))))
  have hle : xs.length = ys.length := by omega
  refine c_loop (σ := Nat) (fun k => [(0, .slice A1 xs.length c2), (1, .slice A6 ys.length c7), (5, .int .i64 ((k : Nat) : Int))]) (fun k w => (Hd w0 F0 w [] [rsl kPair (.slice A1 xs.length c2) xs, rsl kPair (.slice A6 ys.length c7) ys]) ∧ (k ≤ xs.length) ∧ (xs.length = ys.length) ∧ (xs.take k = ys.take k)) (fun k => xs.length - k) 0 ⟨rfl, rfl, rfl, trivial⟩ ⟨H, by omega, hle, rfl⟩ ?_
  rintro k w ⟨H, hk, hle, ht⟩
  refine c_seq (c_seq (c_reg (s_k 2 rfl (s_val rfl rfl (r_lenL rfl un23 rfl) (s_val rfl rfl (r_lt rfl rfl rfl) (s_nil (q_then ?_)))))))
  refine c_dec (p := ((k : Nat) : Int) < ((xs.length : Nat) : Int)) rfl (fun h12 => ?_) (fun h12 => ?_)
  ·refine c_skip (q_then (c_seq (c_block (c_seq (c_draw mo (by kernel_rfl) H (u_k 2 rfl ?_))))))
   obtain ⟨x13, hx14⟩ : ∃ z9, xs[k]? = some z9 := ⟨_, List.getElem?_eq_getElem (show k < xs.length by omega)⟩
   have th15 := H.thR 0 rfl hx14
   refine u_val rfl rfl (fun w H => r_iaE (p := oOf A1 + k * 2) rfl sl23 rfl rfl (by omega) (by omega) th15 rfl) (u_val rfl rfl (fun w H => r_ldA (cs := [.string x13.key, .string x13.val]) rfl ty56 rfl rfl (H.elsR 0 rfl hx14 rfl)) (u_k 2 rfl ?_))
   obtain ⟨x16, hx17⟩ : ∃ z9, ys[k]? = some z9 := ⟨_, List.getElem?_eq_getElem (show k < ys.length by omega)⟩
   have th18 := H.thR 1 rfl hx17
   refine u_val rfl rfl (fun w H => r_iaE (p := oOf A6 + k * 2) rfl sl23 rfl rfl (by omega) (by omega) th18 rfl) (u_val rfl rfl (fun w H => r_ldA (cs := [.string x16.key, .string x16.val]) rfl ty56 rfl rfl (H.elsR 1 rfl hx17 rfl)) (u_val rfl rfl (fun w H => r_nePair (p := x13) (q := x16) rfl eqz56 rfl rfl) (u_end (fun w H => (q_then ?_)))))
   refine c_dec (p := x13 ≠ x16) rfl (fun h19 => ?_) (fun h19 => ?_)
   ·refine c_seq (c_reg (s_1 rfl (s_nil (q_then (c_ret (q_blockR (q_thenR (q_thenR (q_blockR (q_thenR (q_ret1 rfl rfl ?_)))))))))))
    have e : ¬ xs = ys := fun e => h19 (by rw [e, hx17] at hx14; exact (Option.some.inj hx14).symm)
    exact fin ⟨by rw [decide_eq_false e], rfl⟩ H
   ·refine c_skip (q_blockN (q_then (c_reg (s_1 rfl (s_val rfl rfl (r_add (z := ((k + 1 : Nat) : Int)) rfl rfl rfl (by rw [w64 (by omega) (by omega)]; omega)) (s_1 rfl (s_nil ?_)))))))
    have e : x13 = x16 := Classical.not_not.1 h19
    subst e
    exact q_round (s := k) (k + 1) ⟨rfl, rfl, rfl, trivial⟩ ⟨H, by omega, hle, take_more hx14 hx17 ht⟩ (by (try dsimp only); omega)
  ·refine c_exit (q_thenE (q_thenE (q_blockE (q_then (c_seq (c_reg (s_1 rfl (s_nil (q_then (c_ret (q_ret1 rfl rfl ?_)))))))))))
   have e : xs = ys := by rw [← take_all (xs := xs) (k := k) (by omega), ← take_all (xs := ys) (k := k) (by omega)]; exact ht
   exact fin ⟨by rw [decide_eq_true e], rfl⟩ H
set_option maxHeartbeats 1000000 in
theorem overPairs_ok (v : Value) (xs : List Pair) (hb : xs.length ≤ 1000000) :
    Cn Tryz.prog 20 [v] [osl kPair v xs] [] (fun _ Bs => Bs = []) := by
 intro w0 F0 H
 obtain ⟨A1, c2, rfl, hc3, hm4, hp5⟩ := H.fA 0 rfl
 refine enter (args := [.slice A1 xs.length c2]) Tryz.func20 rfl rfl (Nat.le_of_ble_eq_true rfl) (c_seq (c_seq (c_reg (s_1 rfl (s_nil (q_then ?_))))))
 replace H : Hd _ _ _ [osl kPair (.slice A1 xs.length c2) xs] [] := H
 refine c_block (c_loop (σ := Nat × List Pair) (fun (k, ys) => [(0, .slice A1 xs.length c2), (2, .int .i64 ((k : Nat) : Int))]) (fun (k, ys) w => (Hd w0 F0 w [osl kPair (.slice A1 xs.length c2) ys] []) ∧ (k ≤ xs.length) ∧ (ys.length = xs.length)) (fun (k, ys) => xs.length - k) (0, xs) ⟨rfl, rfl, trivial⟩ ⟨H, by omega, rfl⟩ ?_)
 rintro ⟨k, ys⟩ w ⟨H, hk, hl⟩
 refine c_seq (c_seq (c_reg (s_k 2 rfl (s_val rfl rfl (r_lenL rfl un23 rfl) (s_val rfl rfl (r_lt rfl rfl rfl) (s_nil (q_then ?_)))))))
 refine c_dec (p := ((k : Nat) : Int) < ((xs.length : Nat) : Int)) rfl (fun h6 => ?_) (fun h6 => ?_)
 ·refine c_skip (q_then (c_seq (c_block (c_reg (s_k 2 rfl (s_val rfl rfl (r_bd (parts := [(0, .const (.string ⟨#[111, 118, 101, 114]⟩))]) (vs := [.string ⟨#[111, 118, 101, 114]⟩]) (cs := [.string ⟨#[111, 118, 101, 114]⟩, .string ⟨#[]⟩]) rfl bd56 rfl rfl) ?_))))))
  obtain ⟨x7, hx8⟩ : ∃ z9, ys[k]? = some z9 := ⟨_, List.getElem?_eq_getElem (show k < ys.length by omega)⟩
  have th9 := H.thA 0 rfl hx8
  refine s_val rfl rfl (r_iaE (p := oOf A1 + k * 2) rfl sl23 rfl rfl (by omega) (by omega) th9 rfl) (s_stO (i := k) (a := (⟨⟨#[111, 118, 101, 114]⟩, ⟨#[]⟩⟩ : Pair)) rfl rfl rfl ty56 rfl rfl rfl H (by omega) rfl (fun w H => (s_nil (q_blockN (q_then ?_)))))
  replace H := H.h1 (A := osl kPair (.slice A1 xs.length c2) (ys.set k (⟨⟨#[111, 118, 101, 114]⟩, ⟨#[]⟩⟩ : Pair)))
  refine c_reg (s_1 rfl (s_val rfl rfl (r_add (z := ((k + 1 : Nat) : Int)) rfl rfl rfl (by rw [w64 (by omega) (by omega)]; omega)) (s_1 rfl (s_nil ?_))))
  have hl2 : (ys.set k (⟨⟨#[111, 118, 101, 114]⟩, ⟨#[]⟩⟩ : Pair)).length = xs.length := by rw [List.length_set]; exact hl
  exact q_round (s := (k, ys)) (k + 1, ys.set k (⟨⟨#[111, 118, 101, 114]⟩, ⟨#[]⟩⟩ : Pair)) ⟨rfl, rfl, trivial⟩ ⟨H, by omega, hl2⟩ (by (try dsimp only); omega)
 ·refine c_exit (q_thenE (q_thenE (q_blockE (q_then (c_reg (s_1 rfl (s_val rfl rfl (r_bd (parts := [(0, .const (.string ⟨#[111, 118, 101, 114]⟩))]) (vs := [.string ⟨#[111, 118, 101, 114]⟩]) (cs := [.string ⟨#[111, 118, 101, 114]⟩, .string ⟨#[]⟩]) rfl bd56 rfl rfl) (s_bsl (parts := [(0, .tmp 14)]) (vs := [.agg #[.string ⟨#[111, 118, 101, 114]⟩, .string ⟨#[]⟩]]) (cs := [.string ⟨#[111, 118, 101, 114]⟩, .string ⟨#[]⟩]) rfl rfl rfl sl23 zr56 rfl (by decide) (by decide) rfl rfl H (fun b10 w H => ?_)))))))))
  replace H := H.p1
  refine s_appF (xs := ys) (ys := [(⟨⟨#[111, 118, 101, 114]⟩, ⟨#[]⟩⟩ : Pair)]) rfl rfl rfl sl23 zr56 rfl (by decide) rfl rfl H (by omega) (fun F hA hR => blk_rsl (hA _ (List.mem_of_getElem? (i := 0) rfl)) rfl (by decide) (RepsR.flat_eq.2 rfl)) (fun v11 w H => (s_nil (q_end rfl ?_)))
  replace H := H.keep 0
  exact fin rfl H
set_option maxHeartbeats 1000000 in
theorem greatPairs_ok (vxs : Value) (xs : List Pair) (n : Int) :
    Cn Tryz.prog 14 [vxs, .int .i64 n] [] [rsl kPair vxs xs] (fun v Bs => v = .bool (greatP xs n) ∧ Bs = []) := by
 intro w0 F0 H
 obtain ⟨A1, c2, rfl, hc3, hm4, hp5⟩ := H.fR 0 rfl
 refine enter (args := [.slice A1 xs.length c2, .int .i64 n]) Tryz.func14 rfl rfl (Nat.le_of_ble_eq_true rfl) (c_seq (c_reg (s_1 rfl (s_nil (q_then ?_)))))
 replace H : Hd _ _ _ [] [rsl kPair (.slice A1 xs.length c2) xs] := H
 refine c_seq (c_seq (c_reg (s_1 rfl (s_nil (q_then (c_block (c_loop (σ := Nat) (fun k => [(0, .slice A1 xs.length c2), (1, .int .i64 n), (5, .int .i64 ((k : Nat) : Int))]) (fun k w => (Hd w0 F0 w [] [rsl kPair (.slice A1 xs.length c2) xs]) ∧ (k ≤ xs.length) ∧ (∀ y ∈ xs.take k, y.key.size ≤ 100 ∧ y.val.size ≤ 100)) (fun k => xs.length - k) 0 ⟨rfl, rfl, rfl, trivial⟩ ⟨H, by omega, by simp⟩ ?_)))))))
 rintro k w ⟨H, hk, hn⟩
 refine c_seq (c_seq (c_reg (s_k 2 rfl (s_val rfl rfl (r_lenL rfl un23 rfl) (s_val rfl rfl (r_lt rfl rfl rfl) (s_1 rfl ?_))))))
 refine s_dec (d := 10) (p := ((k : Nat) : Int) < ((xs.length : Nat) : Int)) rfl (fun h6 => ?_) (fun h6 => ?_)
 ·refine s_1 rfl (s_val rfl rfl (r_lenL rfl un23 rfl) (s_1 rfl (s_val rfl rfl (r_le rfl rfl rfl) (s_1 rfl (s_nil (q_then ?_))))))
  refine c_dec (p := ((xs.length : Nat) : Int) ≤ n) rfl (fun h7 => ?_) (fun h7 => ?_)
  ·refine c_skip (q_then (c_seq (c_block (c_seq (c_reg (s_k 2 rfl ?_))))))
   obtain ⟨x8, hx9⟩ : ∃ z9, xs[k]? = some z9 := ⟨_, List.getElem?_eq_getElem (show k < xs.length by omega)⟩
   have th10 := H.thR 0 rfl hx9
   refine s_val rfl rfl (r_iaE (p := oOf A1 + k * 2) rfl sl23 rfl rfl (by omega) (by omega) th10 rfl) (s_val rfl rfl (r_fa rfl fo56_0 rfl) (s_val rfl rfl (r_ld rfl ty9 rfl (H.elR 0 rfl hx9 (q := 0) rfl rfl)) (s_val rfl rfl (r_lenS rfl un9 rfl) (s_val rfl rfl (r_gt rfl rfl rfl) (s_1 rfl ?_)))))
   refine s_dec (d := 25) (p := (100 : Int) < ((x8.key.size : Nat) : Int)) rfl (fun h11 => ?_) (fun h11 => ?_)
   ·exact s_k 8 rfl (s_nil (q_then (c_yes rfl (c_seq (c_reg (s_1 rfl (s_nil (q_then (c_ret (q_blockR (q_thenR (q_thenR (q_blockR (q_thenR (q_ret1 rfl rfl (fin ⟨congrArg Value.bool (greatP_hit hx9 (by omega)), rfl⟩ H))))))))))))))))
   ·refine s_k 2 rfl ?_
    have th12 := H.thR 0 rfl hx9
    refine s_val rfl rfl (r_iaE (p := oOf A1 + k * 2) rfl sl23 rfl rfl (by omega) (by omega) th12 rfl) (s_val rfl rfl (r_fa rfl fo56_1 rfl) (s_val rfl rfl (r_ld rfl ty9 rfl (H.elR 0 rfl hx9 (q := 1) rfl rfl)) (s_val rfl rfl (r_lenS rfl un9 rfl) (s_val rfl rfl (r_gt rfl rfl rfl) (s_1 rfl (s_nil (q_then ?_)))))))
    refine c_dec (p := (100 : Int) < ((x8.val.size : Nat) : Int)) rfl (fun h13 => ?_) (fun h13 => ?_)
    ·exact c_seq (c_reg (s_1 rfl (s_nil (q_then (c_ret (q_blockR (q_thenR (q_thenR (q_blockR (q_thenR (q_ret1 rfl rfl (fin ⟨congrArg Value.bool (greatP_hit hx9 (by omega)), rfl⟩ H))))))))))))
    ·exact c_skip (q_blockN (q_then (c_reg (s_1 rfl (s_val rfl rfl (r_add (z := ((k + 1 : Nat) : Int)) rfl rfl rfl (by rw [w64 (by omega) (by omega)]; omega)) (s_1 rfl (s_nil (q_round (s := k) (k + 1) ⟨rfl, rfl, rfl, trivial⟩ ⟨H, by (try dsimp only); omega, take_prop hn hx9 (by omega)⟩ (by (try dsimp only); omega)))))))))
  ·exact c_exit (q_thenE (q_thenE (q_blockE (q_then (c_seq (c_reg (s_1 rfl (s_val rfl rfl (r_lenL rfl un23 rfl) (s_1 rfl (s_val rfl rfl (r_gt rfl rfl rfl) (s_1 rfl (s_nil (q_then (c_ret (q_ret1 rfl rfl (fin ⟨congrArg Value.bool (greatP_end hn (by omega)), rfl⟩ H))))))))))))))))
 ·exact s_k 5 rfl (s_nil (q_then (c_no rfl (c_exit (q_thenE (q_thenE (q_blockE (q_then (c_seq (c_reg (s_1 rfl (s_val rfl rfl (r_lenL rfl un23 rfl) (s_1 rfl (s_val rfl rfl (r_gt rfl rfl rfl) (s_1 rfl (s_nil (q_then (c_ret (q_ret1 rfl rfl (fin ⟨congrArg Value.bool (greatP_end hn (by omega)), rfl⟩ H))))))))))))))))))))
set_option maxHeartbeats 1000000 in
theorem pOf_ok (vxs : Value) (xs : List Pair) (key : ByteArray) (hb : xs.length ≤ 1000000) :
    Cn Tryz.prog 55 [vxs, .string key] [] [rsl kPair vxs xs] (fun v Bs => Bs = [osl kStr v (ofL xs key)]) := by
 intro w0 F0 H
 obtain ⟨A1, c2, rfl, hc3, hm4, hp5⟩ := H.fR 0 rfl
 refine enter (args := [.slice A1 xs.length c2, .string key]) Tryz.func55 rfl rfl (Nat.le_of_ble_eq_true rfl) (c_seq (c_reg (s_1 rfl (s_nil (q_then ?_)))))
 replace H : Hd _ _ _ [] [rsl kPair (.slice A1 xs.length c2) xs] := H
 refine c_seq (c_reg (s_1 rfl (s_nil (q_then (c_seq (c_seq (c_reg (s_1 rfl (s_val rfl rfl (r_lenL rfl un23 rfl) (s_1 rfl (s_nil (q_then (c_block ?_)))))))))))))
 replace H := H.newnil kStr
 refine c_loop (σ := Nat × Value) (fun (k, l) => [(1, .string key), (4, .slice none 0 0), (5, l), (8, .slice A1 xs.length c2), (9, .int .i64 ((xs.length : Nat) : Int)), (10, .int .i64 ((k : Nat) : Int))]) (fun (k, l) w => (Hd w0 F0 w [osl kStr l (ofL (xs.take k) key)] [rsl kPair (.slice A1 xs.length c2) xs]) ∧ (k ≤ xs.length)) (fun (k, l) => xs.length - k) (0, .slice none 0 0) ⟨rfl, rfl, rfl, rfl, rfl, rfl, trivial⟩ ⟨H, by (try dsimp only); omega⟩ ?_
 rintro ⟨k, l⟩ w ⟨H, hk⟩
 have hjl := ofL_len (xs.take k) key
 have hjt : (xs.take k).length ≤ xs.length := by simp; omega
 refine c_seq (c_reg (s_val rfl rfl (r_lt rfl rfl rfl) (s_nil (q_then (c_seq ?_)))))
 refine c_dec (p := ((k : Nat) : Int) < ((xs.length : Nat) : Int)) rfl (fun h6 => ?_) (fun h6 => ?_)
 ·refine c_skip (q_then (c_seq (c_block (c_seq (c_reg ?_)))))
  obtain ⟨x7, hx8⟩ : ∃ z9, xs[k]? = some z9 := ⟨_, List.getElem?_eq_getElem (show k < xs.length by omega)⟩
  have th9 := H.thR 0 rfl hx8
  refine s_val rfl rfl (r_iaE (p := oOf A1 + k * 2) rfl sl23 rfl rfl (by omega) (by omega) th9 rfl) (s_val rfl rfl (r_ldA (cs := [.string x7.key, .string x7.val]) rfl ty56 rfl rfl (H.elsR 0 rfl hx8 rfl)) (s_alloc rfl rfl rfl zr56 H (fun b10 w H => (s_st rfl rfl rfl ty56 rfl rfl H rfl (Nat.le_of_ble_eq_true rfl) (fun u hu => by simp [Value.cells] at hu; rcases hu with rfl | rfl <;> rfl) (fun w H => ?_)))))
  replace H : Hd _ _ _ [blk b10 [.string x7.key, .string x7.val] 56, osl kStr l (ofL (xs.take k) key)] [rsl kPair (.slice A1 xs.length c2) xs] := H
  refine s_nil (q_then (c_seq (c_reg (s_val rfl rfl (r_fa rfl fo56_0 rfl) (s_val rfl rfl (r_ld rfl ty9 rfl (H.cellI 0 rfl rfl)) (s_1 rfl (s_val rfl rfl (r_eqS rfl rfl rfl) (s_nil (q_then ?_)))))))))
  refine c_dec (p := x7.key = key) rfl (fun h11 => ?_) (fun h11 => ?_)
  ·refine c_reg (s_1 rfl (s_val rfl rfl (r_fa rfl fo56_1 rfl) (s_val rfl rfl (r_ld rfl ty9 rfl (H.cellI 0 rfl rfl)) (s_bsl (parts := [(0, .tmp 20)]) (vs := [.string x7.val]) (cs := [.string x7.val]) rfl rfl rfl sl75 zr9 rfl (by decide) (by decide) rfl rfl H (fun b12 w H => ?_)))))
   replace H := H.p2
   refine s_appF (xs := ofL (xs.take k) key) (ys := [x7.val]) rfl rfl rfl sl75 zr9 rfl (by decide) rfl rfl H (by omega) (fun F hA hR => blk_rsl (hA _ (List.mem_of_getElem? (i := 0) rfl)) rfl (by decide) (RepsR.flat_eq.2 rfl)) (fun v13 w H => (s_1 rfl (s_nil (q_blockN (q_then ?_)))))
   replace H : Hd _ _ _ [osl kStr v13 ((ofL (xs.take k) key) ++ [x7.val]), blk b12 [.string x7.val] 9, blk b10 [.string x7.key, .string x7.val] 56] [rsl kPair (.slice A1 xs.length c2) xs] := H
   refine c_reg (s_val rfl rfl (r_add (z := ((k + 1 : Nat) : Int)) rfl rfl rfl (by rw [w64 (by omega) (by omega)]; omega)) (s_1 rfl (s_nil ?_)))
   rw [← ofk_yes hx8 h11] at H
   replace H := H.k1
   exact q_round (s := (k, undef)) (k + 1, v13) ⟨rfl, rfl, rfl, rfl, rfl, rfl, trivial⟩ ⟨H, by (try dsimp only); omega⟩ (by (try dsimp only); omega)
  ·refine c_skip (q_blockN (q_then (c_reg (s_val rfl rfl (r_add (z := ((k + 1 : Nat) : Int)) rfl rfl rfl (by rw [w64 (by omega) (by omega)]; omega)) (s_1 rfl (s_nil ?_))))))
   rw [← ofk_no hx8 h11] at H
   replace H := H.p1
   replace H := H.k1
   exact q_round (s := (k, undef)) (k + 1, l) ⟨rfl, rfl, rfl, rfl, rfl, rfl, trivial⟩ ⟨H, by (try dsimp only); omega⟩ (by (try dsimp only); omega)
 ·refine c_exit (q_thenE (q_thenE (q_blockE (q_then (c_seq (c_reg (s_k 2 rfl (s_nil (q_then (c_ret (q_ret1 rfl rfl ?_)))))))))))
  rw [List.take_of_length_le (show xs.length ≤ k by omega)] at H
  exact fin rfl H
set_option maxHeartbeats 1000000 in
theorem rOf_ok (vxs : Value) (xs : List Pair) (key : ByteArray) (hb : xs.length ≤ 1000000) :
    Cn Tryz.prog 83 [vxs, .string key] [] [rsl kPair vxs xs] (fun v Bs => Bs = [osl kStr v (ofL xs key)]) := by
 intro w0 F0 H
 obtain ⟨A1, c2, rfl, hc3, hm4, hp5⟩ := H.fR 0 rfl
 refine enter (args := [.slice A1 xs.length c2, .string key]) Tryz.func83 rfl rfl (Nat.le_of_ble_eq_true rfl) (c_seq (c_reg (s_1 rfl (s_nil (q_then ?_)))))
 replace H : Hd _ _ _ [] [rsl kPair (.slice A1 xs.length c2) xs] := H
 refine c_seq (c_reg (s_1 rfl (s_nil (q_then (c_seq (c_seq (c_reg (s_1 rfl (s_nil (q_then (c_block ?_)))))))))))
 replace H := H.newnil kStr
 refine c_loop (σ := Nat × Value) (fun (k, l) => [(0, .slice A1 xs.length c2), (1, .string key), (4, .slice none 0 0), (5, l), (6, .int .i64 ((k : Nat) : Int))]) (fun (k, l) w => (Hd w0 F0 w [osl kStr l (ofL (xs.take k) key)] [rsl kPair (.slice A1 xs.length c2) xs]) ∧ (k ≤ xs.length)) (fun (k, l) => xs.length - k) (0, .slice none 0 0) ⟨rfl, rfl, rfl, rfl, rfl, trivial⟩ ⟨H, by (try dsimp only); omega⟩ ?_
 rintro ⟨k, l⟩ w ⟨H, hk⟩
 have hjl := ofL_len (xs.take k) key
 have hjt : (xs.take k).length ≤ xs.length := by simp; omega
 refine c_seq (c_seq (c_reg (s_k 2 rfl (s_val rfl rfl (r_lenL rfl un23 rfl) (s_val rfl rfl (r_lt rfl rfl rfl) (s_nil (q_then ?_)))))))
 refine c_dec (p := ((k : Nat) : Int) < ((xs.length : Nat) : Int)) rfl (fun h6 => ?_) (fun h6 => ?_)
 ·refine c_skip (q_then (c_seq (c_block (c_seq (c_reg (s_k 2 rfl ?_))))))
  obtain ⟨x7, hx8⟩ : ∃ z9, xs[k]? = some z9 := ⟨_, List.getElem?_eq_getElem (show k < xs.length by omega)⟩
  have th9 := H.thR 0 rfl hx8
  refine s_val rfl rfl (r_iaE (p := oOf A1 + k * 2) rfl sl23 rfl rfl (by omega) (by omega) th9 rfl) (s_val rfl rfl (r_fa rfl fo56_0 rfl) (s_val rfl rfl (r_ld rfl ty9 rfl (H.elR 0 rfl hx8 (q := 0) rfl rfl)) (s_1 rfl (s_val rfl rfl (r_eqS rfl rfl rfl) (s_nil (q_then ?_))))))
  refine c_dec (p := x7.key = key) rfl (fun h10 => ?_) (fun h10 => ?_)
  ·refine c_reg (s_k 3 rfl ?_)
   have th11 := H.thR 0 rfl hx8
   refine s_val rfl rfl (r_iaE (p := oOf A1 + k * 2) rfl sl23 rfl rfl (by omega) (by omega) th11 rfl) (s_val rfl rfl (r_fa rfl fo56_1 rfl) (s_val rfl rfl (r_ld rfl ty9 rfl (H.elR 0 rfl hx8 (q := 1) rfl rfl)) (s_bsl (parts := [(0, .tmp 25)]) (vs := [.string x7.val]) (cs := [.string x7.val]) rfl rfl rfl sl75 zr9 rfl (by decide) (by decide) rfl rfl H (fun b12 w H => ?_))))
   replace H := H.p1
   refine s_appF (xs := ofL (xs.take k) key) (ys := [x7.val]) rfl rfl rfl sl75 zr9 rfl (by decide) rfl rfl H (by omega) (fun F hA hR => blk_rsl (hA _ (List.mem_of_getElem? (i := 0) rfl)) rfl (by decide) (RepsR.flat_eq.2 rfl)) (fun v13 w H => (s_1 rfl (s_nil (q_blockN (q_then ?_)))))
   replace H : Hd _ _ _ [osl kStr v13 ((ofL (xs.take k) key) ++ [x7.val]), blk b12 [.string x7.val] 9] [rsl kPair (.slice A1 xs.length c2) xs] := H
   refine c_reg (s_1 rfl (s_val rfl rfl (r_add (z := ((k + 1 : Nat) : Int)) rfl rfl rfl (by rw [w64 (by omega) (by omega)]; omega)) (s_1 rfl (s_nil ?_))))
   rw [← ofk_yes hx8 h10] at H
   replace H := H.k1
   exact q_round (s := (k, undef)) (k + 1, v13) ⟨rfl, rfl, rfl, rfl, rfl, trivial⟩ ⟨H, by (try dsimp only); omega⟩ (by (try dsimp only); omega)
  ·refine c_skip (q_blockN (q_then (c_reg (s_1 rfl (s_val rfl rfl (r_add (z := ((k + 1 : Nat) : Int)) rfl rfl rfl (by rw [w64 (by omega) (by omega)]; omega)) (s_1 rfl (s_nil ?_)))))))
   rw [← ofk_no hx8 h10] at H
   exact q_round (s := (k, undef)) (k + 1, l) ⟨rfl, rfl, rfl, rfl, rfl, trivial⟩ ⟨H, by (try dsimp only); omega⟩ (by (try dsimp only); omega)
 ·refine c_exit (q_thenE (q_thenE (q_blockE (q_then (c_seq (c_reg (s_k 2 rfl (s_nil (q_then (c_ret (q_ret1 rfl rfl ?_)))))))))))
  rw [List.take_of_length_le (show xs.length ≤ k by omega)] at H
  exact fin rfl H
set_option maxHeartbeats 1000000 in
theorem pKeys_ok (vxs : Value) (xs : List Pair) (hb : xs.length ≤ 1000000) :
    Cn Tryz.prog 53 [vxs] [] [rsl kPair vxs xs] (fun v Bs => Bs = [osl kStr v (keysL xs)]) := by
 intro w0 F0 H
 obtain ⟨A1, c2, rfl, hc3, hm4, hp5⟩ := H.fR 0 rfl
 refine enter (args := [.slice A1 xs.length c2]) Tryz.func53 rfl rfl (Nat.le_of_ble_eq_true rfl) (c_seq (c_reg (s_1 rfl (s_nil (q_then ?_)))))
 replace H : Hd _ _ _ [] [rsl kPair (.slice A1 xs.length c2) xs] := H
 refine c_seq (c_reg (s_1 rfl (s_nil (q_then (c_seq (c_seq (c_reg (s_1 rfl (s_val rfl rfl (r_lenL rfl un23 rfl) (s_1 rfl (s_nil (q_then (c_block ?_)))))))))))))
 replace H := H.newnil kStr
 refine c_loop (σ := Nat × Value) (fun (k, l) => [(2, .slice none 0 0), (3, l), (6, .slice A1 xs.length c2), (7, .int .i64 ((xs.length : Nat) : Int)), (8, .int .i64 ((k : Nat) : Int))]) (fun (k, l) w => (Hd w0 F0 w [osl kStr l ((xs.take k).map (·.key))] [rsl kPair (.slice A1 xs.length c2) xs]) ∧ (k ≤ xs.length)) (fun (k, l) => xs.length - k) (0, .slice none 0 0) ⟨rfl, rfl, rfl, rfl, rfl, trivial⟩ ⟨H, by (try dsimp only); omega⟩ ?_
 rintro ⟨k, l⟩ w ⟨H, hk⟩
 have hjt : ((xs.take k).map (·.key)).length ≤ xs.length := by simp; omega
 refine c_seq (c_reg (s_val rfl rfl (r_lt rfl rfl rfl) (s_nil (q_then (c_seq ?_)))))
 refine c_dec (p := ((k : Nat) : Int) < ((xs.length : Nat) : Int)) rfl (fun h6 => ?_) (fun h6 => ?_)
 ·refine c_skip (q_then (c_seq (c_block (c_seq (c_reg ?_)))))
  obtain ⟨x7, hx8⟩ : ∃ z9, xs[k]? = some z9 := ⟨_, List.getElem?_eq_getElem (show k < xs.length by omega)⟩
  have th9 := H.thR 0 rfl hx8
  refine s_val rfl rfl (r_iaE (p := oOf A1 + k * 2) rfl sl23 rfl rfl (by omega) (by omega) th9 rfl) (s_val rfl rfl (r_ldA (cs := [.string x7.key, .string x7.val]) rfl ty56 rfl rfl (H.elsR 0 rfl hx8 rfl)) (s_alloc rfl rfl rfl zr56 H (fun b10 w H => (s_st rfl rfl rfl ty56 rfl rfl H rfl (Nat.le_of_ble_eq_true rfl) (fun u hu => by simp [Value.cells] at hu; rcases hu with rfl | rfl <;> rfl) (fun w H => ?_)))))
  replace H : Hd _ _ _ [blk b10 [.string x7.key, .string x7.val] 56, osl kStr l ((xs.take k).map (·.key))] [rsl kPair (.slice A1 xs.length c2) xs] := H
  refine s_nil (q_then (c_reg (s_1 rfl (s_val rfl rfl (r_fa rfl fo56_0 rfl) (s_val rfl rfl (r_ld rfl ty9 rfl (H.cellI 0 rfl rfl)) (s_bsl (parts := [(0, .tmp 14)]) (vs := [.string x7.key]) (cs := [.string x7.key]) rfl rfl rfl sl75 zr9 rfl (by decide) (by decide) rfl rfl H (fun b11 w H => ?_)))))))
  replace H := H.p2
  refine s_appF (xs := (xs.take k).map (·.key)) (ys := [x7.key]) rfl rfl rfl sl75 zr9 rfl (by decide) rfl rfl H (by omega) (fun F hA hR => blk_rsl (hA _ (List.mem_of_getElem? (i := 0) rfl)) rfl (by decide) (RepsR.flat_eq.2 rfl)) (fun v12 w H => (s_1 rfl (s_nil (q_blockN (q_then ?_)))))
  replace H : Hd _ _ _ [osl kStr v12 (((xs.take k).map (·.key)) ++ [x7.key]), blk b11 [.string x7.key] 9, blk b10 [.string x7.key, .string x7.val] 56] [rsl kPair (.slice A1 xs.length c2) xs] := H
  refine c_reg (s_val rfl rfl (r_add (z := ((k + 1 : Nat) : Int)) rfl rfl rfl (by rw [w64 (by omega) (by omega)]; omega)) (s_1 rfl (s_nil ?_)))
  rw [← keyk hx8] at H
  replace H := H.k1
  exact q_round (s := (k, undef)) (k + 1, v12) ⟨rfl, rfl, rfl, rfl, rfl, trivial⟩ ⟨H, by (try dsimp only); omega⟩ (by (try dsimp only); omega)
 ·refine c_exit (q_thenE (q_thenE (q_blockE (q_then (c_seq (c_reg (s_1 rfl (sc (sortStr_ok l ((xs.take k).map (·.key)) (by first | omega | (rw [sortS_len]; omega))) H l0 rfl rfl (e_fn kn69 rfl rfl) ?_))))))))
  rintro v13 _ w rfl H
  refine s_nil (q_then ?_)
  replace H : Hd _ _ _ [osl kStr l (sortS ((xs.take k).map (·.key)))] [rsl kPair (.slice A1 xs.length c2) xs] := H
  refine c_seq (c_reg (s_1 rfl (sc (compStr_ok l (sortS ((xs.take k).map (·.key))) (by first | omega | (rw [sortS_len]; omega))) H l0 rfl rfl (e_fn kn70 rfl rfl) ?_)))
  rintro v14 _ w rfl H
  refine s_1 rfl (s_nil (q_then ?_))
  replace H := H.h1 (A := osl kStr v14 (compS (sortS ((xs.take k).map (·.key)))))
  refine c_ret (q_ret1 rfl rfl ?_)
  rw [List.take_of_length_le (show xs.length ≤ k by omega)] at H
  exact fin rfl H
set_option maxHeartbeats 1000000 in
theorem indexFP_ok (f : FuncId) (cap : List Value) (Ex : List SP) (p : Pair → Bool) (hkf : Known Tryz.prog f) (hp : ∀ x, Cn Tryz.prog f ([.agg #[.string x.key, .string x.val]] ++ cap) [] Ex (fun v Bs => v = .bool (p x) ∧ Bs = [])) (v : Value) (xs : List Pair) :
    Cn Tryz.prog 72 [v, .func (.func f) #[] (cap).toArray] [] (rsl kPair v xs :: Ex) (fun v Bs => v = .int .i64 (fidx p xs) ∧ Bs = []) := by
 intro w0 F0 H
 obtain ⟨A1, c2, rfl, hc3, hm4, hp5⟩ := H.fR 0 rfl
 refine enter (args := [.slice A1 xs.length c2, .func (.func f) #[] (cap).toArray]) Tryz.func72 rfl rfl (Nat.le_of_ble_eq_true rfl) (c_seq (c_reg (s_1 rfl (s_nil (q_then ?_)))))
 replace H : Hd _ _ _ [] (rsl kPair (.slice A1 xs.length c2) xs :: Ex) := H
 refine c_seq (c_seq (c_reg (s_1 rfl (s_val rfl rfl (r_lenL rfl un23 rfl) (s_1 rfl (s_nil (q_then (c_block (c_loop (σ := Nat) (fun k => [(0, .slice A1 xs.length c2), (1, .func (.func f) #[] (cap).toArray), (7, .int .i64 ((xs.length : Nat) : Int)), (8, .int .i64 ((k : Nat) : Int))]) (fun k w => (Hd w0 F0 w [] (rsl kPair (.slice A1 xs.length c2) xs :: Ex)) ∧ (k ≤ xs.length) ∧ (∀ y ∈ xs.take k, p y = false)) (fun k => xs.length - k) 0 ⟨rfl, rfl, rfl, rfl, trivial⟩ ⟨H, by omega, by simp⟩ ?_)))))))))
 rintro k w ⟨H, hk, hn⟩
 refine c_seq (c_reg (s_val rfl rfl (r_lt rfl rfl rfl) (s_nil (q_then (c_seq ?_)))))
 refine c_dec (p := ((k : Nat) : Int) < ((xs.length : Nat) : Int)) rfl (fun h6 => ?_) (fun h6 => ?_)
 ·refine c_skip (q_then (c_seq (c_block (c_seq (c_reg (s_k 2 rfl (s_nil (q_then (c_seq (c_reg (s_k 3 rfl ?_)))))))))))
  obtain ⟨x7, hx8⟩ : ∃ z9, xs[k]? = some z9 := ⟨_, List.getElem?_eq_getElem (show k < xs.length by omega)⟩
  have th9 := H.thR 0 rfl hx8
  refine s_val rfl rfl (r_iaE (p := oOf A1 + k * 2) rfl sl23 rfl rfl (by omega) (by omega) th9 rfl) (s_val rfl rfl (r_ldA (cs := [.string x7.key, .string x7.val]) rfl ty56 rfl rfl (H.elsR 0 rfl hx8 rfl)) (sc (hp x7) H (fun S hS F hA hR => hR S (List.mem_cons_of_mem _ hS)) rfl rfl (e_val (vs := [.agg #[.string x7.key, .string x7.val]]) (fs := #[]) (cs := cap.toArray) hkf rfl rfl rfl) ?_))
  rintro _ _ w ⟨rfl, rfl⟩ H
  refine s_nil (q_then ?_)
  refine c_cond (b := p x7) rfl (fun h10 => ?_) (fun h10 => ?_)
  ·exact c_seq (c_reg (s_k 2 rfl (s_nil (q_then (c_ret (q_blockR (q_thenR (q_thenR (q_blockR (q_thenR (q_ret1 rfl rfl (fin ⟨by rw [fidx_hit hn hx8 h10], rfl⟩ H))))))))))))
  ·exact c_skip (q_blockN (q_then (c_reg (s_val rfl rfl (r_add (z := ((k + 1 : Nat) : Int)) rfl rfl rfl (by rw [w64 (by omega) (by omega)]; omega)) (s_1 rfl (s_nil (q_round (s := k) (k + 1) ⟨rfl, rfl, rfl, rfl, trivial⟩ ⟨H, by omega, take_false hn hx8 h10⟩ (by (try dsimp only); omega))))))))
 ·refine c_exit (q_thenE (q_thenE (q_blockE (q_then (c_seq (c_reg (s_1 rfl (s_nil (q_then (c_ret (q_ret1 rfl rfl ?_)))))))))))
  have hn2 : ∀ y ∈ xs, p y = false := by rw [← take_all (xs := xs) (k := k) (by omega)]; exact hn
  exact fin ⟨by rw [fidx_miss hn2], rfl⟩ H
set_option maxHeartbeats 1000000 in
theorem containsFP_ok (f : FuncId) (cap : List Value) (Ex : List SP) (p : Pair → Bool) (hkf : Known Tryz.prog f) (hp : ∀ x, Cn Tryz.prog f ([.agg #[.string x.key, .string x.val]] ++ cap) [] Ex (fun v Bs => v = .bool (p x) ∧ Bs = [])) (v : Value) (xs : List Pair) :
    Cn Tryz.prog 56 [v, .func (.func f) #[] (cap).toArray] [] (rsl kPair v xs :: Ex) (fun v Bs => v = .bool (xs.any p) ∧ Bs = []) := by
 intro w0 F0 H
 refine enter (args := [v, .func (.func f) #[] (cap).toArray]) Tryz.func56 rfl rfl (Nat.le_of_ble_eq_true rfl) (c_seq (c_reg (s_1 rfl (s_nil (q_then (c_seq (c_reg (s_k 2 rfl (sc (indexFP_ok f cap Ex p hkf hp v xs) H lAll rfl rfl (e_fn kn72 rfl rfl) ?_)))))))))
 rintro _ _ w ⟨rfl, rfl⟩ H
 exact s_val rfl rfl (r_ge rfl rfl rfl) (s_1 rfl (s_nil (q_then (c_ret (q_ret1 rfl rfl (fin ⟨congrArg Value.bool (fidx_nonneg p xs), rfl⟩ H))))))
set_option maxHeartbeats 1000000 in
theorem rKeys_ok (vxs : Value) (xs : List Pair) (hb : xs.length ≤ 1000000) :
    Cn Tryz.prog 81 [vxs] [] [rsl kPair vxs xs] (fun v Bs => Bs = [osl kStr v (refK [] (xs.map (·.key)))]) := by
 intro w0 F0 H
 obtain ⟨A1, c2, rfl, hc3, hm4, hp5⟩ := H.fR 0 rfl
 refine enter (args := [.slice A1 xs.length c2]) Tryz.func81 rfl rfl (Nat.le_of_ble_eq_true rfl) (c_seq (c_reg (s_1 rfl (s_nil (q_then ?_)))))
 replace H : Hd _ _ _ [] [rsl kPair (.slice A1 xs.length c2) xs] := H
 refine c_seq (c_reg (s_1 rfl (s_nil (q_then (c_seq (c_seq (c_reg (s_1 rfl (s_nil (q_then (c_block ?_)))))))))))
 replace H := H.newnil kStr
 refine c_loop (σ := Nat × Value) (fun (i, l) => [(0, .slice A1 xs.length c2), (2, .slice none 0 0), (3, l), (4, .int .i64 ((i : Nat) : Int))]) (fun (i, l) w => (Hd w0 F0 w [osl kStr l (outL xs i)] [rsl kPair (.slice A1 xs.length c2) xs]) ∧ (i ≤ xs.length)) (fun (i, l) => xs.length - i) (0, .slice none 0 0) ⟨rfl, rfl, rfl, rfl, trivial⟩ ⟨H, by (try dsimp only); omega⟩ ?_
 rintro ⟨i, l⟩ w ⟨H, hi⟩
 have hol := outL_len xs i
 obtain ⟨A6, c7, rfl, hc8, hm9, hp10⟩ := H.fA 0 rfl
 refine c_seq (c_seq (c_reg (s_k 2 rfl (s_val rfl rfl (r_lenL rfl un23 rfl) (s_val rfl rfl (r_lt rfl rfl rfl) (s_nil (q_then ?_)))))))
 replace H : Hd _ _ _ [osl kStr (.slice A6 ((outL xs i).length) c7) (outL xs i)] [rsl kPair (.slice A1 xs.length c2) xs] := H
 refine c_dec (p := ((i : Nat) : Int) < ((xs.length : Nat) : Int)) rfl (fun h11 => ?_) (fun h11 => ?_)
 ·refine c_skip (q_then (c_seq (c_block (c_seq (c_reg (s_1 rfl (s_nil (q_then (c_seq (c_block ?_))))))))))
  obtain ⟨x12, hx13⟩ : ∃ z9, xs[i]? = some z9 := ⟨_, List.getElem?_eq_getElem (show i < xs.length by omega)⟩
  refine c_loop (σ := Nat) (fun k => [(0, .slice A1 xs.length c2), (2, .slice none 0 0), (3, .slice A6 ((outL xs i).length) c7), (4, .int .i64 ((i : Nat) : Int)), (5, .int .i64 ((k : Nat) : Int))]) (fun k w => (Hd w0 F0 w [osl kStr (.slice A6 ((outL xs i).length) c7) (outL xs i)] [rsl kPair (.slice A1 xs.length c2) xs]) ∧ (k ≤ (outL xs i).length) ∧ (∀ y ∈ (outL xs i).take k, ltS y x12.key = true)) (fun k => (outL xs i).length - k) 0 ⟨rfl, rfl, rfl, rfl, rfl, trivial⟩ ⟨H, by omega, by simp⟩ ?_
  rintro k w ⟨H, hk, hn⟩
  refine c_seq (c_seq (c_draw mo (by kernel_rfl) H (u_k 2 rfl (u_val rfl rfl (fun w H => r_lenL rfl un75 rfl) (u_val rfl rfl (fun w H => r_lt rfl rfl rfl) (u_1 rfl ?_))))))
  refine u_dec (d := 16) (p := ((k : Nat) : Int) < (((outL xs i).length : Nat) : Int)) rfl (fun h14 => ?_) (fun h14 => ?_)
  ·refine u_k 2 rfl ?_
   obtain ⟨x15, hx16⟩ : ∃ z9, (outL xs i)[k]? = some z9 := ⟨_, List.getElem?_eq_getElem (show k < (outL xs i).length by omega)⟩
   have th17 := H.thA 0 rfl hx16
   refine u_val rfl rfl (fun w H => r_iaE (p := oOf A6 + k * 1) rfl sl75 rfl rfl (by omega) (by omega) th17 rfl) (u_val rfl rfl (fun w H => r_ld rfl ty9 rfl (H.elA 0 rfl hx16 (q := 0) rfl rfl)) (u_k 2 rfl ?_))
   have th18 := H.thR 0 rfl hx13
   refine u_val rfl rfl (fun w H => r_iaE (p := oOf A1 + i * 2) rfl sl23 rfl rfl (by omega) (by omega) th18 rfl) (u_val rfl rfl (fun w H => r_fa rfl fo56_0 rfl) (u_val rfl rfl (fun w H => r_ld rfl ty9 rfl (H.elR 0 rfl hx13 (q := 0) rfl rfl)) (u_val rfl rfl (fun w H => r_ltS rfl rfl rfl) (u_1 rfl (u_end (fun w H => (q_then ?_)))))))
   refine c_dec (p := ltS x15 x12.key = true) rfl (fun h19 => ?_) (fun h19 => ?_)
   ·exact c_skip (q_then (c_block (c_reg (s_1 rfl (s_val rfl rfl (r_add (z := ((k + 1 : Nat) : Int)) rfl rfl rfl (by rw [w64 (by omega) (by omega)]; omega)) (s_1 rfl (s_nil (q_blockN (q_round (s := k) (k + 1) ⟨rfl, rfl, rfl, rfl, rfl, trivial⟩ ⟨H, by (try dsimp only); omega, take_prop hn hx16 h19⟩ (by (try dsimp only); omega))))))))))
   ·refine c_exit (q_thenE (q_thenE (q_blockE (q_then (c_seq (c_seq (c_draw mo (by kernel_rfl) H (u_k 2 rfl (u_val rfl rfl (fun w H => r_lenL rfl un75 rfl) (u_val rfl rfl (fun w H => r_lt rfl rfl rfl) (u_1 rfl ?_)))))))))))
    refine u_dec (d := 34) (p := ((k : Nat) : Int) < (((outL xs i).length : Nat) : Int)) rfl (fun h20 => ?_) (fun h20 => ?_)
    ·refine u_k 2 rfl ?_
     have th21 := H.thA 0 rfl hx16
     refine u_val rfl rfl (fun w H => r_iaE (p := oOf A6 + k * 1) rfl sl75 rfl rfl (by omega) (by omega) th21 rfl) (u_val rfl rfl (fun w H => r_ld rfl ty9 rfl (H.elA 0 rfl hx16 (q := 0) rfl rfl)) (u_k 2 rfl ?_))
     have th22 := H.thR 0 rfl hx13
     refine u_val rfl rfl (fun w H => r_iaE (p := oOf A1 + i * 2) rfl sl23 rfl rfl (by omega) (by omega) th22 rfl) (u_val rfl rfl (fun w H => r_fa rfl fo56_0 rfl) (u_val rfl rfl (fun w H => r_ld rfl ty9 rfl (H.elR 0 rfl hx13 (q := 0) rfl rfl)) (u_val rfl rfl (fun w H => r_eqS rfl rfl rfl) (u_1 rfl (u_end (fun w H => (q_then ?_)))))))
     refine c_dec (p := x15 = x12.key) rfl (fun h23 => ?_) (fun h23 => ?_)
     ·have hhit : (outL xs i)[k]? = some x12.key := by rw [hx16, h23]
      refine c_exit (q_thenE (q_blockE (q_then (c_reg (s_1 rfl (s_val rfl rfl (r_add (z := ((i + 1 : Nat) : Int)) rfl rfl rfl (by rw [w64 (by omega) (by omega)]; omega)) (s_1 rfl (s_nil ?_))))))))
      replace H : Hd w0 F0 w [osl kStr (.slice A6 ((outL xs i).length) c7) (outL xs (i + 1))] [rsl kPair (.slice A1 xs.length c2) xs] := by rw [outL_step hx13, insK_hit (k := k) hn hhit]; exact H
      exact q_round (s := (i, undef)) (i + 1, .slice A6 ((outL xs i).length) c7) ⟨rfl, rfl, rfl, rfl, trivial⟩ ⟨H, by (try dsimp only); omega⟩ (by (try dsimp only); omega)
     ·refine c_skip (q_then (c_ord (.e 0 (.e 1 (.e 2 (.e 4 (.e 5 (.e 6 (.e 7 (.e 8 (.e 11 (.e 12 (.e 13 (.b 3 9 (.m 9 (.m 10 (.m 14 (.e 15 .z)))) (.m 3 (.m 10 (.m 14 (.e 15 .z)))))))))))))))) (fun w => ∃ Ar, Hd w0 F0 w (osl kStr (.slice A6 ((outL xs i).length) c7) (outL xs i) :: Ar) [rsl kPair (.slice A1 xs.length c2) xs]) mo (by kernel_rfl) (fun w H => ⟨_, H⟩) H (fun w H => (d_1 rfl (d_1 rfl (d_val rfl rfl rfl (fun w ⟨Ar, H⟩ => r_cutP rfl sl75 rfl rfl (by omega) (by omega) rfl) (d_1 rfl (d_1 rfl ?_))))))))
      have th24 := H.thR 0 rfl hx13
      refine d_val rfl rfl rfl (fun w ⟨Ar, H⟩ => r_iaE (p := oOf A1 + i * 2) rfl sl23 rfl rfl (by omega) (by omega) th24 rfl) (d_val rfl rfl rfl (fun w ⟨Ar, H⟩ => r_fa rfl fo56_0 rfl) (d_val rfl rfl rfl (fun w ⟨Ar, H⟩ => r_ld rfl ty9 rfl (H.elR 0 rfl hx13 (q := 0) rfl rfl)) (d_1 rfl (d_1 rfl (d_val rfl rfl rfl (fun w ⟨Ar, H⟩ => r_cutS rfl sl75 rfl rfl (by omega) (by omega) rfl) ?_)))))
      refine d_both rfl rfl ?_ ?_
      ·replace H := H.newnil kStr
       refine s_appF (xs := []) (ys := (outL xs i).take k) rfl rfl rfl sl75 zr9 rfl (by decide) rfl rfl H (by first | omega | (simp only [List.length_append, List.length_cons, List.length_nil, List.length_take, List.length_drop]; omega)) (fun F hA hR => rsl_pre (own_rd F (hA _ (List.mem_of_getElem? (i := 0) rfl))) (i := k) (by omega)) (fun v25 w H => ?_)
       replace H := H.p1
       replace H : Hd _ _ _ [osl kStr (.slice A6 ((outL xs i).length) c7) (outL xs i), osl kStr v25 ([] ++ ((outL xs i).take k))] [rsl kPair (.slice A1 xs.length c2) xs] := H
       refine d_back ⟨_, H⟩ (d_main rfl (s_bsl (parts := [(0, .tmp 54)]) (vs := [.string x12.key]) (cs := [.string x12.key]) rfl rfl rfl sl75 zr9 rfl (by decide) (by decide) rfl rfl H (fun b26 w H => ?_)))
       replace H := H.p1
       replace H := H.h3 (A := osl kStr (.slice A6 ((outL xs i).length) c7) (outL xs i)) (B := blk b26 [.string x12.key] 9) (C := osl kStr v25 ([] ++ ((outL xs i).take k)))
       refine d_back ⟨_, H⟩ (d_main rfl ?_)
       replace H := H.p2
       refine s_appF (xs := [] ++ ((outL xs i).take k)) (ys := [x12.key]) rfl rfl rfl sl75 zr9 rfl (by decide) rfl rfl H (by first | omega | (simp only [List.length_append, List.length_cons, List.length_nil, List.length_take, List.length_drop]; omega)) (fun F hA hR => blk_rsl (hA _ (List.mem_of_getElem? (i := 1) rfl)) rfl (by decide) (RepsR.flat_eq.2 rfl)) (fun v27 w H => ?_)
       replace H := H.p1
       replace H := H.h2 (A := osl kStr (.slice A6 ((outL xs i).length) c7) (outL xs i)) (B := osl kStr v27 (([] ++ ((outL xs i).take k)) ++ [x12.key]))
       refine d_back ⟨_, H⟩ (d_main rfl ?_)
       replace H := H.p1
       refine s_appF (xs := ([] ++ ((outL xs i).take k)) ++ [x12.key]) (ys := (outL xs i).drop k) rfl rfl rfl sl75 zr9 rfl (by decide) rfl rfl H (by first | omega | (simp only [List.length_append, List.length_cons, List.length_nil, List.length_take, List.length_drop]; omega)) (fun F hA hR => rsl_suf (own_rd F (hA _ (List.mem_of_getElem? (i := 0) rfl))) (i := k) (by omega)) (fun v28 w H => ?_)
       replace H := H.p1
       replace H := H.h2 (A := osl kStr (.slice A6 ((outL xs i).length) c7) (outL xs i)) (B := osl kStr v28 ((([] ++ ((outL xs i).take k)) ++ [x12.key]) ++ ((outL xs i).drop k)))
       refine d_back ⟨_, H⟩ (d_1 rfl (d_nil (q_blockN (q_then (c_reg (s_1 rfl (s_val rfl rfl (r_add (z := ((i + 1 : Nat) : Int)) rfl rfl rfl (by rw [w64 (by omega) (by omega)]; omega)) (s_1 rfl (s_nil ?_)))))))))
       replace H := H.p1
       replace H := H.k1
       replace H : Hd w0 F0 w [osl kStr v28 (outL xs (i + 1))] [rsl kPair (.slice A1 xs.length c2) xs] := by rw [outL_step hx13, insK_put (k := k) (by omega) hn (.inr ⟨x15, hx16, h19, h23⟩)]; exact H
       exact q_round (s := (i, undef)) (i + 1, v28) ⟨rfl, rfl, rfl, rfl, trivial⟩ ⟨H, by (try dsimp only); omega⟩ (by (try dsimp only); omega)
      ·refine s_bsl (parts := [(0, .tmp 54)]) (vs := [.string x12.key]) (cs := [.string x12.key]) rfl rfl rfl sl75 zr9 rfl (by decide) (by decide) rfl rfl H (fun b29 w H => ?_)
       replace H := H.p1
       replace H : Hd _ _ _ [osl kStr (.slice A6 ((outL xs i).length) c7) (outL xs i), blk b29 [.string x12.key] 9] [rsl kPair (.slice A1 xs.length c2) xs] := H
       refine d_back ⟨_, H⟩ (d_main rfl ?_)
       replace H := H.newnil kStr
       refine s_appF (xs := []) (ys := (outL xs i).take k) rfl rfl rfl sl75 zr9 rfl (by decide) rfl rfl H (by first | omega | (simp only [List.length_append, List.length_cons, List.length_nil, List.length_take, List.length_drop]; omega)) (fun F hA hR => rsl_pre (own_rd F (hA _ (List.mem_of_getElem? (i := 0) rfl))) (i := k) (by omega)) (fun v30 w H => ?_)
       replace H := H.p1
       replace H : Hd _ _ _ [osl kStr (.slice A6 ((outL xs i).length) c7) (outL xs i), osl kStr v30 ([] ++ ((outL xs i).take k)), blk b29 [.string x12.key] 9] [rsl kPair (.slice A1 xs.length c2) xs] := H
       refine d_back ⟨_, H⟩ (d_main rfl ?_)
       replace H := H.p1
       refine s_appF (xs := [] ++ ((outL xs i).take k)) (ys := [x12.key]) rfl rfl rfl sl75 zr9 rfl (by decide) rfl rfl H (by first | omega | (simp only [List.length_append, List.length_cons, List.length_nil, List.length_take, List.length_drop]; omega)) (fun F hA hR => blk_rsl (hA _ (List.mem_of_getElem? (i := 1) rfl)) rfl (by decide) (RepsR.flat_eq.2 rfl)) (fun v31 w H => ?_)
       replace H := H.p1
       replace H := H.h2 (A := osl kStr (.slice A6 ((outL xs i).length) c7) (outL xs i)) (B := osl kStr v31 (([] ++ ((outL xs i).take k)) ++ [x12.key]))
       refine d_back ⟨_, H⟩ (d_main rfl ?_)
       replace H := H.p1
       refine s_appF (xs := ([] ++ ((outL xs i).take k)) ++ [x12.key]) (ys := (outL xs i).drop k) rfl rfl rfl sl75 zr9 rfl (by decide) rfl rfl H (by first | omega | (simp only [List.length_append, List.length_cons, List.length_nil, List.length_take, List.length_drop]; omega)) (fun F hA hR => rsl_suf (own_rd F (hA _ (List.mem_of_getElem? (i := 0) rfl))) (i := k) (by omega)) (fun v32 w H => ?_)
       replace H := H.p1
       replace H := H.h2 (A := osl kStr (.slice A6 ((outL xs i).length) c7) (outL xs i)) (B := osl kStr v32 ((([] ++ ((outL xs i).take k)) ++ [x12.key]) ++ ((outL xs i).drop k)))
       refine d_back ⟨_, H⟩ (d_1 rfl (d_nil (q_blockN (q_then (c_reg (s_1 rfl (s_val rfl rfl (r_add (z := ((i + 1 : Nat) : Int)) rfl rfl rfl (by rw [w64 (by omega) (by omega)]; omega)) (s_1 rfl (s_nil ?_)))))))))
       replace H := H.p1
       replace H := H.k1
       replace H : Hd w0 F0 w [osl kStr v32 (outL xs (i + 1))] [rsl kPair (.slice A1 xs.length c2) xs] := by rw [outL_step hx13, insK_put (k := k) (by omega) hn (.inr ⟨x15, hx16, h19, h23⟩)]; exact H
       exact q_round (s := (i, undef)) (i + 1, v32) ⟨rfl, rfl, rfl, rfl, trivial⟩ ⟨H, by (try dsimp only); omega⟩ (by (try dsimp only); omega)
    ·exfalso; omega
  ·refine u_k 11 rfl (u_end (fun w H => (q_then (c_no rfl (c_exit (q_thenE (q_thenE (q_blockE (q_then (c_seq (c_seq (c_draw mo (by kernel_rfl) H (u_k 2 rfl (u_val rfl rfl (fun w H => r_lenL rfl un75 rfl) (u_val rfl rfl (fun w H => r_lt rfl rfl rfl) (u_1 rfl ?_))))))))))))))))
   refine u_dec (d := 34) (p := ((k : Nat) : Int) < (((outL xs i).length : Nat) : Int)) rfl (fun h33 => ?_) (fun h33 => ?_)
   ·exfalso; omega
   ·refine u_k 11 rfl (u_end (fun w H => (q_then (c_no rfl (c_skip (q_then (c_ord (.e 0 (.e 1 (.e 2 (.e 4 (.e 5 (.e 6 (.e 7 (.e 8 (.e 11 (.e 12 (.e 13 (.b 3 9 (.m 9 (.m 10 (.m 14 (.e 15 .z)))) (.m 3 (.m 10 (.m 14 (.e 15 .z)))))))))))))))) (fun w => ∃ Ar, Hd w0 F0 w (osl kStr (.slice A6 ((outL xs i).length) c7) (outL xs i) :: Ar) [rsl kPair (.slice A1 xs.length c2) xs]) mo (by kernel_rfl) (fun w H => ⟨_, H⟩) H (fun w H => (d_1 rfl (d_1 rfl (d_val rfl rfl rfl (fun w ⟨Ar, H⟩ => r_cutP rfl sl75 rfl rfl (by omega) (by omega) rfl) (d_1 rfl (d_1 rfl ?_)))))))))))))
    have th34 := H.thR 0 rfl hx13
    refine d_val rfl rfl rfl (fun w ⟨Ar, H⟩ => r_iaE (p := oOf A1 + i * 2) rfl sl23 rfl rfl (by omega) (by omega) th34 rfl) (d_val rfl rfl rfl (fun w ⟨Ar, H⟩ => r_fa rfl fo56_0 rfl) (d_val rfl rfl rfl (fun w ⟨Ar, H⟩ => r_ld rfl ty9 rfl (H.elR 0 rfl hx13 (q := 0) rfl rfl)) (d_1 rfl (d_1 rfl (d_val rfl rfl rfl (fun w ⟨Ar, H⟩ => r_cutS rfl sl75 rfl rfl (by omega) (by omega) rfl) ?_)))))
    refine d_both rfl rfl ?_ ?_
    ·replace H := H.newnil kStr
     refine s_appF (xs := []) (ys := (outL xs i).take k) rfl rfl rfl sl75 zr9 rfl (by decide) rfl rfl H (by first | omega | (simp only [List.length_append, List.length_cons, List.length_nil, List.length_take, List.length_drop]; omega)) (fun F hA hR => rsl_pre (own_rd F (hA _ (List.mem_of_getElem? (i := 0) rfl))) (i := k) (by omega)) (fun v35 w H => ?_)
     replace H := H.p1
     replace H : Hd _ _ _ [osl kStr (.slice A6 ((outL xs i).length) c7) (outL xs i), osl kStr v35 ([] ++ ((outL xs i).take k))] [rsl kPair (.slice A1 xs.length c2) xs] := H
     refine d_back ⟨_, H⟩ (d_main rfl (s_bsl (parts := [(0, .tmp 54)]) (vs := [.string x12.key]) (cs := [.string x12.key]) rfl rfl rfl sl75 zr9 rfl (by decide) (by decide) rfl rfl H (fun b36 w H => ?_)))
     replace H := H.p1
     replace H := H.h3 (A := osl kStr (.slice A6 ((outL xs i).length) c7) (outL xs i)) (B := blk b36 [.string x12.key] 9) (C := osl kStr v35 ([] ++ ((outL xs i).take k)))
     refine d_back ⟨_, H⟩ (d_main rfl ?_)
     replace H := H.p2
     refine s_appF (xs := [] ++ ((outL xs i).take k)) (ys := [x12.key]) rfl rfl rfl sl75 zr9 rfl (by decide) rfl rfl H (by first | omega | (simp only [List.length_append, List.length_cons, List.length_nil, List.length_take, List.length_drop]; omega)) (fun F hA hR => blk_rsl (hA _ (List.mem_of_getElem? (i := 1) rfl)) rfl (by decide) (RepsR.flat_eq.2 rfl)) (fun v37 w H => ?_)
     replace H := H.p1
     replace H := H.h2 (A := osl kStr (.slice A6 ((outL xs i).length) c7) (outL xs i)) (B := osl kStr v37 (([] ++ ((outL xs i).take k)) ++ [x12.key]))
     refine d_back ⟨_, H⟩ (d_main rfl ?_)
     replace H := H.p1
     refine s_appF (xs := ([] ++ ((outL xs i).take k)) ++ [x12.key]) (ys := (outL xs i).drop k) rfl rfl rfl sl75 zr9 rfl (by decide) rfl rfl H (by first | omega | (simp only [List.length_append, List.length_cons, List.length_nil, List.length_take, List.length_drop]; omega)) (fun F hA hR => rsl_suf (own_rd F (hA _ (List.mem_of_getElem? (i := 0) rfl))) (i := k) (by omega)) (fun v38 w H => ?_)
     replace H := H.p1
     replace H := H.h2 (A := osl kStr (.slice A6 ((outL xs i).length) c7) (outL xs i)) (B := osl kStr v38 ((([] ++ ((outL xs i).take k)) ++ [x12.key]) ++ ((outL xs i).drop k)))
     refine d_back ⟨_, H⟩ (d_1 rfl (d_nil (q_blockN (q_then (c_reg (s_1 rfl (s_val rfl rfl (r_add (z := ((i + 1 : Nat) : Int)) rfl rfl rfl (by rw [w64 (by omega) (by omega)]; omega)) (s_1 rfl (s_nil ?_)))))))))
     replace H := H.p1
     replace H := H.k1
     replace H : Hd w0 F0 w [osl kStr v38 (outL xs (i + 1))] [rsl kPair (.slice A1 xs.length c2) xs] := by rw [outL_step hx13, insK_put (k := k) (by omega) hn (.inl (by omega))]; exact H
     exact q_round (s := (i, undef)) (i + 1, v38) ⟨rfl, rfl, rfl, rfl, trivial⟩ ⟨H, by (try dsimp only); omega⟩ (by (try dsimp only); omega)
    ·refine s_bsl (parts := [(0, .tmp 54)]) (vs := [.string x12.key]) (cs := [.string x12.key]) rfl rfl rfl sl75 zr9 rfl (by decide) (by decide) rfl rfl H (fun b39 w H => ?_)
     replace H := H.p1
     replace H : Hd _ _ _ [osl kStr (.slice A6 ((outL xs i).length) c7) (outL xs i), blk b39 [.string x12.key] 9] [rsl kPair (.slice A1 xs.length c2) xs] := H
     refine d_back ⟨_, H⟩ (d_main rfl ?_)
     replace H := H.newnil kStr
     refine s_appF (xs := []) (ys := (outL xs i).take k) rfl rfl rfl sl75 zr9 rfl (by decide) rfl rfl H (by first | omega | (simp only [List.length_append, List.length_cons, List.length_nil, List.length_take, List.length_drop]; omega)) (fun F hA hR => rsl_pre (own_rd F (hA _ (List.mem_of_getElem? (i := 0) rfl))) (i := k) (by omega)) (fun v40 w H => ?_)
     replace H := H.p1
     replace H : Hd _ _ _ [osl kStr (.slice A6 ((outL xs i).length) c7) (outL xs i), osl kStr v40 ([] ++ ((outL xs i).take k)), blk b39 [.string x12.key] 9] [rsl kPair (.slice A1 xs.length c2) xs] := H
     refine d_back ⟨_, H⟩ (d_main rfl ?_)
     replace H := H.p1
     refine s_appF (xs := [] ++ ((outL xs i).take k)) (ys := [x12.key]) rfl rfl rfl sl75 zr9 rfl (by decide) rfl rfl H (by first | omega | (simp only [List.length_append, List.length_cons, List.length_nil, List.length_take, List.length_drop]; omega)) (fun F hA hR => blk_rsl (hA _ (List.mem_of_getElem? (i := 1) rfl)) rfl (by decide) (RepsR.flat_eq.2 rfl)) (fun v41 w H => ?_)
     replace H := H.p1
     replace H := H.h2 (A := osl kStr (.slice A6 ((outL xs i).length) c7) (outL xs i)) (B := osl kStr v41 (([] ++ ((outL xs i).take k)) ++ [x12.key]))
     refine d_back ⟨_, H⟩ (d_main rfl ?_)
     replace H := H.p1
     refine s_appF (xs := ([] ++ ((outL xs i).take k)) ++ [x12.key]) (ys := (outL xs i).drop k) rfl rfl rfl sl75 zr9 rfl (by decide) rfl rfl H (by first | omega | (simp only [List.length_append, List.length_cons, List.length_nil, List.length_take, List.length_drop]; omega)) (fun F hA hR => rsl_suf (own_rd F (hA _ (List.mem_of_getElem? (i := 0) rfl))) (i := k) (by omega)) (fun v42 w H => ?_)
     replace H := H.p1
     replace H := H.h2 (A := osl kStr (.slice A6 ((outL xs i).length) c7) (outL xs i)) (B := osl kStr v42 ((([] ++ ((outL xs i).take k)) ++ [x12.key]) ++ ((outL xs i).drop k)))
     refine d_back ⟨_, H⟩ (d_1 rfl (d_nil (q_blockN (q_then (c_reg (s_1 rfl (s_val rfl rfl (r_add (z := ((i + 1 : Nat) : Int)) rfl rfl rfl (by rw [w64 (by omega) (by omega)]; omega)) (s_1 rfl (s_nil ?_)))))))))
     replace H := H.p1
     replace H := H.k1
     replace H : Hd w0 F0 w [osl kStr v42 (outL xs (i + 1))] [rsl kPair (.slice A1 xs.length c2) xs] := by rw [outL_step hx13, insK_put (k := k) (by omega) hn (.inl (by omega))]; exact H
     exact q_round (s := (i, undef)) (i + 1, v42) ⟨rfl, rfl, rfl, rfl, trivial⟩ ⟨H, by (try dsimp only); omega⟩ (by (try dsimp only); omega)
 ·refine c_exit (q_thenE (q_thenE (q_blockE (q_then (c_seq (c_reg (s_k 2 rfl (s_nil (q_then (c_ret (q_ret1 rfl rfl ?_)))))))))))
  have e : outL xs i = refK [] (xs.map (·.key)) := by unfold outL; rw [List.take_of_length_le (by omega)]
  replace H : Hd w0 F0 w [osl kStr (.slice A6 ((outL xs i).length) c7) (refK [] (xs.map (·.key)))] [rsl kPair (.slice A1 xs.length c2) xs] := by rw [← e]; exact H
  exact fin rfl H
set_option maxHeartbeats 1000000 in
theorem rSort_ok (vxs : Value) (xs : List Pair) (hb : xs.length ≤ 1000000) :
    Cn Tryz.prog 65 [vxs] [] [rsl kPair vxs xs] (fun v Bs => Bs = [osl kPair v (srt xs)]) := by
 intro w0 F0 H
 obtain ⟨A1, c2, rfl, hc3, hm4, hp5⟩ := H.fR 0 rfl
 refine enter (args := [.slice A1 xs.length c2]) Tryz.func65 rfl rfl (Nat.le_of_ble_eq_true rfl) (c_seq (c_reg (s_1 rfl (s_nil (q_then ?_)))))
 replace H : Hd _ _ _ [] [rsl kPair (.slice A1 xs.length c2) xs] := H
 refine c_seq (c_reg (s_1 rfl (s_nil (q_then (c_seq (c_reg (s_1 rfl (sc (rKeys_ok (.slice A1 xs.length c2) xs (by first | omega | decide)) H (lR 0 rfl l0) rfl rfl (e_fn kn81 rfl rfl) ?_))))))))
 rintro v6 _ w rfl H
 refine s_1 rfl (s_nil (q_then ?_))
 replace H := H.h1 (A := osl kStr v6 (refK [] (xs.map (·.key))))
 refine c_seq (c_seq (c_reg (s_1 rfl (s_nil (q_then (c_block ?_))))))
 replace H := H.newnil kPair
 refine c_loop (σ := Nat × Value) (fun (i, l) => [(0, .slice A1 xs.length c2), (2, .slice none 0 0), (3, l), (4, v6), (5, .int .i64 ((i : Nat) : Int))]) (fun (i, l) w => (Hd w0 F0 w [osl kPair l (flatP xs ((refK [] (xs.map (·.key))).take i)), osl kStr v6 (refK [] (xs.map (·.key)))] [rsl kPair (.slice A1 xs.length c2) xs]) ∧ (i ≤ (refK [] (xs.map (·.key))).length)) (fun (i, l) => (refK [] (xs.map (·.key))).length - i) (0, .slice none 0 0) ⟨rfl, rfl, rfl, rfl, rfl, trivial⟩ ⟨H, by (try dsimp only); omega⟩ ?_
 rintro ⟨i, l⟩ w ⟨H, hi⟩
 have hfl := flatP_len xs i
 refine c_seq (c_seq (c_reg (s_k 2 rfl ?_)))
 obtain ⟨A7, c8, rfl, hc9, hm10, hp11⟩ := H.fA 1 rfl
 refine s_val rfl rfl (r_lenL rfl un75 rfl) (s_val rfl rfl (r_lt rfl rfl rfl) (s_nil (q_then ?_)))
 replace H : Hd _ _ _ [osl kPair l (flatP xs ((refK [] (xs.map (·.key))).take i)), osl kStr (.slice A7 ((refK [] (xs.map (·.key))).length) c8) (refK [] (xs.map (·.key)))] [rsl kPair (.slice A1 xs.length c2) xs] := H
 refine c_dec (p := ((i : Nat) : Int) < (((refK [] (xs.map (·.key))).length : Nat) : Int)) rfl (fun h12 => ?_) (fun h12 => ?_)
 ·refine c_skip (q_then (c_seq (c_block (c_seq (c_reg (s_k 3 rfl ?_))))))
  obtain ⟨x13, hx14⟩ : ∃ z9, (refK [] (xs.map (·.key)))[i]? = some z9 := ⟨_, List.getElem?_eq_getElem (show i < (refK [] (xs.map (·.key))).length by omega)⟩
  have th15 := H.thA 1 rfl hx14
  refine s_val rfl rfl (r_iaE (p := oOf A7 + i * 1) rfl sl75 rfl rfl (by omega) (by omega) th15 rfl) (s_val rfl rfl (r_ld rfl ty9 rfl (H.elA 1 rfl hx14 (q := 0) rfl rfl)) (sc (rOf_ok (.slice A1 xs.length c2) xs x13 (by first | omega | decide)) H (lR 0 rfl l0) rfl rfl (e_fn kn83 rfl rfl) ?_))
  rintro v16 _ w rfl H
  refine s_1 rfl (s_nil (q_then ?_))
  replace H := H.h1 (A := osl kStr v16 (ofL xs x13))
  refine c_seq (c_reg (s_1 rfl (s_nil (q_then (c_block ?_)))))
  obtain ⟨A17, c18, rfl, hc19, hm20, hp21⟩ := H.fA 0 rfl
  have hpl := flatP_len xs (i + 1)
  rw [flatP_step hx14, List.length_append, pairsOf_len] at hpl
  replace H := H.p1
  replace H : Hd w0 F0 w [osl kPair l (flatP xs ((refK [] (xs.map (·.key))).take i) ++ (pairsOf xs x13).take 0), osl kStr (.slice A17 ((ofL xs x13).length) c18) (ofL xs x13), osl kStr (.slice A7 ((refK [] (xs.map (·.key))).length) c8) (refK [] (xs.map (·.key)))] [rsl kPair (.slice A1 xs.length c2) xs] := by rw [List.take_zero, List.append_nil]; exact H
  replace H := H.p1
  replace H := H.p2
  replace H := H.p2
  refine c_loop (σ := Nat × Value) (fun (k, q) => [(0, .slice A1 xs.length c2), (2, .slice none 0 0), (3, q), (4, .slice A7 ((refK [] (xs.map (·.key))).length) c8), (5, .int .i64 ((i : Nat) : Int)), (6, .slice A17 ((ofL xs x13).length) c18), (7, .int .i64 ((k : Nat) : Int))]) (fun (k, q) w => (Hd w0 F0 w [osl kPair q (flatP xs ((refK [] (xs.map (·.key))).take i) ++ (pairsOf xs x13).take k), osl kStr (.slice A7 ((refK [] (xs.map (·.key))).length) c8) (refK [] (xs.map (·.key))), osl kStr (.slice A17 ((ofL xs x13).length) c18) (ofL xs x13)] [rsl kPair (.slice A1 xs.length c2) xs]) ∧ (k ≤ (ofL xs x13).length)) (fun (k, q) => (ofL xs x13).length - k) (0, l) ⟨rfl, rfl, rfl, rfl, rfl, rfl, rfl, trivial⟩ ⟨H, by (try dsimp only); omega⟩ ?_
  rintro ⟨k, q⟩ w ⟨H, hk⟩
  have hpt : ((pairsOf xs x13).take k).length ≤ k := by simp; omega
  have hpa : (flatP xs ((refK [] (xs.map (·.key))).take i) ++ (pairsOf xs x13).take k).length = (flatP xs ((refK [] (xs.map (·.key))).take i)).length + ((pairsOf xs x13).take k).length := List.length_append
  refine c_seq (c_seq (c_reg (s_k 2 rfl (s_val rfl rfl (r_lenL rfl un75 rfl) (s_val rfl rfl (r_lt rfl rfl rfl) (s_nil (q_then ?_)))))))
  refine c_dec (p := ((k : Nat) : Int) < (((ofL xs x13).length : Nat) : Int)) rfl (fun h22 => ?_) (fun h22 => ?_)
  ·refine c_skip (q_then (c_seq (c_block ?_)))
   replace H := H.p2
   replace H := H.p2
   replace H := H.h3 (A := osl kStr (.slice A7 ((refK [] (xs.map (·.key))).length) c8) (refK [] (xs.map (·.key)))) (B := osl kStr (.slice A17 ((ofL xs x13).length) c18) (ofL xs x13)) (C := osl kPair q (flatP xs ((refK [] (xs.map (·.key))).take i) ++ (pairsOf xs x13).take k))
   refine c_ord (.e 0 (.e 1 (.e 2 (.e 3 (.e 4 (.e 5 (.e 6 (.e 7 (.e 8 (.e 9 (.m 10 (.m 11 (.e 12 .z))))))))))))) (fun w => ∃ Ar, Hd w0 F0 w (osl kStr (.slice A7 ((refK [] (xs.map (·.key))).length) c8) (refK [] (xs.map (·.key))) :: osl kStr (.slice A17 ((ofL xs x13).length) c18) (ofL xs x13) :: Ar) [rsl kPair (.slice A1 xs.length c2) xs]) mo (by kernel_rfl) (fun w H => ⟨_, H⟩) H (fun w H => (d_1 rfl (d_1 rfl (d_1 rfl ?_))))
   have th23 := H.thA 0 rfl hx14
   refine d_val rfl rfl rfl (fun w ⟨Ar, H⟩ => r_iaE (p := oOf A7 + i * 1) rfl sl75 rfl rfl (by omega) (by omega) th23 rfl) (d_val rfl rfl rfl (fun w ⟨Ar, H⟩ => r_ld rfl ty9 rfl (H.elA 0 rfl hx14 (q := 0) rfl rfl)) (d_1 rfl (d_1 rfl ?_)))
   obtain ⟨x24, hx25⟩ : ∃ z9, (ofL xs x13)[k]? = some z9 := ⟨_, List.getElem?_eq_getElem (show k < (ofL xs x13).length by omega)⟩
   have th26 := H.thA 1 rfl hx25
   refine d_val rfl rfl rfl (fun w ⟨Ar, H⟩ => r_iaE (p := oOf A17 + k * 1) rfl sl75 rfl rfl (by omega) (by omega) th26 rfl) (d_val rfl rfl rfl (fun w ⟨Ar, H⟩ => r_ld rfl ty9 rfl (H.elA 1 rfl hx25 (q := 0) rfl rfl)) (d_val rfl rfl rfl (fun w ⟨Ar, H⟩ => r_bd (parts := [(0, .tmp 32), (1, .tmp 36)]) (vs := [.string x13, .string x24]) (cs := [.string x13, .string x24]) rfl bd56 rfl rfl) (d_main rfl (s_bsl (parts := [(0, .tmp 37)]) (vs := [.agg #[.string x13, .string x24]]) (cs := [.string x13, .string x24]) rfl rfl rfl sl23 zr56 rfl (by decide) (by decide) rfl rfl H (fun b27 w H => ?_)))))
   replace H := H.p2
   replace H := H.p2
   replace H := H.h4 (A := osl kStr (.slice A7 ((refK [] (xs.map (·.key))).length) c8) (refK [] (xs.map (·.key)))) (B := osl kStr (.slice A17 ((ofL xs x13).length) c18) (ofL xs x13)) (C := blk b27 [.string x13, .string x24] 56) (D := osl kPair q (flatP xs ((refK [] (xs.map (·.key))).take i) ++ (pairsOf xs x13).take k))
   refine d_back ⟨_, H⟩ (d_main rfl ?_)
   replace H := H.p3
   refine s_appF (xs := flatP xs ((refK [] (xs.map (·.key))).take i) ++ (pairsOf xs x13).take k) (ys := [(⟨x13, x24⟩ : Pair)]) rfl rfl rfl sl23 zr56 rfl (by decide) rfl rfl H (by omega) (fun F hA hR => blk_rsl (hA _ (List.mem_of_getElem? (i := 2) rfl)) rfl (by decide) (RepsR.flat_eq.2 rfl)) (fun v28 w H => ?_)
   replace H := H.p2
   replace H := H.p2
   replace H := H.h3 (A := osl kStr (.slice A7 ((refK [] (xs.map (·.key))).length) c8) (refK [] (xs.map (·.key)))) (B := osl kStr (.slice A17 ((ofL xs x13).length) c18) (ofL xs x13)) (C := osl kPair v28 ((flatP xs ((refK [] (xs.map (·.key))).take i) ++ (pairsOf xs x13).take k) ++ [(⟨x13, x24⟩ : Pair)]))
   refine d_back ⟨_, H⟩ (d_1 rfl (d_nil (q_blockN (q_then (c_reg (s_1 rfl (s_val rfl rfl (r_add (z := ((k + 1 : Nat) : Int)) rfl rfl rfl (by rw [w64 (by omega) (by omega)]; omega)) (s_1 rfl (s_nil ?_)))))))))
   replace H := H.p2
   replace H := H.k3
   replace H : Hd w0 F0 w [osl kPair v28 (flatP xs ((refK [] (xs.map (·.key))).take i) ++ (pairsOf xs x13).take (k + 1)), osl kStr (.slice A7 ((refK [] (xs.map (·.key))).length) c8) (refK [] (xs.map (·.key))), osl kStr (.slice A17 ((ofL xs x13).length) c18) (ofL xs x13)] [rsl kPair (.slice A1 xs.length c2) xs] := by rw [pairsOf_step hx25, ← List.append_assoc]; exact H
   exact q_round (s := (k, undef)) (k + 1, v28) ⟨rfl, rfl, rfl, rfl, rfl, rfl, rfl, trivial⟩ ⟨H, by (try dsimp only); omega⟩ (by (try dsimp only); omega)
  ·refine c_exit (q_thenE (q_thenE (q_blockE (q_blockN (q_then (c_reg (s_1 rfl (s_val rfl rfl (r_add (z := ((i + 1 : Nat) : Int)) rfl rfl rfl (by rw [w64 (by omega) (by omega)]; omega)) (s_1 rfl (s_nil ?_))))))))))
   replace H := H.k2
   replace H : Hd w0 F0 w [osl kPair q (flatP xs ((refK [] (xs.map (·.key))).take (i + 1))), osl kStr (.slice A7 ((refK [] (xs.map (·.key))).length) c8) (refK [] (xs.map (·.key)))] [rsl kPair (.slice A1 xs.length c2) xs] := by rw [flatP_step hx14]; rw [pairsOf_all (by omega)] at H; exact H
   exact q_round (s := (i, undef)) (i + 1, q) ⟨rfl, rfl, rfl, rfl, rfl, trivial⟩ ⟨H, by (try dsimp only); omega⟩ (by (try dsimp only); omega)
 ·refine c_exit (q_thenE (q_thenE (q_blockE (q_then (c_seq (c_reg (s_k 2 rfl (s_nil (q_then (c_ret (q_ret1 rfl rfl ?_)))))))))))
  replace H := H.k1
  replace H : Hd w0 F0 w [osl kPair l (srt xs)] [rsl kPair (.slice A1 xs.length c2) xs] := by rw [List.take_of_length_le (show (refK [] (xs.map (·.key))).length ≤ i by omega), flat_srt] at H; exact H
  exact fin rfl H
end Go.Proofs.YtlpgdkbokakniaaGreatDoor.X

set_option linter.unusedVariables false
set_option linter.unusedSimpArgs false
namespace Go.Proofs.YtlpgdkbokakniaaGreatDoor.X
open Go
set_option maxHeartbeats 1000000 in
theorem eachF_ok (x : Pair) (kb : Nat) (key : ByteArray) :
    Cn Tryz.prog 57 [.agg #[.string x.key, .string x.val], .pointer (some ⟨kb, 0, none⟩)] [] [blk kb [.string key] 9] (fun v Bs => v = .bool (decide (x.key ≠ key)) ∧ Bs = []) := by
 intro w0 F0 H
 refine enter (args := [.agg #[.string x.key, .string x.val], .pointer (some ⟨kb, 0, none⟩)]) Tryz.func57 rfl rfl (Nat.le_of_ble_eq_true rfl) (c_seq (c_reg (s_box rfl rfl rfl rfl H (fun b1 w H => (s_1 rfl (s_nil (q_then ?_)))))))
 replace H : Hd _ _ _ [blk b1 [.string x.key, .string x.val] 56] [blk kb [.string key] 9] := H
 refine c_seq (c_reg (s_val rfl rfl (r_fa rfl fo56_0 rfl) (s_val rfl rfl (r_ld rfl ty9 rfl (H.cellI 0 rfl rfl)) (s_val rfl rfl (r_ld rfl ty9 rfl (H.cellRI 0 rfl rfl)) (s_val rfl rfl (r_neS rfl rfl rfl) (s_1 rfl (s_nil (q_then (c_ret (q_ret1 rfl rfl ?_))))))))))
 replace H := H.keep 0
 exact fin ⟨rfl, rfl⟩ H
set_option maxHeartbeats 4000000 in
theorem each_ok (vp : Value) (p : List Ins) (vps : Value) (ps : List Pair) (fuel : Int) (own : Bool) (hpa : ∀ i ∈ p, In64 i.a) (hfu : In64 fuel) (hb : ps.length ≤ 1000000) :
    Cn Tryz.prog 32 [vp, vps, .int .i64 fuel, .bool own] [] [rsl kIns vp p, rsl kPair vps ps, gl] (fun v Bs => ∃ u, v = .tuple #[u, .int .i64 (eachM dg p ps fuel own).2] ∧ Bs = [osl kPair u (eachM dg p ps fuel own).1]) := by
 intro w0 F0 H
 obtain ⟨A1, c2, rfl, hc3, hm4, hp5⟩ := H.fR 0 rfl
 obtain ⟨A6, c7, rfl, hc8, hm9, hp10⟩ := H.fR 1 rfl
 refine enter (args := [.slice A1 p.length c2, .slice A6 ps.length c7, .int .i64 fuel, .bool own]) Tryz.func32 rfl rfl (Nat.le_of_ble_eq_true rfl) (c_seq (c_reg (s_k 2 rfl (s_nil (q_then ?_)))))
 replace H : Hd _ _ _ [] [rsl kIns (.slice A1 p.length c2) p, rsl kPair (.slice A6 ps.length c7) ps, gl] := H
 refine c_seq (c_reg (s_1 rfl (s_nil (q_then (c_seq (c_reg (sc tallyNew_ok H l0 rfl rfl (e_fn kn52 rfl rfl) ?_)))))))
 rintro _ _ w ⟨b11, rfl, rfl⟩ H
 refine s_1 rfl (s_nil (q_then ?_))
 replace H := H.h1 (A := blk b11 [.int .i64 0, .int .i64 0, .int .i64 0, .int .i64 0, .int .i64 0, .int .i64 0, .int .i64 0, .int .i64 0] 96)
 refine c_seq (c_seq (c_reg (s_1 rfl (sc (pKeys_ok (.slice A6 ps.length c7) ps (by first | omega | decide)) H (lR 1 rfl l0) rfl rfl (e_fn kn53 rfl rfl) ?_))))
 rintro v12 _ w rfl H
 obtain ⟨A13, c14, rfl, hc15, hm16, hp17⟩ := H.fA 0 rfl
 refine s_val rfl rfl (r_lenL rfl un75 rfl) (s_1 rfl (s_nil (q_then ?_)))
 replace H := H.h1 (A := osl kStr (.slice A13 ((keysL ps).length) c14) (keysL ps))
 refine c_block ?_
 replace H := H.newnil kPair
 refine c_loop (σ := Nat × Value × List Pair) (fun (i, q, out) => [(0, .slice A1 p.length c2), (1, .slice A6 ps.length c7), (2, .int .i64 fuel), (3, .bool own), (10, q), (11, .pointer (some ⟨b11, 0, none⟩)), (18, .slice A13 ((keysL ps).length) c14), (19, .int .i64 (((keysL ps).length : Nat) : Int)), (20, .int .i64 ((i : Nat) : Int))]) (fun (i, q, out) w => (Hd w0 F0 w [osl kPair q out, osl kStr (.slice A13 ((keysL ps).length) c14) (keysL ps), blk b11 [.int .i64 (out.length : Int), .int .i64 0, .int .i64 0, .int .i64 0, .int .i64 0, .int .i64 0, .int .i64 0, .int .i64 0] 96] [rsl kIns (.slice A1 p.length c2) p, rsl kPair (.slice A6 ps.length c7) ps, gl]) ∧ (i ≤ (keysL ps).length) ∧ (eachGo dg p ps fuel own ((keysL ps).drop i) out = eachM dg p ps fuel own) ∧ (out.length ≤ 40)) (fun (i, q, out) => (keysL ps).length - i) (0, .slice none 0 0, []) ⟨rfl, rfl, rfl, rfl, rfl, rfl, rfl, rfl, rfl, trivial⟩ ⟨H, Nat.zero_le _, rfl, Nat.zero_le _⟩ ?_
 rintro ⟨i, q, out⟩ w ⟨H, hi, hgo, ho⟩
 have hkl := keysL_len ps
 refine c_seq (c_reg (s_val rfl rfl (r_lt rfl rfl rfl) (s_nil (q_then (c_seq ?_)))))
 refine c_dec (p := ((i : Nat) : Int) < (((keysL ps).length : Nat) : Int)) rfl (fun h18 => ?_) (fun h18 => ?_)
 ·refine c_skip (q_then (c_seq (c_block (c_seq (c_reg ?_)))))
  obtain ⟨x19, hx20⟩ : ∃ z9, (keysL ps)[i]? = some z9 := ⟨_, List.getElem?_eq_getElem (show i < (keysL ps).length by omega)⟩
  have th21 := H.thA 1 rfl hx20
  refine s_val rfl rfl (r_iaE (p := oOf A13 + i * 1) rfl sl75 rfl rfl (by omega) (by omega) th21 rfl) (s_val rfl rfl (r_ld rfl ty9 rfl (H.elA 1 rfl hx20 (q := 0) rfl rfl)) (s_alloc rfl rfl rfl zr9 H (fun b22 w H => (s_st rfl rfl rfl ty9 rfl rfl H rfl (Nat.le_of_ble_eq_true rfl) (fun u hu => by simp [Value.cells] at hu; subst hu; rfl) (fun w H => ?_)))))
  replace H : Hd _ _ _ [blk b22 [.string x19] 9, osl kPair q out, osl kStr (.slice A13 ((keysL ps).length) c14) (keysL ps), blk b11 [.int .i64 (out.length : Int), .int .i64 0, .int .i64 0, .int .i64 0, .int .i64 0, .int .i64 0, .int .i64 0, .int .i64 0] 96] [rsl kIns (.slice A1 p.length c2) p, rsl kPair (.slice A6 ps.length c7) ps, gl] := H
  refine s_nil (q_then (c_seq (c_ord (.e 0 (.e 1 (.e 2 (.e 3 (.e 5 (.m 4 (.m 6 (.e 7 (.e 8 (.e 9 (.e 10 (.e 11 .z)))))))))))) (fun w => ∃ Ar, Hd w0 F0 w (blk b22 [.string x19] 9 :: osl kPair q out :: osl kStr (.slice A13 ((keysL ps).length) c14) (keysL ps) :: blk b11 [.int .i64 (out.length : Int), .int .i64 0, .int .i64 0, .int .i64 0, .int .i64 0, .int .i64 0, .int .i64 0, .int .i64 0] 96 :: Ar) [rsl kIns (.slice A1 p.length c2) p, rsl kPair (.slice A6 ps.length c7) ps, gl]) mo (by kernel_rfl) (fun w H => ⟨_, H⟩) H (fun w H => (d_1 rfl (d_val rfl rfl rfl (fun w ⟨Ar, H⟩ => r_ld rfl ty9 rfl (H.cellI 0 rfl rfl)) (d_1 rfl (d_val rfl rfl rfl (fun w ⟨Ar, H⟩ => r_ld rfl ty9 rfl (H.cellI 0 rfl rfl)) (d_1 rfl (d_main rfl (sc (pOf_ok (.slice A6 ps.length c7) ps x19 (by first | omega | decide)) H (lR 1 rfl l0) rfl rfl (e_fn kn55 rfl rfl) ?_)))))))))))
  rintro v23 _ w rfl H
  replace H := H.p4
  replace H := H.p4
  replace H := H.p4
  replace H := H.p4
  replace H : Hd _ _ _ [blk b22 [.string x19] 9, osl kPair q out, osl kStr (.slice A13 ((keysL ps).length) c14) (keysL ps), blk b11 [.int .i64 (out.length : Int), .int .i64 0, .int .i64 0, .int .i64 0, .int .i64 0, .int .i64 0, .int .i64 0, .int .i64 0] 96, osl kStr v23 (ofL ps x19)] [rsl kIns (.slice A1 p.length c2) p, rsl kPair (.slice A6 ps.length c7) ps, gl] := H
  refine d_back ⟨_, H⟩ (d_main rfl (sc (vmRun_ok (.slice A1 p.length c2) p x19 v23 (ofL ps x19) fuel hpa hfu) H (lR 0 rfl (lA 4 rfl own_rd (lR 2 rfl l0))) rfl rfl (e_fn kn54 rfl rfl) ?_))
  rintro _ _ w ⟨u24, rfl, rfl⟩ H
  have hrt := run_told dg p x19 (ofL ps x19) fuel
  replace H := H.p4
  replace H := H.p4
  replace H := H.p4
  replace H := H.p4
  replace H : Hd _ _ _ [blk b22 [.string x19] 9, osl kPair q out, osl kStr (.slice A13 ((keysL ps).length) c14) (keysL ps), blk b11 [.int .i64 (out.length : Int), .int .i64 0, .int .i64 0, .int .i64 0, .int .i64 0, .int .i64 0, .int .i64 0, .int .i64 0] 96, osl kPair u24 ((runM dg p x19 (ofL ps x19) fuel).1), osl kStr v23 (ofL ps x19)] [rsl kIns (.slice A1 p.length c2) p, rsl kPair (.slice A6 ps.length c7) ps, gl] := H
  refine d_back ⟨_, H⟩ (d_1 rfl (d_1 rfl (d_1 rfl (d_1 rfl (d_1 rfl (d_nil (q_then (c_seq (c_block (c_seq (c_reg (s_1 rfl (s_val rfl rfl (r_ne rfl rfl rfl) (s_1 rfl (s_nil (q_then ?_))))))))))))))))
  refine c_dec (p := ((runM dg p x19 (ofL ps x19) fuel).2) ≠ 0) rfl (fun h25 => ?_) (fun h25 => ?_)
  ·refine c_seq (c_reg (s_k 3 rfl (s_nil (q_then (c_ret (q_blockR (q_thenR (q_blockR (q_thenR (q_thenR (q_blockR (q_thenR (q_ret2 rfl rfl rfl ?_)))))))))))))
   have e : eachM dg p ps fuel own = ([], (runM dg p x19 (ofL ps x19) fuel).2) := hgo.symm.trans (go_why hx20 h25)
   replace H := H.keep 0
   replace H := H.newnil kPair
   replace H : Hd _ _ _ [osl kPair (.slice none 0 0) []] [rsl kIns (.slice A1 p.length c2) p, rsl kPair (.slice A6 ps.length c7) ps, gl] := H
   exact fin ⟨_, by rw [e], by rw [e]⟩ H
  ·refine c_seq (c_reg (s_k 2 rfl ?_))
   refine s_boo (d := 40) (b := own) rfl (fun h26 => ?_) (fun h26 => ?_)
   ·refine s_1 rfl (s_val rfl rfl (r_fn (fs := #[]) (cs := #[.pointer (some ⟨b22, 0, none⟩)]) rfl rfl rfl) (sc (containsFP_ok 57 [.pointer (some ⟨b22, 0, none⟩)] [blk b22 [.string x19] 9] (fun y => decide (y.key ≠ x19)) kn57 (fun y => eachF_ok y b22 x19) u24 (runM dg p x19 (ofL ps x19) fuel).1) H (lA 4 rfl own_rd (lA 0 rfl (fun _ h => h) l0)) rfl rfl (e_fn kn56 rfl rfl) ?_))
    rintro _ _ w ⟨rfl, rfl⟩ H
    refine s_k 2 rfl (s_nil (q_then ?_))
    refine c_cond (b := otherKey x19 (runM dg p x19 (ofL ps x19) fuel).1) rfl (fun h27 => ?_) (fun h27 => ?_)
    ·refine c_seq (c_reg (s_k 2 rfl (s_nil (q_then (c_ret (q_blockR (q_thenR (q_blockR (q_thenR (q_thenR (q_blockR (q_thenR (q_ret2 rfl rfl rfl ?_)))))))))))))
     have e : eachM dg p ps fuel own = ([], 6) := hgo.symm.trans (go_key hx20 h25 h26 h27)
     replace H := H.keep 0
     replace H := H.newnil kPair
     replace H : Hd _ _ _ [osl kPair (.slice none 0 0) []] [rsl kIns (.slice A1 p.length c2) p, rsl kPair (.slice A6 ps.length c7) ps, gl] := H
     exact fin ⟨_, by rw [e], by rw [e]⟩ H
    ·refine c_seq (c_reg (s_k 2 rfl ?_))
     obtain ⟨A28, c29, rfl, hc30, hm31, hp32⟩ := H.fA 4 rfl
     refine s_val rfl rfl (r_lenL rfl un23 rfl) ?_
     replace H := H.p3
     replace H := H.h5 (A := blk b11 [.int .i64 (out.length : Int), .int .i64 0, .int .i64 0, .int .i64 0, .int .i64 0, .int .i64 0, .int .i64 0, .int .i64 0] 96) (B := blk b22 [.string x19] 9) (C := osl kPair q out) (D := osl kStr (.slice A13 ((keysL ps).length) c14) (keysL ps)) (E := osl kPair (.slice A28 (((runM dg p x19 (ofL ps x19) fuel).1).length) c29) ((runM dg p x19 (ofL ps x19) fuel).1))
     refine sc (tallyAdd_ok b11 (out.length : Int) 0 0 0 0 0 0 0 ((((runM dg p x19 (ofL ps x19) fuel).1).length : Nat) : Int) (by omega) (by omega)) H l0 rfl rfl (e_fn kn58 rfl rfl) ?_
     rintro _ _ w ⟨rfl, rfl⟩ H
     refine s_val rfl rfl (r_gt rfl rfl rfl) (s_1 rfl (s_nil (q_then ?_)))
     replace H := H.h1 (A := blk b11 [.int .i64 (min ((out.length : Int) + ((((runM dg p x19 (ofL ps x19) fuel).1).length : Nat) : Int)) 1099511627776), .int .i64 0, .int .i64 0, .int .i64 0, .int .i64 0, .int .i64 0, .int .i64 0, .int .i64 0] 96)
     refine c_dec (p := (40 : Int) < (min ((out.length : Int) + ((((runM dg p x19 (ofL ps x19) fuel).1).length : Nat) : Int)) 1099511627776)) rfl (fun h33 => ?_) (fun h33 => ?_)
     ·refine c_seq (c_reg (s_k 2 rfl (s_nil (q_then (c_ret (q_blockR (q_thenR (q_blockR (q_thenR (q_thenR (q_blockR (q_thenR (q_ret2 rfl rfl rfl ?_)))))))))))))
      have e : eachM dg p ps fuel own = ([], 5) := hgo.symm.trans (go_many hx20 h25 (fun h => by rw [h.2] at h27; cases h27) (by omega))
      replace H := H.keep 0
      replace H := H.newnil kPair
      replace H : Hd _ _ _ [osl kPair (.slice none 0 0) []] [rsl kIns (.slice A1 p.length c2) p, rsl kPair (.slice A6 ps.length c7) ps, gl] := H
      exact fin ⟨_, by rw [e], by rw [e]⟩ H
     ·refine c_skip (q_blockN (q_then (c_reg (s_k 2 rfl ?_))))
      replace H := H.p2
      refine s_appF (xs := out) (ys := (runM dg p x19 (ofL ps x19) fuel).1) rfl rfl rfl sl23 zr56 rfl (by decide) rfl rfl H (by omega) (fun F hA hR => own_rd F (hA _ (List.mem_of_getElem? (i := 3) rfl))) (fun v34 w H => (s_1 rfl (s_nil (q_blockN (q_then ?_)))))
      replace H := H.h1 (A := osl kPair v34 (out ++ ((runM dg p x19 (ofL ps x19) fuel).1)))
      refine c_reg (s_val rfl rfl (r_add (z := ((i + 1 : Nat) : Int)) rfl rfl rfl (by rw [w64 (by omega) (by omega)]; omega)) (s_1 rfl (s_nil ?_)))
      replace H := H.p1
      replace H := H.p3
      replace H := H.p2
      replace H := H.k3
      have hl2 : ((out ++ (runM dg p x19 (ofL ps x19) fuel).1).length : Int) = min ((out.length : Int) + ((((runM dg p x19 (ofL ps x19) fuel).1).length : Nat) : Int)) 1099511627776 := by rw [List.length_append]; omega
      replace H : Hd w0 F0 w [osl kPair v34 (out ++ ((runM dg p x19 (ofL ps x19) fuel).1)), osl kStr (.slice A13 ((keysL ps).length) c14) (keysL ps), blk b11 [.int .i64 ((out ++ (runM dg p x19 (ofL ps x19) fuel).1).length : Int), .int .i64 0, .int .i64 0, .int .i64 0, .int .i64 0, .int .i64 0, .int .i64 0, .int .i64 0] 96] [rsl kIns (.slice A1 p.length c2) p, rsl kPair (.slice A6 ps.length c7) ps, gl] := by rw [hl2]; exact H
      have hg2 := (go_on (out := out) hx20 h25 (fun h => by rw [h.2] at h27; cases h27) (by omega)).trans hgo
      have ho2 : (out ++ (runM dg p x19 (ofL ps x19) fuel).1).length ≤ 40 := by rw [List.length_append]; omega
      exact q_round (s := (i, undef, out)) (i + 1, v34, out ++ (runM dg p x19 (ofL ps x19) fuel).1) ⟨rfl, rfl, rfl, rfl, rfl, rfl, rfl, rfl, rfl, trivial⟩ ⟨H, by (try dsimp only); omega, hg2, ho2⟩ (by (try dsimp only); omega)
   ·refine s_k 5 rfl (s_nil (q_then (c_no rfl (c_seq (c_reg (s_k 2 rfl ?_))))))
    obtain ⟨A35, c36, rfl, hc37, hm38, hp39⟩ := H.fA 4 rfl
    refine s_val rfl rfl (r_lenL rfl un23 rfl) ?_
    replace H := H.p3
    replace H := H.h5 (A := blk b11 [.int .i64 (out.length : Int), .int .i64 0, .int .i64 0, .int .i64 0, .int .i64 0, .int .i64 0, .int .i64 0, .int .i64 0] 96) (B := blk b22 [.string x19] 9) (C := osl kPair q out) (D := osl kStr (.slice A13 ((keysL ps).length) c14) (keysL ps)) (E := osl kPair (.slice A35 (((runM dg p x19 (ofL ps x19) fuel).1).length) c36) ((runM dg p x19 (ofL ps x19) fuel).1))
    refine sc (tallyAdd_ok b11 (out.length : Int) 0 0 0 0 0 0 0 ((((runM dg p x19 (ofL ps x19) fuel).1).length : Nat) : Int) (by omega) (by omega)) H l0 rfl rfl (e_fn kn58 rfl rfl) ?_
    rintro _ _ w ⟨rfl, rfl⟩ H
    refine s_val rfl rfl (r_gt rfl rfl rfl) (s_1 rfl (s_nil (q_then ?_)))
    replace H := H.h1 (A := blk b11 [.int .i64 (min ((out.length : Int) + ((((runM dg p x19 (ofL ps x19) fuel).1).length : Nat) : Int)) 1099511627776), .int .i64 0, .int .i64 0, .int .i64 0, .int .i64 0, .int .i64 0, .int .i64 0, .int .i64 0] 96)
    refine c_dec (p := (40 : Int) < (min ((out.length : Int) + ((((runM dg p x19 (ofL ps x19) fuel).1).length : Nat) : Int)) 1099511627776)) rfl (fun h40 => ?_) (fun h40 => ?_)
    ·refine c_seq (c_reg (s_k 2 rfl (s_nil (q_then (c_ret (q_blockR (q_thenR (q_blockR (q_thenR (q_thenR (q_blockR (q_thenR (q_ret2 rfl rfl rfl ?_)))))))))))))
     have e : eachM dg p ps fuel own = ([], 5) := hgo.symm.trans (go_many hx20 h25 (fun h => by rw [h.1] at h26; cases h26) (by omega))
     replace H := H.keep 0
     replace H := H.newnil kPair
     replace H : Hd _ _ _ [osl kPair (.slice none 0 0) []] [rsl kIns (.slice A1 p.length c2) p, rsl kPair (.slice A6 ps.length c7) ps, gl] := H
     exact fin ⟨_, by rw [e], by rw [e]⟩ H
    ·refine c_skip (q_blockN (q_then (c_reg (s_k 2 rfl ?_))))
     replace H := H.p2
     refine s_appF (xs := out) (ys := (runM dg p x19 (ofL ps x19) fuel).1) rfl rfl rfl sl23 zr56 rfl (by decide) rfl rfl H (by omega) (fun F hA hR => own_rd F (hA _ (List.mem_of_getElem? (i := 3) rfl))) (fun v41 w H => (s_1 rfl (s_nil (q_blockN (q_then ?_)))))
     replace H := H.h1 (A := osl kPair v41 (out ++ ((runM dg p x19 (ofL ps x19) fuel).1)))
     refine c_reg (s_val rfl rfl (r_add (z := ((i + 1 : Nat) : Int)) rfl rfl rfl (by rw [w64 (by omega) (by omega)]; omega)) (s_1 rfl (s_nil ?_)))
     replace H := H.p1
     replace H := H.p3
     replace H := H.p2
     replace H := H.k3
     have hl2 : ((out ++ (runM dg p x19 (ofL ps x19) fuel).1).length : Int) = min ((out.length : Int) + ((((runM dg p x19 (ofL ps x19) fuel).1).length : Nat) : Int)) 1099511627776 := by rw [List.length_append]; omega
     replace H : Hd w0 F0 w [osl kPair v41 (out ++ ((runM dg p x19 (ofL ps x19) fuel).1)), osl kStr (.slice A13 ((keysL ps).length) c14) (keysL ps), blk b11 [.int .i64 ((out ++ (runM dg p x19 (ofL ps x19) fuel).1).length : Int), .int .i64 0, .int .i64 0, .int .i64 0, .int .i64 0, .int .i64 0, .int .i64 0, .int .i64 0] 96] [rsl kIns (.slice A1 p.length c2) p, rsl kPair (.slice A6 ps.length c7) ps, gl] := by rw [hl2]; exact H
     have hg2 := (go_on (out := out) hx20 h25 (fun h => by rw [h.1] at h26; cases h26) (by omega)).trans hgo
     have ho2 : (out ++ (runM dg p x19 (ofL ps x19) fuel).1).length ≤ 40 := by rw [List.length_append]; omega
     exact q_round (s := (i, undef, out)) (i + 1, v41, out ++ (runM dg p x19 (ofL ps x19) fuel).1) ⟨rfl, rfl, rfl, rfl, rfl, rfl, rfl, rfl, rfl, trivial⟩ ⟨H, by (try dsimp only); omega, hg2, ho2⟩ (by (try dsimp only); omega)
 ·refine c_exit (q_thenE (q_thenE (q_blockE (q_then (c_seq (c_reg (s_k 3 rfl (s_nil (q_then (c_ret (q_ret2 rfl rfl rfl ?_)))))))))))
  replace H := H.k1
  have e : eachM dg p ps fuel own = (out, 0) := hgo.symm.trans (go_end (by omega))
  replace H : Hd _ _ _ [osl kPair q out] [rsl kIns (.slice A1 p.length c2) p, rsl kPair (.slice A6 ps.length c7) ps, gl] := H
  exact fin ⟨_, by rw [e], by rw [e]⟩ H
set_option maxHeartbeats 1000000 in
theorem foldEach_ok (vp : Value) (p : List Ins) (vps : Value) (ps : List Pair) (fuel : Int) (hpa : ∀ i ∈ p, In64 i.a) (hfu : In64 fuel) (hb : ps.length ≤ 1000000) :
    Cn Tryz.prog 10 [vp, vps, .int .i64 fuel] [] [rsl kIns vp p, rsl kPair vps ps, gl] (fun v Bs => ∃ u, v = .tuple #[u, .int .i64 (eachM dg p ps fuel false).2] ∧ Bs = [osl kPair u (eachM dg p ps fuel false).1]) := by
 intro w0 F0 H
 refine enter (args := [vp, vps, .int .i64 fuel]) Tryz.func10 rfl rfl (Nat.le_of_ble_eq_true rfl) (c_seq (c_reg (s_k 2 rfl (s_nil (q_then (c_seq (c_reg (s_k 3 rfl (sc (each_ok vp p vps ps fuel false hpa hfu hb) H (lR 0 rfl (lR 1 rfl (lR 2 rfl l0))) rfl rfl (e_fn kn32 rfl rfl) ?_)))))))))
 rintro _ _ w ⟨u1, rfl, rfl⟩ H
 refine s_k 4 rfl (s_nil (q_then ?_))
 replace H : Hd _ _ _ [osl kPair u1 ((eachM dg p ps fuel false).1)] [rsl kIns vp p, rsl kPair vps ps, gl] := H
 exact c_ret (q_ret2 rfl rfl rfl (fin ⟨_, rfl, rfl⟩ H))
set_option maxHeartbeats 1000000 in
theorem greatCode_ok (vxs : Value) (xs : List Ins) :
    Cn Tryz.prog 12 [vxs] [] [rsl kIns vxs xs] (fun v Bs => v = .bool (greatC xs) ∧ Bs = []) := by
 intro w0 F0 H
 obtain ⟨A1, c2, rfl, hc3, hm4, hp5⟩ := H.fR 0 rfl
 refine enter (args := [.slice A1 xs.length c2]) Tryz.func12 rfl rfl (Nat.le_of_ble_eq_true rfl) (c_seq (c_reg (s_1 rfl (s_nil (q_then ?_)))))
 replace H : Hd _ _ _ [] [rsl kIns (.slice A1 xs.length c2) xs] := H
 refine c_seq (c_seq (c_reg (s_1 rfl (s_nil (q_then (c_block (c_loop (σ := Nat) (fun k => [(0, .slice A1 xs.length c2), (3, .int .i64 ((k : Nat) : Int))]) (fun k w => (Hd w0 F0 w [] [rsl kIns (.slice A1 xs.length c2) xs]) ∧ (k ≤ xs.length) ∧ (∀ y ∈ xs.take k, y.s.size ≤ 100)) (fun k => xs.length - k) 0 ⟨rfl, rfl, trivial⟩ ⟨H, by omega, by simp⟩ ?_)))))))
 rintro k w ⟨H, hk, hn⟩
 refine c_seq (c_seq (c_reg (s_k 2 rfl (s_val rfl rfl (r_lenL rfl un22 rfl) (s_val rfl rfl (r_lt rfl rfl rfl) (s_1 rfl ?_))))))
 refine s_dec (d := 8) (p := ((k : Nat) : Int) < ((xs.length : Nat) : Int)) rfl (fun h6 => ?_) (fun h6 => ?_)
 ·refine s_1 rfl (s_val rfl rfl (r_lenL rfl un22 rfl) (s_val rfl rfl (r_le rfl rfl rfl) (s_1 rfl (s_nil (q_then ?_)))))
  refine c_dec (p := ((xs.length : Nat) : Int) ≤ 60) rfl (fun h7 => ?_) (fun h7 => ?_)
  ·refine c_skip (q_then (c_seq (c_block (c_seq (c_reg (s_k 2 rfl ?_))))))
   obtain ⟨x8, hx9⟩ : ∃ z9, xs[k]? = some z9 := ⟨_, List.getElem?_eq_getElem (show k < xs.length by omega)⟩
   have th10 := H.thR 0 rfl hx9
   refine s_val rfl rfl (r_iaE (p := oOf A1 + k * 3) rfl sl22 rfl rfl (by omega) (by omega) th10 rfl) (s_val rfl rfl (r_fa rfl fo29_2 rfl) (s_val rfl rfl (r_ld rfl ty9 rfl (H.elR 0 rfl hx9 (q := 2) rfl rfl)) (s_val rfl rfl (r_lenS rfl un9 rfl) (s_val rfl rfl (r_gt rfl rfl rfl) (s_nil (q_then ?_))))))
   refine c_dec (p := (100 : Int) < ((x8.s.size : Nat) : Int)) rfl (fun h11 => ?_) (fun h11 => ?_)
   ·exact c_seq (c_reg (s_1 rfl (s_nil (q_then (c_ret (q_blockR (q_thenR (q_thenR (q_blockR (q_thenR (q_ret1 rfl rfl (fin ⟨congrArg Value.bool (great_hit hx9 (by omega)), rfl⟩ H))))))))))))
   ·exact c_skip (q_blockN (q_then (c_reg (s_1 rfl (s_val rfl rfl (r_add (z := ((k + 1 : Nat) : Int)) rfl rfl rfl (by rw [w64 (by omega) (by omega)]; omega)) (s_1 rfl (s_nil (q_round (s := k) (k + 1) ⟨rfl, rfl, trivial⟩ ⟨H, by (try dsimp only); omega, take_small hn hx9 (by omega)⟩ (by (try dsimp only); omega)))))))))
  ·exact c_exit (q_thenE (q_thenE (q_blockE (q_then (c_seq (c_reg (s_1 rfl (s_val rfl rfl (r_lenL rfl un22 rfl) (s_val rfl rfl (r_gt rfl rfl rfl) (s_1 rfl (s_nil (q_then (c_ret (q_ret1 rfl rfl (fin ⟨congrArg Value.bool (great_end hn (by omega)), rfl⟩ H)))))))))))))))
 ·exact s_k 4 rfl (s_nil (q_then (c_no rfl (c_exit (q_thenE (q_thenE (q_blockE (q_then (c_seq (c_reg (s_1 rfl (s_val rfl rfl (r_lenL rfl un22 rfl) (s_val rfl rfl (r_gt rfl rfl rfl) (s_1 rfl (s_nil (q_then (c_ret (q_ret1 rfl rfl (fin ⟨congrArg Value.bool (great_end hn (by omega)), rfl⟩ H)))))))))))))))))))
end Go.Proofs.YtlpgdkbokakniaaGreatDoor.X

set_option linter.unusedVariables false
set_option linter.unusedSimpArgs false
namespace Go.Proofs.YtlpgdkbokakniaaGreatDoor.X
open Go
set_option maxHeartbeats 1000000 in
theorem rInt_ok (n : Int) :
    Cn Tryz.prog 142 [.int .i64 n] [] [] (fun v Bs => v = .agg #[.bool false, .int .i64 n, .string ⟨#[]⟩] ∧ Bs = []) := by
 intro w0 F0 H
 refine enter (args := [.int .i64 n]) Tryz.func142 rfl rfl (Nat.le_of_ble_eq_true rfl) (c_seq (c_reg (s_alloc rfl rfl rfl zr104 H (fun b1 w H => (s_nil (q_then ?_))))))
 replace H : Hd _ _ _ [blk b1 [.bool false, .int .i64 0, .string ⟨#[]⟩] 104] [] := H
 refine c_seq (c_reg (s_1 rfl (s_val rfl rfl (r_bd (parts := [(1, .tmp 3)]) (vs := [.int .i64 n]) (cs := [.bool false, .int .i64 n, .string ⟨#[]⟩]) rfl bd104 rfl rfl) (s_st rfl rfl rfl ty104 rfl rfl H rfl (Nat.le_of_ble_eq_true rfl) (fun u hu => by simp [Value.cells] at hu; rcases hu with rfl | rfl | rfl <;> rfl) (fun w H => ?_)))))
 replace H := H.h1 (A := blk b1 [.bool false, .int .i64 n, .string ⟨#[]⟩] 104)
 refine s_nil (q_then (c_ret (q_retC (cs := [.bool false, .int .i64 n, .string ⟨#[]⟩]) rfl rfl ty104 rfl (H.cellsI 0 rfl rfl) ?_)))
 replace H := H.keep 0
 exact fin ⟨rfl, rfl⟩ H
set_option maxHeartbeats 1000000 in
theorem rBytes_ok (s : ByteArray) :
    Cn Tryz.prog 143 [.string s] [] [] (fun v Bs => v = .agg #[.bool true, .int .i64 0, .string s] ∧ Bs = []) := by
 intro w0 F0 H
 refine enter (args := [.string s]) Tryz.func143 rfl rfl (Nat.le_of_ble_eq_true rfl) (c_seq (c_reg (s_alloc rfl rfl rfl zr104 H (fun b1 w H => (s_nil (q_then ?_))))))
 replace H : Hd _ _ _ [blk b1 [.bool false, .int .i64 0, .string ⟨#[]⟩] 104] [] := H
 refine c_seq (c_reg (s_1 rfl (s_val rfl rfl (r_bd (parts := [(0, .const (.bool true)), (2, .tmp 3)]) (vs := [.bool true, .string s]) (cs := [.bool true, .int .i64 0, .string s]) rfl bd104 rfl rfl) (s_st rfl rfl rfl ty104 rfl rfl H rfl (Nat.le_of_ble_eq_true rfl) (fun u hu => by simp [Value.cells] at hu; rcases hu with rfl | rfl | rfl <;> rfl) (fun w H => ?_)))))
 replace H := H.h1 (A := blk b1 [.bool true, .int .i64 0, .string s] 104)
 refine s_nil (q_then (c_ret (q_retC (cs := [.bool true, .int .i64 0, .string s]) rfl rfl ty104 rfl (H.cellsI 0 rfl rfl) ?_)))
 replace H := H.keep 0
 exact fin ⟨rfl, rfl⟩ H
set_option maxHeartbeats 1000000 in
theorem rFlag_ok (b : Bool) :
    Cn Tryz.prog 144 [.bool b] [] [] (fun v Bs => v = .agg #[.bool false, .int .i64 (if b = true then 1 else 0), .string ⟨#[]⟩] ∧ Bs = []) := by
 intro w0 F0 H
 refine enter (args := [.bool b]) Tryz.func144 rfl rfl (Nat.le_of_ble_eq_true rfl) (c_seq (c_reg (s_alloc rfl rfl rfl zr104 H (fun b1 w H => (s_nil (q_then ?_))))))
 replace H : Hd _ _ _ [blk b1 [.bool false, .int .i64 0, .string ⟨#[]⟩] 104] [] := H
 refine c_seq (c_seq (c_reg (s_1 rfl (s_nil (q_then ?_)))))
 refine c_cond (b := b) rfl (fun h2 => ?_) (fun h2 => ?_)
 ·refine c_seq (c_reg (sc (rInt_ok 1) H l0 rfl rfl (e_fn kn142 rfl rfl) ?_))
  rintro _ _ w ⟨rfl, rfl⟩ H
  refine s_st rfl rfl rfl ty104 rfl rfl H rfl (Nat.le_of_ble_eq_true rfl) (fun u hu => by simp [Value.cells] at hu; rcases hu with rfl | rfl | rfl <;> rfl) (fun w H => ?_)
  replace H := H.h1 (A := blk b1 [.bool false, .int .i64 1, .string ⟨#[]⟩] 104)
  refine s_nil (q_then (c_ret (q_thenR (q_retC (cs := [.bool false, .int .i64 1, .string ⟨#[]⟩]) rfl rfl ty104 rfl (H.cellsI 0 rfl rfl) ?_))))
  replace H := H.keep 0
  exact fin ⟨by simp only [h2]; rfl, rfl⟩ H
 ·refine c_skip (q_then (c_seq (c_reg (sc (rInt_ok 0) H l0 rfl rfl (e_fn kn142 rfl rfl) ?_))))
  rintro _ _ w ⟨rfl, rfl⟩ H
  refine s_st rfl rfl rfl ty104 rfl rfl H rfl (Nat.le_of_ble_eq_true rfl) (fun u hu => by simp [Value.cells] at hu; rcases hu with rfl | rfl | rfl <;> rfl) (fun w H => (s_nil (q_then (c_ret (q_retC (cs := [.bool false, .int .i64 0, .string ⟨#[]⟩]) rfl rfl ty104 rfl (H.cellsI 0 rfl rfl) ?_)))))
  replace H := H.keep 0
  exact fin ⟨by simp only [h2]; rfl, rfl⟩ H
set_option maxHeartbeats 1000000 in
theorem rKinds_ok (op : Int) :
    Cn Tryz.prog 133 [.int .i64 op] [] [] (fun v Bs => v = .string (kindsR op) ∧ Bs = []) := by
 intro w0 F0 H
 refine enter (args := [.int .i64 op]) Tryz.func133 rfl rfl (Nat.le_of_ble_eq_true rfl) (c_seq (c_reg (s_1 rfl (s_nil (q_then (c_seq (c_seq (c_reg (s_1 rfl (s_nil (q_then (c_block (c_seq (c_seq (c_reg (s_val rfl rfl (r_eq rfl rfl rfl) (s_1 rfl (s_nil (q_then ?_)))))))))))))))))))
 refine c_dec (p := op = 3) rfl (fun h1 => ?_) (fun h1 => ?_)
 ·refine c_skip (q_then ?_)
  refine c_dec (p := op = 3) rfl (fun h2 => ?_) (fun h2 => ?_)
  ·exact c_seq (c_reg (s_1 rfl (s_nil (q_then (c_ret (q_blockR (q_thenR (q_ret1 rfl rfl (fin ⟨congrArg Value.string (by unfold kindsR; repeat (first | rw [if_pos (by omega)] | rw [if_neg (by omega)])), rfl⟩ H)))))))))
  ·exact absurd h1 h2
 ·refine c_seq (c_reg (s_val rfl rfl (r_eq rfl rfl rfl) (s_1 rfl (s_nil (q_then ?_)))))
  refine c_dec (p := op = 4) rfl (fun h3 => ?_) (fun h3 => ?_)
  ·refine c_skip (q_then ?_)
   refine c_dec (p := op = 4) rfl (fun h4 => ?_) (fun h4 => ?_)
   ·exact c_seq (c_reg (s_1 rfl (s_nil (q_then (c_ret (q_blockR (q_thenR (q_ret1 rfl rfl (fin ⟨congrArg Value.string (by unfold kindsR; repeat (first | rw [if_pos (by omega)] | rw [if_neg (by omega)])), rfl⟩ H)))))))))
   ·exact absurd h3 h4
  ·refine c_reg (s_val rfl rfl (r_eq rfl rfl rfl) (s_1 rfl (s_nil (q_then ?_))))
   refine c_dec (p := op = 22) rfl (fun h5 => ?_) (fun h5 => ?_)
   ·exact c_seq (c_reg (s_1 rfl (s_nil (q_then (c_ret (q_blockR (q_thenR (q_ret1 rfl rfl (fin ⟨congrArg Value.string (by unfold kindsR; repeat (first | rw [if_pos (by omega)] | rw [if_neg (by omega)])), rfl⟩ H)))))))))
   ·refine c_seq (c_seq (c_reg (s_val rfl rfl (r_eq rfl rfl rfl) (s_1 rfl (s_nil (q_then ?_))))))
    refine c_dec (p := op = 5) rfl (fun h6 => ?_) (fun h6 => ?_)
    ·refine c_skip (q_then ?_)
     refine c_dec (p := op = 5) rfl (fun h7 => ?_) (fun h7 => ?_)
     ·exact c_seq (c_reg (s_1 rfl (s_nil (q_then (c_ret (q_blockR (q_thenR (q_ret1 rfl rfl (fin ⟨congrArg Value.string (by unfold kindsR; repeat (first | rw [if_pos (by omega)] | rw [if_neg (by omega)])), rfl⟩ H)))))))))
     ·exact absurd h6 h7
    ·refine c_reg (s_val rfl rfl (r_eq rfl rfl rfl) (s_1 rfl (s_nil (q_then ?_))))
     refine c_dec (p := op = 12) rfl (fun h8 => ?_) (fun h8 => ?_)
     ·exact c_seq (c_reg (s_1 rfl (s_nil (q_then (c_ret (q_blockR (q_thenR (q_ret1 rfl rfl (fin ⟨congrArg Value.string (by unfold kindsR; repeat (first | rw [if_pos (by omega)] | rw [if_neg (by omega)])), rfl⟩ H)))))))))
     ·refine c_seq (c_seq (c_reg (s_val rfl rfl (r_eq rfl rfl rfl) (s_1 rfl (s_nil (q_then ?_))))))
      refine c_dec (p := op = 8) rfl (fun h9 => ?_) (fun h9 => ?_)
      ·refine c_skip (q_then ?_)
       refine c_dec (p := op = 8) rfl (fun h10 => ?_) (fun h10 => ?_)
       ·exact c_seq (c_reg (s_1 rfl (s_nil (q_then (c_ret (q_blockR (q_thenR (q_ret1 rfl rfl (fin ⟨congrArg Value.string (by unfold kindsR; repeat (first | rw [if_pos (by omega)] | rw [if_neg (by omega)])), rfl⟩ H)))))))))
       ·exact absurd h9 h10
      ·refine c_seq (c_reg (s_val rfl rfl (r_eq rfl rfl rfl) (s_1 rfl (s_nil (q_then ?_)))))
       refine c_dec (p := op = 9) rfl (fun h11 => ?_) (fun h11 => ?_)
       ·refine c_skip (q_then ?_)
        refine c_dec (p := op = 9) rfl (fun h12 => ?_) (fun h12 => ?_)
        ·exact c_seq (c_reg (s_1 rfl (s_nil (q_then (c_ret (q_blockR (q_thenR (q_ret1 rfl rfl (fin ⟨congrArg Value.string (by unfold kindsR; repeat (first | rw [if_pos (by omega)] | rw [if_neg (by omega)])), rfl⟩ H)))))))))
        ·exact absurd h11 h12
       ·refine c_seq (c_reg (s_val rfl rfl (r_eq rfl rfl rfl) (s_1 rfl (s_nil (q_then ?_)))))
        refine c_dec (p := op = 10) rfl (fun h13 => ?_) (fun h13 => ?_)
        ·refine c_skip (q_then ?_)
         refine c_dec (p := op = 10) rfl (fun h14 => ?_) (fun h14 => ?_)
         ·exact c_seq (c_reg (s_1 rfl (s_nil (q_then (c_ret (q_blockR (q_thenR (q_ret1 rfl rfl (fin ⟨congrArg Value.string (by unfold kindsR; repeat (first | rw [if_pos (by omega)] | rw [if_neg (by omega)])), rfl⟩ H)))))))))
         ·exact absurd h13 h14
        ·refine c_reg (s_val rfl rfl (r_eq rfl rfl rfl) (s_1 rfl (s_nil (q_then ?_))))
         refine c_dec (p := op = 11) rfl (fun h15 => ?_) (fun h15 => ?_)
         ·exact c_seq (c_reg (s_1 rfl (s_nil (q_then (c_ret (q_blockR (q_thenR (q_ret1 rfl rfl (fin ⟨congrArg Value.string (by unfold kindsR; repeat (first | rw [if_pos (by omega)] | rw [if_neg (by omega)])), rfl⟩ H)))))))))
         ·refine c_seq (c_seq (c_reg (s_val rfl rfl (r_eq rfl rfl rfl) (s_1 rfl (s_nil (q_then ?_))))))
          refine c_dec (p := op = 13) rfl (fun h16 => ?_) (fun h16 => ?_)
          ·refine c_skip (q_then ?_)
           refine c_dec (p := op = 13) rfl (fun h17 => ?_) (fun h17 => ?_)
           ·exact c_seq (c_reg (s_1 rfl (s_nil (q_then (c_ret (q_blockR (q_thenR (q_ret1 rfl rfl (fin ⟨congrArg Value.string (by unfold kindsR; repeat (first | rw [if_pos (by omega)] | rw [if_neg (by omega)])), rfl⟩ H)))))))))
           ·exact absurd h16 h17
          ·refine c_reg (s_val rfl rfl (r_eq rfl rfl rfl) (s_1 rfl (s_nil (q_then ?_))))
           refine c_dec (p := op = 23) rfl (fun h18 => ?_) (fun h18 => ?_)
           ·exact c_seq (c_reg (s_1 rfl (s_nil (q_then (c_ret (q_blockR (q_thenR (q_ret1 rfl rfl (fin ⟨congrArg Value.string (by unfold kindsR; repeat (first | rw [if_pos (by omega)] | rw [if_neg (by omega)])), rfl⟩ H)))))))))
           ·refine c_seq (c_seq (c_reg (s_val rfl rfl (r_eq rfl rfl rfl) (s_1 rfl (s_nil (q_then ?_))))))
            refine c_dec (p := op = 14) rfl (fun h19 => ?_) (fun h19 => ?_)
            ·refine c_skip (q_then ?_)
             refine c_dec (p := op = 14) rfl (fun h20 => ?_) (fun h20 => ?_)
             ·exact c_seq (c_reg (s_1 rfl (s_nil (q_then (c_ret (q_blockR (q_thenR (q_ret1 rfl rfl (fin ⟨congrArg Value.string (by unfold kindsR; repeat (first | rw [if_pos (by omega)] | rw [if_neg (by omega)])), rfl⟩ H)))))))))
             ·exact absurd h19 h20
            ·refine c_reg (s_val rfl rfl (r_eq rfl rfl rfl) (s_1 rfl (s_nil (q_then ?_))))
             refine c_dec (p := op = 18) rfl (fun h21 => ?_) (fun h21 => ?_)
             ·exact c_seq (c_reg (s_1 rfl (s_nil (q_then (c_ret (q_blockR (q_thenR (q_ret1 rfl rfl (fin ⟨congrArg Value.string (by unfold kindsR; repeat (first | rw [if_pos (by omega)] | rw [if_neg (by omega)])), rfl⟩ H)))))))))
             ·refine c_seq (c_reg (s_val rfl rfl (r_eq rfl rfl rfl) (s_1 rfl (s_nil (q_then ?_)))))
              refine c_dec (p := op = 15) rfl (fun h22 => ?_) (fun h22 => ?_)
              ·exact c_seq (c_reg (s_1 rfl (s_nil (q_then (c_ret (q_blockR (q_thenR (q_ret1 rfl rfl (fin ⟨congrArg Value.string (by unfold kindsR; repeat (first | rw [if_pos (by omega)] | rw [if_neg (by omega)])), rfl⟩ H)))))))))
              ·refine c_seq (c_reg (s_val rfl rfl (r_eq rfl rfl rfl) (s_1 rfl (s_nil (q_then ?_)))))
               refine c_dec (p := op = 16) rfl (fun h23 => ?_) (fun h23 => ?_)
               ·exact c_seq (c_reg (s_1 rfl (s_nil (q_then (c_ret (q_blockR (q_thenR (q_ret1 rfl rfl (fin ⟨congrArg Value.string (by unfold kindsR; repeat (first | rw [if_pos (by omega)] | rw [if_neg (by omega)])), rfl⟩ H)))))))))
               ·refine c_seq (c_seq (c_reg (s_val rfl rfl (r_eq rfl rfl rfl) (s_1 rfl (s_nil (q_then ?_))))))
                refine c_dec (p := op = 17) rfl (fun h24 => ?_) (fun h24 => ?_)
                ·refine c_skip (q_then ?_)
                 refine c_dec (p := op = 17) rfl (fun h25 => ?_) (fun h25 => ?_)
                 ·exact c_seq (c_reg (s_1 rfl (s_nil (q_then (c_ret (q_blockR (q_thenR (q_ret1 rfl rfl (fin ⟨congrArg Value.string (by unfold kindsR; repeat (first | rw [if_pos (by omega)] | rw [if_neg (by omega)])), rfl⟩ H)))))))))
                 ·exact absurd h24 h25
                ·refine c_reg (s_val rfl rfl (r_eq rfl rfl rfl) (s_1 rfl (s_nil (q_then ?_))))
                 refine c_dec (p := op = 20) rfl (fun h26 => ?_) (fun h26 => ?_)
                 ·exact c_seq (c_reg (s_1 rfl (s_nil (q_then (c_ret (q_blockR (q_thenR (q_ret1 rfl rfl (fin ⟨congrArg Value.string (by unfold kindsR; repeat (first | rw [if_pos (by omega)] | rw [if_neg (by omega)])), rfl⟩ H)))))))))
                 ·exact c_skip (q_blockN (q_then (c_seq (c_reg (s_1 rfl (s_nil (q_then (c_ret (q_ret1 rfl rfl (fin ⟨congrArg Value.string (by unfold kindsR; repeat (first | rw [if_pos (by omega)] | rw [if_neg (by omega)])), rfl⟩ H))))))))))
set_option maxHeartbeats 1000000 in
theorem rSameV_ok (a : Val) (b : Val) :
    Cn Tryz.prog 145 [.agg #[.bool a.t, .int .i64 a.n, .string a.b], .agg #[.bool b.t, .int .i64 b.n, .string b.b]] [] [] (fun v Bs => v = .bool (sameV a b) ∧ Bs = []) := by
 intro w0 F0 H
 refine enter (args := [.agg #[.bool a.t, .int .i64 a.n, .string a.b], .agg #[.bool b.t, .int .i64 b.n, .string b.b]]) Tryz.func145 rfl rfl (Nat.le_of_ble_eq_true rfl) (c_seq (c_reg (s_box rfl rfl rfl rfl H (fun b1 w H => (s_box rfl rfl rfl rfl H (fun b2 w H => (s_1 rfl (s_nil (q_then ?_)))))))))
 replace H : Hd _ _ _ [blk b2 [.bool b.t, .int .i64 b.n, .string b.b] 104, blk b1 [.bool a.t, .int .i64 a.n, .string a.b] 104] [] := H
 refine c_seq (c_seq (c_reg (s_val rfl rfl (r_fa rfl fo104_0 rfl) (s_val rfl rfl (r_ld rfl ty4 rfl (H.cellI 1 rfl rfl)) (s_val rfl rfl (r_fa rfl fo104_0 rfl) (s_val rfl rfl (r_ld rfl ty4 rfl (H.cellI 0 rfl rfl)) (s_val rfl rfl (r_bne rfl un4 rfl rfl) (s_nil (q_then ?_)))))))))
 refine c_dec (p := a.t ≠ b.t) rfl (fun h3 => ?_) (fun h3 => ?_)
 ·refine c_seq (c_reg (s_1 rfl (s_nil (q_then (c_ret (q_thenR (q_ret1 rfl rfl ?_)))))))
  replace H := H.keep 0
  exact fin ⟨congrArg Value.bool (by unfold sameV; cases ha : a.t <;> cases hb : b.t <;> simp_all), rfl⟩ H
 ·refine c_skip (q_then (c_seq (c_seq (c_reg (s_val rfl rfl (r_fa rfl fo104_0 rfl) (s_val rfl rfl (r_ld rfl ty4 rfl (H.cellI 1 rfl rfl)) (s_nil (q_then ?_))))))))
  refine c_cond (b := a.t) rfl (fun h4 => ?_) (fun h4 => ?_)
  ·refine c_seq (c_reg (s_val rfl rfl (r_fa rfl fo104_2 rfl) (s_val rfl rfl (r_ld rfl ty9 rfl (H.cellI 1 rfl rfl)) (s_val rfl rfl (r_fa rfl fo104_2 rfl) (s_val rfl rfl (r_ld rfl ty9 rfl (H.cellI 0 rfl rfl)) (s_val rfl rfl (r_eqS rfl rfl rfl) (s_1 rfl (s_nil (q_then (c_ret (q_thenR (q_ret1 rfl rfl ?_))))))))))))
   replace H := H.keep 0
   exact fin ⟨congrArg Value.bool (by unfold sameV; cases ha : a.t <;> cases hb : b.t <;> simp_all), rfl⟩ H
  ·refine c_skip (q_then (c_seq (c_reg (s_val rfl rfl (r_fa rfl fo104_1 rfl) (s_val rfl rfl (r_ld rfl ty2 rfl (H.cellI 1 rfl rfl)) (s_val rfl rfl (r_fa rfl fo104_1 rfl) (s_val rfl rfl (r_ld rfl ty2 rfl (H.cellI 0 rfl rfl)) (s_val rfl rfl (r_eq rfl rfl rfl) (s_1 rfl (s_nil (q_then (c_ret (q_ret1 rfl rfl ?_)))))))))))))
   replace H := H.keep 0
   exact fin ⟨congrArg Value.bool (by unfold sameV; cases ha : a.t <;> cases hb : b.t <;> simp_all), rfl⟩ H
set_option maxHeartbeats 1000000 in
theorem rAt_ok (s : ByteArray) (i : Int) :
    Cn Tryz.prog 146 [.string s, .int .i64 i] [] [] (fun v Bs => v = .int .i64 (atS s i) ∧ Bs = []) := by
 intro w0 F0 H
 refine enter (args := [.string s, .int .i64 i]) Tryz.func146 rfl rfl (Nat.le_of_ble_eq_true rfl) (c_seq (c_reg (s_1 rfl (s_nil (q_then (c_seq (c_seq (c_reg (s_1 rfl (s_val rfl rfl (r_lt rfl rfl rfl) (s_1 rfl ?_)))))))))))
 refine s_dec (d := 7) (p := i < 0) rfl (fun h1 => ?_) (fun h1 => ?_)
 ·exact s_k 5 rfl (s_nil (q_then (c_yes rfl (c_seq (c_reg (s_1 rfl (s_nil (q_then (c_ret (q_thenR (q_ret1 rfl rfl (fin ⟨congrArg (Value.int .i64) (if_pos (by omega)).symm, rfl⟩ H))))))))))))
 ·refine s_k 2 rfl (s_val rfl rfl (r_lenS rfl un9 rfl) (s_val rfl rfl (r_ge rfl rfl rfl) (s_1 rfl (s_nil (q_then ?_)))))
  refine c_dec (p := ((s.size : Nat) : Int) ≤ i) rfl (fun h2 => ?_) (fun h2 => ?_)
  ·exact c_seq (c_reg (s_1 rfl (s_nil (q_then (c_ret (q_thenR (q_ret1 rfl rfl (fin ⟨congrArg (Value.int .i64) (if_pos (by omega)).symm, rfl⟩ H))))))))
  ·refine c_skip (q_then (c_seq (c_reg (s_k 2 rfl ?_))))
   obtain ⟨c0, hc0⟩ : ∃ c0, s[i.toNat]? = some c0 := ⟨_, getElem?_pos s i.toNat (by omega)⟩
   exact s_val rfl rfl (r_idxS rfl un9 rfl rfl (by omega) hc0) (s_val rfl rfl (r_i2i (z := ((c0).toNat : Int)) rfl rfl un5 un2 (w64 (by omega) (by have := UInt8.toNat_lt c0; omega))) (s_1 rfl (s_nil (q_then (c_ret (q_ret1 rfl rfl (fin ⟨congrArg (Value.int .i64) (by unfold atS; rw [if_neg (by omega), hc0]; rfl), rfl⟩ H)))))))
set_option maxHeartbeats 1000000 in
theorem rCut_ok (s : ByteArray) (f : Int) (t : Int) :
    Cn Tryz.prog 147 [.string s, .int .i64 f, .int .i64 t] [] [] (fun v Bs => v = .string (cutS s f t) ∧ Bs = []) := by
 intro w0 F0 H
 refine enter (args := [.string s, .int .i64 f, .int .i64 t]) Tryz.func147 rfl rfl (Nat.le_of_ble_eq_true rfl) (c_seq (c_reg (s_1 rfl (s_nil (q_then (c_seq (c_reg (s_1 rfl (s_val rfl rfl (r_lenS rfl un9 rfl) (s_1 rfl (s_nil (q_then (c_seq (c_reg (s_1 rfl (s_val rfl rfl (r_max (z := max f 0) rfl rfl rfl rfl) (s_1 rfl (s_val rfl rfl (r_min (z := min (max f 0) ((s.size : Nat) : Int)) rfl rfl rfl rfl) (s_1 rfl (s_val rfl rfl (r_max (z := max t 0) rfl rfl rfl rfl) (s_1 rfl (s_val rfl rfl (r_min (z := min (max t 0) ((s.size : Nat) : Int)) rfl rfl rfl rfl) (s_k 2 rfl (s_nil (q_then (c_seq (c_seq (c_reg (s_k 2 rfl (s_val rfl rfl (r_le rfl rfl rfl) (s_nil (q_then ?_))))))))))))))))))))))))))))))))
 refine c_dec (p := (min (max t 0) ((s.size : Nat) : Int)) ≤ (min (max f 0) ((s.size : Nat) : Int))) rfl (fun h1 => ?_) (fun h1 => ?_)
 ·exact c_seq (c_reg (s_1 rfl (s_nil (q_then (c_ret (q_thenR (q_ret1 rfl rfl (fin ⟨congrArg Value.string (if_pos h1).symm, rfl⟩ H))))))))
 ·exact c_skip (q_then (c_seq (c_reg (s_k 3 rfl (s_val rfl rfl (r_cutStr (r := s.extract (min (max f 0) ((s.size : Nat) : Int)).toNat (min (max t 0) ((s.size : Nat) : Int)).toNat) rfl un9 rfl rfl rfl (by omega) (by omega) (by omega) rfl) (s_1 rfl (s_nil (q_then (c_ret (q_ret1 rfl rfl (fin ⟨congrArg Value.string (if_neg h1).symm, rfl⟩ H)))))))))))
end Go.Proofs.YtlpgdkbokakniaaGreatDoor.X

