/- SnapOf: texts J2, R6, R7, R8, G1, joined by a program of ours; what nothing names is left out. -/
import Derived.Test.YtlpgdkbokakniaaGreatDoorSnapOfQ4
import Derived.Test.YtlpgdkbokakniaaGreatDoorRows
import Derived.LaidSub
import Derived.Lib.LaidTab
import Derived.Stop.LaidErr
set_option linter.unusedVariables false
set_option linter.unusedSimpArgs false
set_option maxHeartbeats 8000000
namespace Go.Proofs.YtlpgdkbokakniaaGreatDoor.X
open Go
theorem two_ok (vxs : Value) (xs : List Pair) (vys : Value) (ys : List Pair) (hb : xs.length + ys.length ≤ 1000000) :
    Cn Tryz.prog 41 [vxs, vys] [] [rsl kPair vxs xs, rsl kPair vys ys] (fun v Bs => Bs = [osl kPair v (srt (xs ++ ys))]) := by
 intro w0 F0 H
 obtain ⟨A1, c2, rfl, hc3, hm4, hp5⟩ := H.fR 0 rfl
 obtain ⟨A6, c7, rfl, hc8, hm9, hp10⟩ := H.fR 1 rfl
 refine enter Tryz.func41 rfl rfl (Nat.le_of_ble_eq_true rfl) (c_seq (c_reg (s_1 rfl (s_nil (q_then ?_)))))
 replace H : Hd _ _ _ [] [rsl kPair (.slice A1 xs.length c2) xs, rsl kPair (.slice A6 ys.length c7) ys] := H
 refine c_seq (c_seq (c_reg (s_1 rfl (sc (sorted_ok (.slice A1 xs.length c2) xs (by first | omega | decide | (simp only [List.length_append, List.length_cons, List.length_nil, srt_len]; omega))) H (lR 0 rfl l0) rfl rfl (e_fn kn27 rfl rfl) ?_))))
 rintro _ _ w ⟨rfl, rfl⟩ H
 refine s_val rfl rfl (r_notP rfl rfl) (s_1 rfl ?_)
 refine s_dec (d := 9) rfl (fun h11 => ?_) (fun h11 => ?_)
 ·refine s_k 4 rfl (s_nil (q_then (c_yes rfl (c_seq (c_reg (s_1 rfl ?_))))))
  replace H := H.newnil kPair
  refine s_appF (xs := []) (ys := xs) rfl rfl rfl sl23 zr56 rfl (by decide) rfl rfl H (by first | omega | (simp only [List.length_append, List.length_cons, List.length_nil]; omega)) (fun F hA hR => hR _ (List.mem_of_getElem? (i := 0) rfl)) (fun v12 w H => (s_1 rfl (s_appF (xs := [] ++ xs) (ys := ys) rfl rfl rfl sl23 zr56 rfl (by decide) rfl rfl H (by first | omega | (simp only [List.length_append, List.length_cons, List.length_nil]; omega)) (fun F hA hR => hR _ (List.mem_of_getElem? (i := 1) rfl)) (fun v13 w H => ?_))))
  replace H : Hd _ _ _ [osl kPair v13 (([] ++ xs) ++ ys)] [rsl kPair (.slice A1 xs.length c2) xs, rsl kPair (.slice A6 ys.length c7) ys] := H
  refine sc (pairSort_ok v13 (([] ++ xs) ++ ys) (by first | omega | decide | (simp only [List.length_append, List.length_cons, List.length_nil, srt_len]; omega))) H (lA 0 rfl own_rd l0) rfl rfl (e_fn kn15 rfl rfl) ?_
  rintro v14 _ w rfl H
  replace H := H.h1 (A := osl kPair v14 (srt (([] ++ xs) ++ ys)))
  refine s_1 rfl (s_nil (q_then (c_ret (q_thenR (q_ret1 rfl rfl ?_)))))
  replace H := H.k1.h1 (A := osl kPair v14 (srt (xs ++ ys)))
  exact fin rfl H
 refine s_1 rfl (sc (sorted_ok (.slice A6 ys.length c7) ys (by first | omega | decide | (simp only [List.length_append, List.length_cons, List.length_nil, srt_len]; omega))) H (lR 1 rfl l0) rfl rfl (e_fn kn27 rfl rfl) ?_)
 rintro _ _ w ⟨rfl, rfl⟩ H
 refine s_val rfl rfl (r_notP rfl rfl) (s_1 rfl (s_nil (q_then ?_)))
 refine c_dec rfl (fun h15 => ?_) (fun h15 => ?_)
 ·refine c_seq (c_reg (s_1 rfl ?_))
  replace H := H.newnil kPair
  refine s_appF (xs := []) (ys := xs) rfl rfl rfl sl23 zr56 rfl (by decide) rfl rfl H (by first | omega | (simp only [List.length_append, List.length_cons, List.length_nil]; omega)) (fun F hA hR => hR _ (List.mem_of_getElem? (i := 0) rfl)) (fun v16 w H => (s_1 rfl (s_appF (xs := [] ++ xs) (ys := ys) rfl rfl rfl sl23 zr56 rfl (by decide) rfl rfl H (by first | omega | (simp only [List.length_append, List.length_cons, List.length_nil]; omega)) (fun F hA hR => hR _ (List.mem_of_getElem? (i := 1) rfl)) (fun v17 w H => ?_))))
  replace H : Hd _ _ _ [osl kPair v17 (([] ++ xs) ++ ys)] [rsl kPair (.slice A1 xs.length c2) xs, rsl kPair (.slice A6 ys.length c7) ys] := H
  refine sc (pairSort_ok v17 (([] ++ xs) ++ ys) (by first | omega | decide | (simp only [List.length_append, List.length_cons, List.length_nil, srt_len]; omega))) H (lA 0 rfl own_rd l0) rfl rfl (e_fn kn15 rfl rfl) ?_
  rintro v18 _ w rfl H
  replace H := H.h1 (A := osl kPair v18 (srt (([] ++ xs) ++ ys)))
  refine s_1 rfl (s_nil (q_then (c_ret (q_thenR (q_ret1 rfl rfl ?_)))))
  replace H := H.k1.h1 (A := osl kPair v18 (srt (xs ++ ys)))
  exact fin rfl H
 refine c_skip (q_then (c_seq ?_))
 have hoxs : Ord xs := Classical.not_not.1 h11
 have hoys : Ord ys := Classical.not_not.1 h15
 refine c_reg (s_1 rfl (s_nil (q_then (c_seq (c_block ?_)))))
 replace H := H.newnil kPair |>.dupR 1 rfl |>.dupR 1 rfl
 refine c_loop (σ := Value × Value × List Pair × List Pair × Value × List Pair) (fun (u, v, al, bl, q, zs) => [(0, u), (1, v), (4, .slice none 0 0), (5, q)]) (fun (u, v, al, bl, q, zs) w => (Hd w0 F0 w [osl kPair q zs] [rsl kPair u al, rsl kPair v bl, rsl kPair (.slice A1 xs.length c2) xs, rsl kPair (.slice A6 ys.length c7) ys]) ∧ (Ord al) ∧ (Ord bl) ∧ (zs.length + (al.length + bl.length) = xs.length + ys.length) ∧ (zs ++ srt (al ++ bl) = srt (xs ++ ys))) (fun (u, v, al, bl, q, zs) => al.length + bl.length) (.slice A1 xs.length c2, .slice A6 ys.length c7, xs, ys, .slice none 0 0, []) ⟨rfl, rfl, rfl, rfl, trivial⟩ ⟨H, hoxs, hoys, by (try dsimp only); simp only [List.length_nil]; omega, rfl⟩ ?_
 rintro ⟨u, v, al, bl, q, zs⟩ w ⟨H, ha, hb2, hl, hz⟩
 refine c_seq (c_seq (c_reg (s_1 rfl ?_)))
 obtain ⟨A19, c20, rfl, hc21, hm22, hp23⟩ := H.fR 0 rfl
 refine s_val rfl rfl (r_lenL rfl un23 rfl) (s_val rfl rfl (r_gt rfl rfl rfl) (s_1 rfl ?_))
 refine s_dec (d := 22) rfl (fun h24 => ?_) (fun h24 => ?_)
 ·refine s_1 rfl ?_
  obtain ⟨A25, c26, rfl, hc27, hm28, hp29⟩ := H.fR 1 rfl
  refine s_val rfl rfl (r_lenL rfl un23 rfl) (s_val rfl rfl (r_gt rfl rfl rfl) (s_1 rfl (s_nil (q_then ?_))))
  replace H : Hd _ _ _ [osl kPair q zs] [rsl kPair (.slice A19 al.length c20) al, rsl kPair (.slice A25 bl.length c26) bl, rsl kPair (.slice A1 xs.length c2) xs, rsl kPair (.slice A6 ys.length c7) ys] := H
  refine c_dec rfl (fun h30 => ?_) (fun h30 => ?_)
  ·refine c_skip (q_then (c_block (c_seq (c_seq (c_draw mo (by kernel_rfl) H (u_1 rfl ?_))))))
   obtain ⟨x31, hx32⟩ : ∃ z9, bl[0]? = some z9 := ⟨_, List.getElem?_eq_getElem (show 0 < bl.length by omega)⟩
   have th33 := H.thR 1 rfl hx32
   refine u_val rfl rfl (fun w H => r_iaE (p := oOf A25 + 0 * 2) rfl sl23 rfl rfl (by omega) (by omega) th33 (by omega)) (u_val rfl rfl (fun w H => r_fa rfl fo56_0 rfl) (u_val rfl rfl (fun w H => r_ld rfl ty9 rfl (H.elR 1 rfl hx32 (q := 0) rfl rfl)) (u_1 rfl ?_)))
   obtain ⟨x34, hx35⟩ : ∃ z9, al[0]? = some z9 := ⟨_, List.getElem?_eq_getElem (show 0 < al.length by omega)⟩
   have th36 := H.thR 0 rfl hx35
   refine u_val rfl rfl (fun w H => r_iaE (p := oOf A19 + 0 * 2) rfl sl23 rfl rfl (by omega) (by omega) th36 (by omega)) (u_val rfl rfl (fun w H => r_fa rfl fo56_0 rfl) (u_val rfl rfl (fun w H => r_ld rfl ty9 rfl (H.elR 0 rfl hx35 (q := 0) rfl rfl)) (u_val rfl rfl (fun w H => r_ltS rfl rfl rfl) (u_end (fun w H => (q_then ?_))))))
   refine c_dec rfl (fun h37 => ?_) (fun h37 => ?_)
   ·refine c_seq (c_reg (s_k 2 rfl ?_))
    have th38 := H.thR 1 rfl hx32
    refine s_val rfl rfl (r_iaE (p := oOf A25 + 0 * 2) rfl sl23 rfl rfl (by omega) (by omega) th38 (by omega)) (s_val rfl rfl (r_ldA (cs := [.string x31.key, .string x31.val]) rfl ty56 rfl rfl (H.elsR 1 rfl hx32 rfl)) (s_bsl (parts := [(0, .tmp 39)]) (vs := [.agg #[.string x31.key, .string x31.val]]) (cs := [.string x31.key, .string x31.val]) rfl rfl rfl sl23 zr56 rfl (by decide) (by decide) rfl rfl H (fun b39 w H => ?_)))
    replace H := H.p1
    refine s_appF (xs := zs) (ys := [x31]) rfl rfl rfl sl23 zr56 rfl (by decide) rfl rfl H (by first | omega | (simp only [List.length_append, List.length_cons, List.length_nil]; omega)) (fun F hA hR => blk_rsl (hA _ (List.mem_of_getElem? (i := 0) rfl)) rfl (by decide) (RepsR.flat_eq.2 rfl)) (fun v40 w H => (s_1 rfl (s_nil (q_then ?_))))
    replace H : Hd _ _ _ [osl kPair v40 (zs ++ [x31]), blk b39 [.string x31.key, .string x31.val] 56] [rsl kPair (.slice A19 al.length c20) al, rsl kPair (.slice A25 bl.length c26) bl, rsl kPair (.slice A1 xs.length c2) xs, rsl kPair (.slice A6 ys.length c7) ys] := H
    refine c_seq (c_reg (s_1 rfl (s_val rfl rfl (r_cutS rfl sl23 rfl rfl (by omega) (by omega) rfl) (s_1 rfl (s_nil (q_then (c_exit (q_thenE (q_blockE ?_)))))))))
    replace H := H.k1.sufR 1 rfl (n := 1) (by omega)
    replace H : Hd w0 F0 w [osl kPair v40 (zs ++ [x31])] [rsl kPair (.slice A19 al.length c20) al, rsl kPair (.slice (cutA A25 c26 1 2) (bl.length - 1) (c26 - 1)) (bl.drop 1), rsl kPair (.slice A1 xs.length c2) xs, rsl kPair (.slice A6 ys.length c7) ys] := H.pickR [1, 0, 3, 4]
    have hz2 : (zs ++ [x31]) ++ srt (al ++ bl.drop 1) = srt (xs ++ ys) := by rw [← hz, mer_b hx35 hx32 ha hb2 h37, List.append_assoc]; rfl
    exact q_round (s := (undef, undef, al, bl, undef, zs)) (.slice A19 al.length c20, .slice (cutA A25 c26 1 2) (bl.length - 1) (c26 - 1), al, bl.drop 1, v40, zs ++ [x31]) ⟨rfl, rfl, rfl, rfl, trivial⟩ ⟨H, ha, ord_drop hb2 1, by (try dsimp only); simp only [List.length_append, List.length_cons, List.length_nil, List.length_drop]; omega, hz2⟩ (by (try dsimp only); simp only [List.length_drop]; omega)
   refine c_skip (q_then (c_seq (c_reg (s_k 2 rfl ?_))))
   have th41 := H.thR 0 rfl hx35
   refine s_val rfl rfl (r_iaE (p := oOf A19 + 0 * 2) rfl sl23 rfl rfl (by omega) (by omega) th41 (by omega)) (s_val rfl rfl (r_ldA (cs := [.string x34.key, .string x34.val]) rfl ty56 rfl rfl (H.elsR 0 rfl hx35 rfl)) (s_bsl (parts := [(0, .tmp 47)]) (vs := [.agg #[.string x34.key, .string x34.val]]) (cs := [.string x34.key, .string x34.val]) rfl rfl rfl sl23 zr56 rfl (by decide) (by decide) rfl rfl H (fun b42 w H => ?_)))
   replace H := H.p1
   refine s_appF (xs := zs) (ys := [x34]) rfl rfl rfl sl23 zr56 rfl (by decide) rfl rfl H (by first | omega | (simp only [List.length_append, List.length_cons, List.length_nil]; omega)) (fun F hA hR => blk_rsl (hA _ (List.mem_of_getElem? (i := 0) rfl)) rfl (by decide) (RepsR.flat_eq.2 rfl)) (fun v43 w H => (s_1 rfl (s_nil (q_then ?_))))
   replace H : Hd _ _ _ [osl kPair v43 (zs ++ [x34]), blk b42 [.string x34.key, .string x34.val] 56] [rsl kPair (.slice A19 al.length c20) al, rsl kPair (.slice A25 bl.length c26) bl, rsl kPair (.slice A1 xs.length c2) xs, rsl kPair (.slice A6 ys.length c7) ys] := H
   refine c_reg (s_1 rfl (s_val rfl rfl (r_cutS rfl sl23 rfl rfl (by omega) (by omega) rfl) (s_1 rfl (s_nil (q_blockN ?_)))))
   replace H := H.k1.sufR 0 rfl (n := 1) (by omega)
   replace H : Hd w0 F0 w [osl kPair v43 (zs ++ [x34])] [rsl kPair (.slice (cutA A19 c20 1 2) (al.length - 1) (c20 - 1)) (al.drop 1), rsl kPair (.slice A25 bl.length c26) bl, rsl kPair (.slice A1 xs.length c2) xs, rsl kPair (.slice A6 ys.length c7) ys] := H.pickR [0, 2, 3, 4]
   have hz2 : (zs ++ [x34]) ++ srt (al.drop 1 ++ bl) = srt (xs ++ ys) := by rw [← hz, mer_a hx35 hx32 ha hb2 h37, List.append_assoc]; rfl
   exact q_round (s := (undef, undef, al, bl, undef, zs)) (.slice (cutA A19 c20 1 2) (al.length - 1) (c20 - 1), .slice A25 bl.length c26, al.drop 1, bl, v43, zs ++ [x34]) ⟨rfl, rfl, rfl, rfl, trivial⟩ ⟨H, ord_drop ha 1, hb2, by (try dsimp only); simp only [List.length_append, List.length_cons, List.length_nil, List.length_drop]; omega, hz2⟩ (by (try dsimp only); simp only [List.length_drop]; omega)
  refine c_exit (q_thenE (q_thenE (q_blockE (q_then (c_seq (c_reg (s_k 2 rfl (s_appF (xs := zs) (ys := al) rfl rfl rfl sl23 zr56 rfl (by decide) rfl rfl H (by first | omega | (simp only [List.length_append, List.length_cons, List.length_nil]; omega)) (fun F hA hR => hR _ (List.mem_of_getElem? (i := 0) rfl)) (fun v44 w H => (s_1 rfl (s_appF (xs := zs ++ al) (ys := bl) rfl rfl rfl sl23 zr56 rfl (by decide) rfl rfl H (by first | omega | (simp only [List.length_append, List.length_cons, List.length_nil]; omega)) (fun F hA hR => hR _ (List.mem_of_getElem? (i := 1) rfl)) (fun v45 w H => ?_))))))))))))
  replace H := H.h1 (A := osl kPair v45 ((zs ++ al) ++ bl))
  refine s_1 rfl (s_nil (q_then (c_ret (q_ret1 rfl rfl ?_))))
  replace H : Hd w0 F0 w [osl kPair v45 (srt (xs ++ ys))] [rsl kPair (.slice A19 al.length c20) al, rsl kPair (.slice A25 bl.length c26) bl, rsl kPair (.slice A1 xs.length c2) xs, rsl kPair (.slice A6 ys.length c7) ys] := by rw [← hz, mer_end ha hb2 (by omega), ← List.append_assoc]; exact H
  replace H := H.dropR |>.dropR
  exact fin rfl H
 refine s_k 4 rfl (s_nil (q_then ?_))
 replace H : Hd _ _ _ [osl kPair q zs] [rsl kPair (.slice A19 al.length c20) al, rsl kPair v bl, rsl kPair (.slice A1 xs.length c2) xs, rsl kPair (.slice A6 ys.length c7) ys] := H
 refine c_no rfl (c_exit (q_thenE (q_thenE (q_blockE (q_then (c_seq (c_reg (s_k 2 rfl (s_appF (xs := zs) (ys := al) rfl rfl rfl sl23 zr56 rfl (by decide) rfl rfl H (by first | omega | (simp only [List.length_append, List.length_cons, List.length_nil]; omega)) (fun F hA hR => hR _ (List.mem_of_getElem? (i := 0) rfl)) (fun v46 w H => (s_1 rfl ?_)))))))))))
 obtain ⟨A47, c48, rfl, hc49, hm50, hp51⟩ := H.fR 1 rfl
 refine s_appF (xs := zs ++ al) (ys := bl) rfl rfl rfl sl23 zr56 rfl (by decide) rfl rfl H (by first | omega | (simp only [List.length_append, List.length_cons, List.length_nil]; omega)) (fun F hA hR => hR _ (List.mem_of_getElem? (i := 1) rfl)) (fun v52 w H => (s_1 rfl (s_nil (q_then ?_))))
 replace H : Hd _ _ _ [osl kPair v52 ((zs ++ al) ++ bl)] [rsl kPair (.slice A19 al.length c20) al, rsl kPair (.slice A47 bl.length c48) bl, rsl kPair (.slice A1 xs.length c2) xs, rsl kPair (.slice A6 ys.length c7) ys] := H
 refine c_ret (q_ret1 rfl rfl ?_)
 replace H : Hd w0 F0 w [osl kPair v52 (srt (xs ++ ys))] [rsl kPair (.slice A19 al.length c20) al, rsl kPair (.slice A47 bl.length c48) bl, rsl kPair (.slice A1 xs.length c2) xs, rsl kPair (.slice A6 ys.length c7) ys] := by rw [← hz, mer_end ha hb2 (by omega), ← List.append_assoc]; exact H
 replace H := H.dropR |>.dropR
 exact fin rfl H
theorem runs_ok (vus : Value) (us : List (Value × List Pair)) (hb : (flat2 us).length ≤ 1000000) :
    Cn Tryz.prog 18 [vus] [] [rsl (kHd kPair) vus us] (fun v Bs => Bs = [osl kPair v (srt (flat2 us))]) := by
 intro w0 F0 H
 obtain ⟨A1, c2, rfl, hc3, hm4, hp5⟩ := H.fR 0 rfl
 refine enter Tryz.func18 rfl rfl (Nat.le_of_ble_eq_true rfl) (c_seq (c_reg (s_1 rfl (s_nil (q_then ?_)))))
 replace H : Hd _ _ _ [] [rsl (kHd kPair) (.slice A1 us.length c2) us] := H
 refine c_seq (c_reg (s_1 rfl (s_nil (q_then (c_seq (c_seq (c_reg (s_1 rfl (s_val rfl rfl (r_lenL rfl un31 rfl) (s_1 rfl (s_nil (q_then (c_block ?_)))))))))))))
 replace H := H.newnil kPair
 refine c_loop (σ := Nat × Value) (fun (k, q) => [(2, .slice none 0 0), (3, q), (6, .slice A1 us.length c2), (7, .int .i64 ((us.length : Nat) : Int)), (8, .int .i64 ((k : Nat) : Int))]) (fun (k, q) w => (Hd w0 F0 w [osl kPair q (srt (flat2 (us.take k)))] [rsl (kHd kPair) (.slice A1 us.length c2) us]) ∧ (k ≤ us.length)) (fun (k, q) => us.length - k) (0, .slice none 0 0) ⟨rfl, rfl, rfl, rfl, rfl, trivial⟩ ⟨H, by (try dsimp only); omega⟩ ?_
 rintro ⟨k, q⟩ w ⟨H, hk⟩
 have hsl := srt_len (flat2 (us.take k))
 refine c_seq (c_reg (s_val rfl rfl (r_lt rfl rfl rfl) (s_nil (q_then (c_seq ?_)))))
 refine c_dec rfl (fun h6 => ?_) (fun h6 => ?_)
 ·refine c_skip (q_then (c_seq (c_block (c_seq (c_reg ?_)))))
  obtain ⟨⟨u9, x7⟩, hx8⟩ : ∃ z9, us[k]? = some z9 := ⟨_, List.getElem?_eq_getElem (show k < us.length by omega)⟩
  obtain ⟨A10, c11, rfl, hc12, hm13⟩ := H.nestR 0 rfl hx8
  have th14 := H.thRd 0 rfl hx8
  refine s_val rfl rfl (r_iaE (p := oOf A1 + k * 1) rfl sl31 rfl rfl (by omega) (by omega) th14 rfl) (s_val rfl rfl (r_ld rfl ty23 rfl (H.elRd 0 rfl hx8 rfl)) (s_1 rfl (s_nil (q_then ?_))))
  have hfl := flat2_le us (k + 1)
  rw [flat2_step hx8, List.length_append] at hfl
  refine c_reg (s_k 2 rfl (sc (two_ok q (srt (flat2 (us.take k))) (.slice A10 x7.length c11) x7 (by first | omega | decide | (simp only [List.length_append, List.length_cons, List.length_nil, srt_len]; omega))) H (lA 0 rfl own_rd (lX (fun F hA hR => nest_rsl (hR _ (List.mem_of_getElem? (i := 0) rfl)) hx8) l0)) rfl rfl (e_fn kn41 rfl rfl) ?_))
  rintro v15 _ w rfl H
  refine s_1 rfl (s_nil (q_blockN (q_then ?_)))
  replace H : Hd _ _ _ [osl kPair v15 (srt ((srt (flat2 (us.take k))) ++ x7)), osl kPair q (srt (flat2 (us.take k)))] [rsl (kHd kPair) (.slice A1 us.length c2) us] := H
  refine c_reg (s_val rfl rfl (r_add (z := ((k + 1 : Nat) : Int)) rfl rfl rfl (by rw [w64 (by omega) (by omega)]; omega)) (s_1 rfl (s_nil ?_)))
  replace H := H.k1
  replace H : Hd w0 F0 w [osl kPair v15 (srt (flat2 (us.take (k + 1))))] [rsl (kHd kPair) (.slice A1 us.length c2) us] := by rw [flat2_step hx8, ← srt_app_srt]; exact H
  exact q_round (s := (k, undef)) (k + 1, v15) ⟨rfl, rfl, rfl, rfl, rfl, trivial⟩ ⟨H, by (try dsimp only); omega⟩ (by (try dsimp only); omega)
 refine c_exit (q_thenE (q_thenE (q_blockE (q_then (c_seq (c_reg (s_k 2 rfl (s_nil (q_then (c_ret (q_ret1 rfl rfl ?_)))))))))))
 replace H : Hd w0 F0 w [osl kPair q (srt (flat2 us))] [rsl (kHd kPair) (.slice A1 us.length c2) us] := by rw [List.take_of_length_le (show us.length ≤ k by omega)] at H; exact H
 exact fin rfl H
theorem rRuns_ok (vus : Value) (us : List (Value × List Pair)) (hb : (flat2 us).length ≤ 1000000) :
    Cn Tryz.prog 40 [vus] [] [rsl (kHd kPair) vus us] (fun v Bs => Bs = [osl kPair v (srt (flat2 us))]) := by
 intro w0 F0 H
 obtain ⟨A1, c2, rfl, hc3, hm4, hp5⟩ := H.fR 0 rfl
 refine enter Tryz.func40 rfl rfl (Nat.le_of_ble_eq_true rfl) (c_seq (c_reg (s_1 rfl (s_nil (q_then ?_)))))
 replace H : Hd _ _ _ [] [rsl (kHd kPair) (.slice A1 us.length c2) us] := H
 refine c_seq (c_reg (s_1 rfl (s_nil (q_then (c_seq (c_seq (c_reg (s_1 rfl (s_nil (q_then (c_block ?_)))))))))))
 replace H := H.newnil kPair
 refine c_loop (σ := Nat × Value) (fun (k, q) => [(0, .slice A1 us.length c2), (2, .slice none 0 0), (3, q), (4, .int .i64 ((k : Nat) : Int))]) (fun (k, q) w => (Hd w0 F0 w [osl kPair q (flat2 (us.take k))] [rsl (kHd kPair) (.slice A1 us.length c2) us]) ∧ (k ≤ us.length)) (fun (k, q) => us.length - k) (0, .slice none 0 0) ⟨rfl, rfl, rfl, rfl, trivial⟩ ⟨H, by (try dsimp only); omega⟩ ?_
 rintro ⟨k, q⟩ w ⟨H, hk⟩
 have hfk := flat2_le us k
 refine c_seq (c_seq (c_reg (s_k 2 rfl (s_val rfl rfl (r_lenL rfl un31 rfl) (s_val rfl rfl (r_lt rfl rfl rfl) (s_nil (q_then ?_)))))))
 refine c_dec rfl (fun h6 => ?_) (fun h6 => ?_)
 ·refine c_skip (q_then (c_seq (c_block (c_reg (s_k 3 rfl ?_)))))
  obtain ⟨⟨u9, x7⟩, hx8⟩ : ∃ z9, us[k]? = some z9 := ⟨_, List.getElem?_eq_getElem (show k < us.length by omega)⟩
  obtain ⟨A10, c11, rfl, hc12, hm13⟩ := H.nestR 0 rfl hx8
  have hfl := flat2_le us (k + 1)
  rw [flat2_step hx8, List.length_append] at hfl
  have th14 := H.thRd 0 rfl hx8
  refine s_val rfl rfl (r_iaE (p := oOf A1 + k * 1) rfl sl31 rfl rfl (by omega) (by omega) th14 rfl) (s_val rfl rfl (r_ld rfl ty23 rfl (H.elRd 0 rfl hx8 rfl)) (s_appF (xs := flat2 (us.take k)) (ys := x7) rfl rfl rfl sl23 zr56 rfl (by decide) rfl rfl H (by omega) (fun F hA hR => nest_rsl (hR _ (List.mem_of_getElem? (i := 0) rfl)) hx8) (fun v15 w H => (s_1 rfl (s_nil (q_blockN (q_then ?_)))))))
  replace H : Hd _ _ _ [osl kPair v15 ((flat2 (us.take k)) ++ x7)] [rsl (kHd kPair) (.slice A1 us.length c2) us] := H
  refine c_reg (s_1 rfl (s_val rfl rfl (r_add (z := ((k + 1 : Nat) : Int)) rfl rfl rfl (by rw [w64 (by omega) (by omega)]; omega)) (s_1 rfl (s_nil ?_))))
  replace H : Hd w0 F0 w [osl kPair v15 (flat2 (us.take (k + 1)))] [rsl (kHd kPair) (.slice A1 us.length c2) us] := by rw [flat2_step hx8]; exact H
  exact q_round (s := (k, undef)) (k + 1, v15) ⟨rfl, rfl, rfl, rfl, trivial⟩ ⟨H, by (try dsimp only); omega⟩ (by (try dsimp only); omega)
 refine c_exit (q_thenE (q_thenE (q_blockE (q_then (c_seq (c_reg (s_1 rfl (sc (rSort_ok q (flat2 (us.take k)) (by first | omega | decide | (simp only [List.length_append, List.length_cons, List.length_nil, srt_len]; omega))) H (lA 0 rfl own_rd l0) rfl rfl (e_fn kn65 rfl rfl) ?_))))))))
 rintro v16 _ w rfl H
 replace H := H.h2 (A := osl kPair v16 (srt (flat2 (us.take k)))) (B := osl kPair q (flat2 (us.take k)))
 refine s_1 rfl (s_nil (q_then (c_ret (q_ret1 rfl rfl ?_))))
 replace H := H.k1
 replace H : Hd w0 F0 w [osl kPair v16 (srt (flat2 us))] [rsl (kHd kPair) (.slice A1 us.length c2) us] := by rw [List.take_of_length_le (show us.length ≤ k by omega)] at H; exact H
 exact fin rfl H
theorem rRunR_ok (vp : Value) (p : List Ins) (key : ByteArray) (vv : Value) (vals : List ByteArray) (fuel : Int) (hpa : ∀ i ∈ p, In64 i.a) (hfu : In64 fuel) :
    Cn Tryz.prog 82 [vp, .string key, vv, .int .i64 fuel] [] [rsl kIns vp p, rsl kStr vv vals] (fun v Bs => ∃ u : Value, v = .tuple #[u, .int .i64 ((runM dg p key vals fuel).2)] ∧ Bs = [osl kPair u ((runM dg p key vals fuel).1)]) := by
 intro w0 F0 H
 obtain ⟨A1, c2, rfl, hc3, hm4, hp5⟩ := H.fR 0 rfl
 obtain ⟨A6, c7, rfl, hc8, hm9, hp10⟩ := H.fR 1 rfl
 refine enter Tryz.func82 rfl rfl (Nat.le_of_ble_eq_true rfl) (c_seq (c_reg (s_k 2 rfl (s_nil (q_then ?_)))))
 replace H : Hd _ _ _ [] [rsl kIns (.slice A1 p.length c2) p, rsl kStr (.slice A6 vals.length c7) vals] := H
 refine c_seq (c_reg (s_k 4 rfl (sc (rRun0_ok (.slice A1 p.length c2) p key (.slice A6 vals.length c7) vals fuel (by first | omega | decide | assumption) (by first | omega | decide | assumption)) H (lR 0 rfl (lR 1 rfl l0)) rfl rfl (e_fn kn91 rfl rfl) ?_)))
 rintro _ _ w ⟨u11, dn12, rfl, rfl⟩ H
 replace H := H.h1 (A := osl kPair u11 ((runM dg p key vals fuel).1))
 exact s_k 7 rfl (s_nil (q_then (c_seq (c_reg (s_k 4 rfl (s_nil (q_then (c_ret (q_ret2 rfl rfl rfl (fin ⟨u11, rfl, rfl⟩ H))))))))))
theorem rEach_ok (vp : Value) (p : List Ins) (vps : Value) (ps : List Pair) (fuel : Int) (own : Bool) (hpa : ∀ i ∈ p, In64 i.a) (hfu : In64 fuel) (hb : ps.length ≤ 1000000) :
    Cn Tryz.prog 64 [vp, vps, .int .i64 fuel, .bool own] [] [rsl kIns vp p, rsl kPair vps ps] (fun v Bs => ∃ u : Value, v = .tuple #[u, .int .i64 ((eachM dg p ps fuel own).2)] ∧ Bs = [osl kPair u ((eachM dg p ps fuel own).1)]) := by
 intro w0 F0 H
 obtain ⟨A1, c2, rfl, hc3, hm4, hp5⟩ := H.fR 0 rfl
 obtain ⟨A6, c7, rfl, hc8, hm9, hp10⟩ := H.fR 1 rfl
 refine enter Tryz.func64 rfl rfl (Nat.le_of_ble_eq_true rfl) (c_seq (c_reg (s_k 2 rfl (s_nil (q_then ?_)))))
 replace H : Hd _ _ _ [] [rsl kIns (.slice A1 p.length c2) p, rsl kPair (.slice A6 ps.length c7) ps] := H
 refine c_seq (c_reg (s_1 rfl (s_nil (q_then (c_seq (c_reg (s_1 rfl (sc (rKeys_ok (.slice A6 ps.length c7) ps (by first | omega | decide | assumption)) H (lR 1 rfl l0) rfl rfl (e_fn kn81 rfl rfl) ?_))))))))
 rintro v11 _ w rfl H
 replace H := H.h1 (A := osl kStr v11 (refK [] (ps.map (·.key))))
 refine s_1 rfl (s_nil (q_then (c_seq (c_seq (c_reg (s_1 rfl (s_nil (q_then (c_block ?_)))))))))
 replace H : Hd w0 F0 w [osl kStr v11 (keysL ps)] [rsl kIns (.slice A1 p.length c2) p, rsl kPair (.slice A6 ps.length c7) ps] := by rw [keys_ref]; exact H
 obtain ⟨A12, c13, rfl, hc14, hm15, hp16⟩ := H.fA 0 rfl
 replace H := H.newnil kPair
 refine c_loop (σ := Nat × Value × List Pair) (fun (i, q, out) => [(0, .slice A1 p.length c2), (1, .slice A6 ps.length c7), (2, .int .i64 fuel), (3, .bool own), (10, q), (11, .slice A12 ((keysL ps).length) c13), (12, .int .i64 ((i : Nat) : Int))]) (fun (i, q, out) w => (Hd w0 F0 w [osl kPair q out, osl kStr (.slice A12 ((keysL ps).length) c13) (keysL ps)] [rsl kIns (.slice A1 p.length c2) p, rsl kPair (.slice A6 ps.length c7) ps]) ∧ (i ≤ (keysL ps).length) ∧ (eachGo dg p ps fuel own ((keysL ps).drop i) out = eachM dg p ps fuel own) ∧ (out.length ≤ 40)) (fun (i, q, out) => (keysL ps).length - i) (0, .slice none 0 0, []) ⟨rfl, rfl, rfl, rfl, rfl, rfl, rfl, trivial⟩ ⟨H, Nat.zero_le _, rfl, Nat.zero_le _⟩ ?_
 rintro ⟨i, q, out⟩ w ⟨H, hi, hgo, ho⟩
 have hkl := keysL_len ps
 refine c_seq (c_seq (c_reg (s_k 2 rfl (s_val rfl rfl (r_lenL rfl un75 rfl) (s_val rfl rfl (r_lt rfl rfl rfl) (s_nil (q_then ?_)))))))
 refine c_dec rfl (fun h17 => ?_) (fun h17 => ?_)
 ·refine c_skip (q_then (c_seq (c_block (c_seq (c_ord (.e 0 (.e 1 (.e 2 (.e 3 (.e 4 (.e 5 (.e 6 (.e 7 (.e 8 (.e 9 (.e 11 (.m 10 (.m 12 (.e 13 (.e 14 (.e 15 (.e 16 (.e 17 .z)))))))))))))))))) (fun w => ∃ Ar, Hd w0 F0 w (osl kPair q out :: osl kStr (.slice A12 ((keysL ps).length) c13) (keysL ps) :: Ar) [rsl kIns (.slice A1 p.length c2) p, rsl kPair (.slice A6 ps.length c7) ps]) mo (by kernel_rfl) (fun w H => ⟨_, H⟩) H (fun w H => (d_1 rfl (d_1 rfl (d_1 rfl ?_)))))))))
  obtain ⟨x18, hx19⟩ : ∃ z9, (keysL ps)[i]? = some z9 := ⟨_, List.getElem?_eq_getElem (show i < (keysL ps).length by omega)⟩
  have th20 := H.thA 1 rfl hx19
  refine d_val rfl rfl rfl (fun w ⟨Ar, H⟩ => r_iaE (p := oOf A12 + i * 1) rfl sl75 rfl rfl (by omega) (by omega) th20 rfl) (d_val rfl rfl rfl (fun w ⟨Ar, H⟩ => r_ld rfl ty9 rfl (H.elA 1 rfl hx19 (q := 0) rfl rfl)) (d_1 rfl (d_1 rfl (d_1 rfl ?_))))
  have th21 := H.thA 1 rfl hx19
  refine d_val rfl rfl rfl (fun w ⟨Ar, H⟩ => r_iaE (p := oOf A12 + i * 1) rfl sl75 rfl rfl (by omega) (by omega) th21 rfl) (d_val rfl rfl rfl (fun w ⟨Ar, H⟩ => r_ld rfl ty9 rfl (H.elA 1 rfl hx19 (q := 0) rfl rfl)) (d_1 rfl (d_main rfl (sc (rOf_ok (.slice A6 ps.length c7) ps x18 (by first | omega | decide | assumption)) H (lR 1 rfl l0) rfl rfl (e_fn kn83 rfl rfl) ?_))))
  rintro v22 _ w rfl H
  replace H : Hd _ _ _ [osl kStr v22 (ofL ps x18), osl kPair q out, osl kStr (.slice A12 ((keysL ps).length) c13) (keysL ps)] [rsl kIns (.slice A1 p.length c2) p, rsl kPair (.slice A6 ps.length c7) ps] := H
  replace H := H.p2.p2
  refine d_back ⟨_, H⟩ (d_main rfl (sc (rRunR_ok (.slice A1 p.length c2) p x18 v22 (ofL ps x18) fuel (by first | exact hpa | exact in64_first | assumption) (by first | assumption | (unfold In64; omega))) H (lR 0 rfl (lA 2 rfl own_rd l0)) rfl rfl (e_fn kn82 rfl rfl) ?_))
  rintro _ _ w ⟨u23, rfl, rfl⟩ H
  replace H := H.h1 (A := osl kPair u23 ((runM dg p x18 (ofL ps x18) fuel).1)) |>.p2 |>.p2
  refine d_back ⟨_, H⟩ (d_1 rfl (d_1 rfl (d_1 rfl (d_1 rfl (d_1 rfl (d_nil (q_then (c_seq (c_seq (c_reg (s_1 rfl (s_val rfl rfl (r_ne rfl rfl rfl) (s_nil (q_then ?_))))))))))))))
  refine c_dec rfl (fun h24 => ?_) (fun h24 => ?_)
  ·refine c_seq (c_reg (s_k 3 rfl (s_nil (q_then (c_ret (q_thenR (q_blockR (q_thenR (q_thenR (q_blockR (q_thenR (q_ret2 rfl rfl rfl ?_))))))))))))
   have e : eachM dg p ps fuel own = ([], (runM dg p x18 (ofL ps x18) fuel).2) := hgo.symm.trans (go_why hx19 h24)
   replace H := H.newnil kPair |>.k1
   exact fin ⟨(.slice none 0 0), by rw [e] <;> rfl, by rw [e] <;> rfl⟩ H
  refine c_skip (q_then (c_seq (c_seq (c_reg (s_1 rfl (s_nil (q_then (c_block ?_))))))))
  obtain ⟨A25, c26, rfl, hc27, hm28, hp29⟩ := H.fA 2 rfl
  have hrt := run_told dg p x18 (ofL ps x18) fuel
  replace H := H.k3
  refine c_loop (σ := Nat) (fun k => [(0, .slice A1 p.length c2), (1, .slice A6 ps.length c7), (2, .int .i64 fuel), (3, .bool own), (10, q), (11, .slice A12 ((keysL ps).length) c13), (12, .int .i64 ((i : Nat) : Int)), (13, .slice A25 (((runM dg p x18 (ofL ps x18) fuel).1).length) c26), (15, .int .i64 ((k : Nat) : Int))]) (fun k w => (Hd w0 F0 w [osl kPair q out, osl kStr (.slice A12 ((keysL ps).length) c13) (keysL ps), osl kPair (.slice A25 (((runM dg p x18 (ofL ps x18) fuel).1).length) c26) ((runM dg p x18 (ofL ps x18) fuel).1)] [rsl kIns (.slice A1 p.length c2) p, rsl kPair (.slice A6 ps.length c7) ps]) ∧ (k ≤ ((runM dg p x18 (ofL ps x18) fuel).1).length) ∧ (∀ y ∈ ((runM dg p x18 (ofL ps x18) fuel).1).take k, y.key = x18)) (fun k => ((runM dg p x18 (ofL ps x18) fuel).1).length - k) 0 ⟨rfl, rfl, rfl, rfl, rfl, rfl, rfl, rfl, rfl, trivial⟩ ⟨H, Nat.zero_le _, by (try dsimp only); simp⟩ ?_
  rintro k w ⟨H, hk, hn⟩
  refine c_seq (c_seq (c_reg (s_k 2 rfl (s_val rfl rfl (r_lenL rfl un23 rfl) (s_val rfl rfl (r_lt rfl rfl rfl) (s_1 rfl ?_))))))
  refine s_dec (d := 47) rfl (fun h30 => ?_) (fun h30 => ?_)
  ·refine s_k 2 rfl (s_nil (q_then ?_))
   refine c_cond (b := own) rfl (fun h31 => ?_) (fun h31 => ?_)
   ·refine c_skip (q_then (c_seq (c_block (c_seq (c_draw mo (by kernel_rfl) H (u_k 2 rfl ?_))))))
    obtain ⟨x32, hx33⟩ : ∃ z9, ((runM dg p x18 (ofL ps x18) fuel).1)[k]? = some z9 := ⟨_, List.getElem?_eq_getElem (show k < ((runM dg p x18 (ofL ps x18) fuel).1).length by omega)⟩
    have th34 := H.thA 2 rfl hx33
    refine u_val rfl rfl (fun w H => r_iaE (p := oOf A25 + k * 2) rfl sl23 rfl rfl (by omega) (by omega) th34 rfl) (u_val rfl rfl (fun w H => r_fa rfl fo56_0 rfl) (u_val rfl rfl (fun w H => r_ld rfl ty9 rfl (H.elA 2 rfl hx33 (q := 0) rfl rfl)) (u_k 2 rfl ?_)))
    have th35 := H.thA 1 rfl hx19
    refine u_val rfl rfl (fun w H => r_iaE (p := oOf A12 + i * 1) rfl sl75 rfl rfl (by omega) (by omega) th35 rfl) (u_val rfl rfl (fun w H => r_ld rfl ty9 rfl (H.elA 1 rfl hx19 (q := 0) rfl rfl)) (u_val rfl rfl (fun w H => r_neS rfl rfl rfl) (u_end (fun w H => (q_then ?_)))))
    refine c_dec rfl (fun h36 => ?_) (fun h36 => ?_)
    ·refine c_seq (c_reg (s_k 2 rfl (s_nil (q_then (c_ret (q_blockR (q_thenR (q_thenR (q_blockR (q_thenR (q_blockR (q_thenR (q_thenR (q_blockR (q_thenR (q_ret2 rfl rfl rfl ?_))))))))))))))))
     have e : eachM dg p ps fuel own = ([], 6) := hgo.symm.trans (go_key hx19 h24 h31 (key_one hx33 h36))
     replace H := H.newnil kPair |>.k1
     replace H : Hd _ _ _ [osl kPair (.slice none 0 0) []] [rsl kIns (.slice A1 p.length c2) p, rsl kPair (.slice A6 ps.length c7) ps] := H
     exact fin ⟨(.slice none 0 0), by rw [e] <;> rfl, by rw [e] <;> rfl⟩ H
    exact c_skip (q_blockN (q_then (c_reg (s_1 rfl (s_val rfl rfl (r_add (z := ((k + 1 : Nat) : Int)) rfl rfl rfl (by rw [w64 (by omega) (by omega)]; omega)) (s_1 rfl (s_nil (q_round (s := k) (k + 1) ⟨rfl, rfl, rfl, rfl, rfl, rfl, rfl, rfl, rfl, trivial⟩ ⟨H, by (try dsimp only); omega, take_prop hn hx33 (Classical.not_not.1 h36)⟩ (by (try dsimp only); omega)))))))))
   refine c_exit (q_thenE (q_thenE (q_blockE (q_then (c_seq (c_seq ?_))))))
   have hkn : ¬ (own = true ∧ otherKey x18 (runM dg p x18 (ofL ps x18) fuel).1 = true) := fun h => by rw [h.1] at h31; cases h31
   refine c_reg (s_1 rfl ?_)
   obtain ⟨A37, c38, rfl, hc39, hm40, hp41⟩ := H.fA 0 rfl
   refine s_val rfl rfl (r_lenL rfl un23 rfl) (s_1 rfl (s_val rfl rfl (r_lenL rfl un23 rfl) (s_val rfl rfl (r_add (z := ((out.length + ((runM dg p x18 (ofL ps x18) fuel).1).length : Nat) : Int)) rfl rfl rfl (by rw [w64 (by omega) (by omega)]; omega)) (s_val rfl rfl (r_gt rfl rfl rfl) (s_nil (q_then ?_))))))
   replace H : Hd _ _ _ [osl kPair (.slice A37 out.length c38) out, osl kStr (.slice A12 ((keysL ps).length) c13) (keysL ps), osl kPair (.slice A25 (((runM dg p x18 (ofL ps x18) fuel).1).length) c26) ((runM dg p x18 (ofL ps x18) fuel).1)] [rsl kIns (.slice A1 p.length c2) p, rsl kPair (.slice A6 ps.length c7) ps] := H
   refine c_dec rfl (fun h42 => ?_) (fun h42 => ?_)
   ·refine c_seq (c_reg (s_k 2 rfl (s_nil (q_then (c_ret (q_thenR (q_blockR (q_thenR (q_thenR (q_blockR (q_thenR (q_ret2 rfl rfl rfl ?_))))))))))))
    have e : eachM dg p ps fuel own = ([], 5) := hgo.symm.trans (go_many hx19 h24 hkn (by omega))
    replace H := H.newnil kPair |>.k1
    exact fin ⟨(.slice none 0 0), by rw [e] <;> rfl, by rw [e] <;> rfl⟩ H
   refine c_skip (q_then (c_reg (s_k 2 rfl (s_appF (xs := out) (ys := (runM dg p x18 (ofL ps x18) fuel).1) rfl rfl rfl sl23 zr56 rfl (by decide) rfl rfl H (by omega) (fun F hA hR => own_rd F (hA _ (List.mem_of_getElem? (i := 1) rfl))) (fun v43 w H => ?_)))))
   replace H := H.h1 (A := osl kPair v43 (out ++ ((runM dg p x18 (ofL ps x18) fuel).1)))
   refine s_1 rfl (s_nil (q_blockN (q_then (c_reg (s_1 rfl (s_val rfl rfl (r_add (z := ((i + 1 : Nat) : Int)) rfl rfl rfl (by rw [w64 (by omega) (by omega)]; omega)) (s_1 rfl (s_nil ?_))))))))
   replace H := H.k2
   have hg2 := (go_on (out := out) hx19 h24 hkn (by omega)).trans hgo
   have ho2 : (out ++ (runM dg p x18 (ofL ps x18) fuel).1).length ≤ 40 := by rw [List.length_append]; omega
   exact q_round (s := (i, undef, out)) (i + 1, v43, out ++ (runM dg p x18 (ofL ps x18) fuel).1) ⟨rfl, rfl, rfl, rfl, rfl, rfl, rfl, trivial⟩ ⟨H, by (try dsimp only); omega, hg2, ho2⟩ (by (try dsimp only); omega)
  refine s_k 2 rfl (s_nil (q_then (c_no rfl (c_exit (q_thenE (q_thenE (q_blockE (q_then (c_seq (c_seq ?_))))))))))
  have hkn : ¬ (own = true ∧ otherKey x18 (runM dg p x18 (ofL ps x18) fuel).1 = true) := fun h => key_all (by rw [List.take_of_length_le (by omega)] at hn; exact hn) h.2
  refine c_reg (s_1 rfl ?_)
  obtain ⟨A44, c45, rfl, hc46, hm47, hp48⟩ := H.fA 0 rfl
  refine s_val rfl rfl (r_lenL rfl un23 rfl) (s_1 rfl (s_val rfl rfl (r_lenL rfl un23 rfl) (s_val rfl rfl (r_add (z := ((out.length + ((runM dg p x18 (ofL ps x18) fuel).1).length : Nat) : Int)) rfl rfl rfl (by rw [w64 (by omega) (by omega)]; omega)) (s_val rfl rfl (r_gt rfl rfl rfl) (s_nil (q_then ?_))))))
  replace H : Hd _ _ _ [osl kPair (.slice A44 out.length c45) out, osl kStr (.slice A12 ((keysL ps).length) c13) (keysL ps), osl kPair (.slice A25 (((runM dg p x18 (ofL ps x18) fuel).1).length) c26) ((runM dg p x18 (ofL ps x18) fuel).1)] [rsl kIns (.slice A1 p.length c2) p, rsl kPair (.slice A6 ps.length c7) ps] := H
  refine c_dec rfl (fun h49 => ?_) (fun h49 => ?_)
  ·refine c_seq (c_reg (s_k 2 rfl (s_nil (q_then (c_ret (q_thenR (q_blockR (q_thenR (q_thenR (q_blockR (q_thenR (q_ret2 rfl rfl rfl ?_))))))))))))
   have e : eachM dg p ps fuel own = ([], 5) := hgo.symm.trans (go_many hx19 h24 hkn (by omega))
   replace H := H.newnil kPair |>.k1
   exact fin ⟨(.slice none 0 0), by rw [e] <;> rfl, by rw [e] <;> rfl⟩ H
  refine c_skip (q_then (c_reg (s_k 2 rfl (s_appF (xs := out) (ys := (runM dg p x18 (ofL ps x18) fuel).1) rfl rfl rfl sl23 zr56 rfl (by decide) rfl rfl H (by omega) (fun F hA hR => own_rd F (hA _ (List.mem_of_getElem? (i := 1) rfl))) (fun v50 w H => ?_)))))
  replace H := H.h1 (A := osl kPair v50 (out ++ ((runM dg p x18 (ofL ps x18) fuel).1)))
  refine s_1 rfl (s_nil (q_blockN (q_then (c_reg (s_1 rfl (s_val rfl rfl (r_add (z := ((i + 1 : Nat) : Int)) rfl rfl rfl (by rw [w64 (by omega) (by omega)]; omega)) (s_1 rfl (s_nil ?_))))))))
  replace H := H.k2
  have hg2 := (go_on (out := out) hx19 h24 hkn (by omega)).trans hgo
  have ho2 : (out ++ (runM dg p x18 (ofL ps x18) fuel).1).length ≤ 40 := by rw [List.length_append]; omega
  exact q_round (s := (i, undef, out)) (i + 1, v50, out ++ (runM dg p x18 (ofL ps x18) fuel).1) ⟨rfl, rfl, rfl, rfl, rfl, rfl, rfl, trivial⟩ ⟨H, by (try dsimp only); omega, hg2, ho2⟩ (by (try dsimp only); omega)
 refine c_exit (q_thenE (q_thenE (q_blockE (q_then (c_seq (c_reg (s_k 3 rfl (s_nil (q_then (c_ret (q_ret2 rfl rfl rfl ?_)))))))))))
 have e : eachM dg p ps fuel own = (out, 0) := hgo.symm.trans (go_end (by omega))
 replace H := H.k1
 replace H : Hd _ _ _ [osl kPair q out] [rsl kIns (.slice A1 p.length c2) p, rsl kPair (.slice A6 ps.length c7) ps] := H
 exact fin ⟨q, by rw [e] <;> rfl, by rw [e] <;> rfl⟩ H
theorem rEach2_ok (vp : Value) (p : List Ins) (vps : Value) (ps : List Pair) (fuel : Int) (hpa : ∀ i ∈ p, In64 i.a) (hfu : In64 fuel) (hb : ps.length ≤ 1000000) :
    Cn Tryz.prog 39 [vp, vps, .int .i64 fuel] [] [rsl kIns vp p, rsl kPair vps ps] (fun v Bs => ∃ u : Value, v = .tuple #[u, .int .i64 ((eachM dg p ps fuel false).2)] ∧ Bs = [osl kPair u ((eachM dg p ps fuel false).1)]) := by
 intro w0 F0 H
 obtain ⟨A1, c2, rfl, hc3, hm4, hp5⟩ := H.fR 0 rfl
 obtain ⟨A6, c7, rfl, hc8, hm9, hp10⟩ := H.fR 1 rfl
 refine enter Tryz.func39 rfl rfl (Nat.le_of_ble_eq_true rfl) (c_seq (c_reg (s_k 2 rfl (s_nil (q_then ?_)))))
 replace H : Hd _ _ _ [] [rsl kIns (.slice A1 p.length c2) p, rsl kPair (.slice A6 ps.length c7) ps] := H
 refine c_seq (c_reg (s_k 3 rfl (sc (rEach_ok (.slice A1 p.length c2) p (.slice A6 ps.length c7) ps fuel false (by first | exact hpa | exact in64_first | assumption) (by first | assumption | (unfold In64; omega)) (by first | omega | (simp only [srt_len]; omega))) H (lR 0 rfl (lR 1 rfl l0)) rfl rfl (e_fn kn64 rfl rfl) ?_)))
 rintro _ _ w ⟨u11, rfl, rfl⟩ H
 replace H := H.h1 (A := osl kPair u11 ((eachM dg p ps fuel false).1))
 exact s_k 4 rfl (s_nil (q_then (c_ret (q_ret2 rfl rfl rfl (fin ⟨u11, rfl, rfl⟩ H)))))
theorem rSnapOf_ok (vp : Value) (p : List Ins) (fuel : Int) (vus : Value) (us : List (Value × List Pair)) (hpa : ∀ i ∈ p, In64 i.a) (hfu : In64 fuel) (hb : (flat2 us).length ≤ 1000000) :
    Cn Tryz.prog 17 [vp, .int .i64 fuel, vus] [] [rsl kIns vp p, rsl (kHd kPair) vus us] (fun v Bs => ∃ u : Value, v = .tuple #[u, .int .i64 ((eachM dg p (srt (flat2 us)) fuel false).2)] ∧ Bs = [osl kPair u ((eachM dg p (srt (flat2 us)) fuel false).1)]) := by
 intro w0 F0 H
 obtain ⟨A1, c2, rfl, hc3, hm4, hp5⟩ := H.fR 0 rfl
 obtain ⟨A6, c7, rfl, hc8, hm9, hp10⟩ := H.fR 1 rfl
 refine enter Tryz.func17 rfl rfl (Nat.le_of_ble_eq_true rfl) (c_seq (c_reg (s_k 2 rfl (s_nil (q_then ?_)))))
 replace H : Hd _ _ _ [] [rsl kIns (.slice A1 p.length c2) p, rsl (kHd kPair) (.slice A6 us.length c7) us] := H
 refine c_seq (c_reg (s_k 2 rfl (sc (rRuns_ok (.slice A6 us.length c7) us (by first | omega | decide | exact Nat.le_trans (flat2_le _ _) (by omega) | exact Nat.le_trans (flat2_le' _ _) (by omega) | (simp only [flat2, List.flatMap_cons, List.flatMap_nil, List.append_nil, srt_len]; omega))) H (lR 1 rfl l0) rfl rfl (e_fn kn40 rfl rfl) ?_)))
 rintro v11 _ w rfl H
 replace H := H.h1 (A := osl kPair v11 (srt (flat2 us)))
 refine s_1 rfl (sc (rEach2_ok (.slice A1 p.length c2) p v11 (srt (flat2 us)) fuel (by first | exact hpa | exact in64_first | assumption) (by first | assumption | (unfold In64; omega)) (by first | omega | (simp only [srt_len]; omega))) H (lR 0 rfl (lA 0 rfl own_rd l0)) rfl rfl (e_fn kn39 rfl rfl) ?_)
 rintro _ _ w ⟨u12, rfl, rfl⟩ H
 replace H := H.h1 (A := osl kPair u12 ((eachM dg p (srt (flat2 us)) fuel false).1))
 refine s_k 4 rfl (s_nil (q_then (c_ret (q_ret2 rfl rfl rfl ?_))))
 replace H := H.k1
 exact fin ⟨u12, rfl, rfl⟩ H
theorem snapOf_ok (vp : Value) (p : List Ins) (fuel : Int) (vus : Value) (us : List (Value × List Pair)) (hpa : ∀ i ∈ p, In64 i.a) (hfu : In64 fuel) (hb : (flat2 us).length ≤ 1000000) :
    Cn Tryz.prog 16 [vp, .int .i64 fuel, vus] [] [rsl kIns vp p, rsl (kHd kPair) vus us, gl] (fun v Bs => ∃ u : Value, v = .tuple #[u, .int .i64 ((eachM dg p (srt (flat2 us)) fuel false).2)] ∧ Bs = [osl kPair u ((eachM dg p (srt (flat2 us)) fuel false).1)]) := by
 intro w0 F0 H
 obtain ⟨A1, c2, rfl, hc3, hm4, hp5⟩ := H.fR 0 rfl
 obtain ⟨A6, c7, rfl, hc8, hm9, hp10⟩ := H.fR 1 rfl
 refine enter Tryz.func16 rfl rfl (Nat.le_of_ble_eq_true rfl) (c_seq (c_reg (s_k 2 rfl (s_nil (q_then ?_)))))
 replace H : Hd _ _ _ [] [rsl kIns (.slice A1 p.length c2) p, rsl (kHd kPair) (.slice A6 us.length c7) us, gl] := H
 refine c_seq (c_reg (s_k 2 rfl (sc (runs_ok (.slice A6 us.length c7) us (by first | omega | decide | exact Nat.le_trans (flat2_le _ _) (by omega) | exact Nat.le_trans (flat2_le' _ _) (by omega) | (simp only [flat2, List.flatMap_cons, List.flatMap_nil, List.append_nil, srt_len]; omega))) H (lR 1 rfl l0) rfl rfl (e_fn kn18 rfl rfl) ?_)))
 rintro v11 _ w rfl H
 replace H := H.h1 (A := osl kPair v11 (srt (flat2 us)))
 refine s_1 rfl (sc (foldEach_ok (.slice A1 p.length c2) p v11 (srt (flat2 us)) fuel (by first | exact hpa | exact in64_first | assumption) (by first | assumption | (unfold In64; omega)) (by first | omega | (simp only [srt_len]; omega))) H (lR 0 rfl (lA 0 rfl own_rd (lR 2 rfl l0))) rfl rfl (e_fn kn10 rfl rfl) ?_)
 rintro _ _ w ⟨u12, rfl, rfl⟩ H
 replace H := H.h1 (A := osl kPair u12 ((eachM dg p (srt (flat2 us)) fuel false).1))
 refine s_k 4 rfl (s_nil (q_then (c_ret (q_ret2 rfl rfl rfl ?_))))
 replace H := H.k1
 exact fin ⟨u12, rfl, rfl⟩ H
theorem indexI_ok (v : Value) (xs : List Int) (x : Int) :
    Cn Tryz.prog 76 [v, .int .i64 x] [] [rsl (kInt .i64) v xs] (fun v Bs => v = .int .i64 (fidx (fun y => decide (x = y)) xs) ∧ Bs = []) := by
 intro w0 F0 H
 obtain ⟨A1, c2, rfl, hc3, hm4, hp5⟩ := H.fR 0 rfl
 refine enter Tryz.func76 rfl rfl (Nat.le_of_ble_eq_true rfl) (c_seq (c_reg (s_1 rfl (s_nil (q_then ?_)))))
 replace H : Hd _ _ _ [] [rsl (kInt .i64) (.slice A1 xs.length c2) xs] := H
 refine c_seq (c_seq (c_reg (s_1 rfl (s_val rfl rfl (r_lenL rfl un41 rfl) (s_1 rfl (s_nil (q_then (c_block (c_loop (σ := Nat) (fun k => [(0, .slice A1 xs.length c2), (1, .int .i64 x), (7, .int .i64 ((xs.length : Nat) : Int)), (8, .int .i64 ((k : Nat) : Int))]) (fun k w => (Hd w0 F0 w [] [rsl (kInt .i64) (.slice A1 xs.length c2) xs]) ∧ (k ≤ xs.length) ∧ (∀ y ∈ xs.take k, (fun y => decide (x = y)) y = false)) (fun k => xs.length - k) 0 ⟨rfl, rfl, rfl, rfl, trivial⟩ ⟨H, by omega, by simp⟩ ?_)))))))))
 rintro k w ⟨H, hk, hn⟩
 refine c_seq (c_reg (s_val rfl rfl (r_lt rfl rfl rfl) (s_nil (q_then (c_seq ?_)))))
 refine c_dec rfl (fun h6 => ?_) (fun h6 => ?_)
 ·refine c_skip (q_then (c_seq (c_block (c_seq (c_reg (s_k 2 rfl (s_nil (q_then (c_seq (c_reg (s_k 3 rfl ?_)))))))))))
  obtain ⟨x7, hx8⟩ : ∃ z9, xs[k]? = some z9 := ⟨_, List.getElem?_eq_getElem (show k < xs.length by omega)⟩
  have th9 := H.thR 0 rfl hx8
  refine s_val rfl rfl (r_iaE (p := oOf A1 + k * 1) rfl sl41 rfl rfl (by omega) (by omega) th9 rfl) (s_val rfl rfl (r_ld rfl ty3 rfl (H.elR 0 rfl hx8 (q := 0) rfl rfl)) (s_val rfl rfl (r_eq rfl rfl rfl) (s_nil (q_then ?_))))
  refine c_dec rfl (fun h10 => ?_) (fun h10 => ?_)
  ·exact c_seq (c_reg (s_k 2 rfl (s_nil (q_then (c_ret (q_blockR (q_thenR (q_thenR (q_blockR (q_thenR (q_ret1 rfl rfl (fin ⟨by rw [fidx_hit (p := (fun y => decide (x = y))) hn hx8 (decide_eq_true h10)] <;> rfl, rfl⟩ H))))))))))))
  exact c_skip (q_blockN (q_then (c_reg (s_val rfl rfl (r_add (z := ((k + 1 : Nat) : Int)) rfl rfl rfl (by rw [w64 (by omega) (by omega)]; omega)) (s_1 rfl (s_nil (q_round (s := k) (k + 1) ⟨rfl, rfl, rfl, rfl, trivial⟩ ⟨H, by omega, take_false (p := (fun y => decide (x = y))) hn hx8 (decide_eq_false h10)⟩ (by (try dsimp only); omega))))))))
 refine c_exit (q_thenE (q_thenE (q_blockE (q_then (c_seq (c_reg (s_1 rfl (s_nil (q_then (c_ret (q_ret1 rfl rfl ?_)))))))))))
 have hn2 : ∀ y ∈ xs, (fun y => decide (x = y)) y = false := by rw [← take_all (xs := xs) (k := k) (by omega)]; exact hn
 exact fin ⟨by rw [fidx_miss hn2] <;> rfl, rfl⟩ H
theorem containsI_ok (v : Value) (xs : List Int) (x : Int) :
    Cn Tryz.prog 59 [v, .int .i64 x] [] [rsl (kInt .i64) v xs] (fun v Bs => v = .bool (decide (x ∈ xs)) ∧ Bs = []) := by
 intro w0 F0 H
 refine enter Tryz.func59 rfl rfl (Nat.le_of_ble_eq_true rfl) (c_seq (c_reg (s_1 rfl (s_nil (q_then (c_seq (c_reg (s_k 2 rfl (sc (indexI_ok v xs x) H (lR 0 rfl l0) rfl rfl (e_fn kn76 rfl rfl) ?_)))))))))
 rintro _ _ w ⟨rfl, rfl⟩ H
 refine s_val rfl rfl (r_ge rfl rfl rfl) (s_1 rfl (s_nil (q_then (c_ret (q_ret1 rfl rfl ?_)))))
 have e : decide (0 ≤ fidx (fun y => decide (x = y)) xs) = decide (x ∈ xs) := by rw [fidx_nonneg]; rw [Bool.eq_iff_iff]; simp
 exact fin ⟨congrArg Value.bool e, rfl⟩ H
theorem indexFI_ok (f : FuncId) (cap : List Value) (Ex : List SP) (p : Int → Bool) (hkf : Known Tryz.prog f) (hp : ∀ x, Cn Tryz.prog f ([.int .i64 x] ++ cap) [] Ex (fun v Bs => v = .bool (p x) ∧ Bs = [])) (v : Value) (xs : List Int) :
    Cn Tryz.prog 77 [v, .func (.func f) #[] (cap).toArray] [] (rsl (kInt .i64) v xs :: Ex) (fun v Bs => v = .int .i64 (fidx p xs) ∧ Bs = []) := by
 intro w0 F0 H
 obtain ⟨A1, c2, rfl, hc3, hm4, hp5⟩ := H.fR 0 rfl
 refine enter Tryz.func77 rfl rfl (Nat.le_of_ble_eq_true rfl) (c_seq (c_reg (s_1 rfl (s_nil (q_then ?_)))))
 replace H : Hd _ _ _ [] (rsl (kInt .i64) (.slice A1 xs.length c2) xs :: Ex) := H
 refine c_seq (c_seq (c_reg (s_1 rfl (s_val rfl rfl (r_lenL rfl un41 rfl) (s_1 rfl (s_nil (q_then (c_block (c_loop (σ := Nat) (fun k => [(0, .slice A1 xs.length c2), (1, .func (.func f) #[] (cap).toArray), (7, .int .i64 ((xs.length : Nat) : Int)), (8, .int .i64 ((k : Nat) : Int))]) (fun k w => (Hd w0 F0 w [] (rsl (kInt .i64) (.slice A1 xs.length c2) xs :: Ex)) ∧ (k ≤ xs.length) ∧ (∀ y ∈ xs.take k, p y = false)) (fun k => xs.length - k) 0 ⟨rfl, rfl, rfl, rfl, trivial⟩ ⟨H, by omega, by simp⟩ ?_)))))))))
 rintro k w ⟨H, hk, hn⟩
 refine c_seq (c_reg (s_val rfl rfl (r_lt rfl rfl rfl) (s_nil (q_then (c_seq ?_)))))
 refine c_dec rfl (fun h6 => ?_) (fun h6 => ?_)
 ·refine c_skip (q_then (c_seq (c_block (c_seq (c_reg (s_k 2 rfl (s_nil (q_then (c_seq (c_reg (s_k 3 rfl ?_)))))))))))
  obtain ⟨x7, hx8⟩ : ∃ z9, xs[k]? = some z9 := ⟨_, List.getElem?_eq_getElem (show k < xs.length by omega)⟩
  have th9 := H.thR 0 rfl hx8
  refine s_val rfl rfl (r_iaE (p := oOf A1 + k * 1) rfl sl41 rfl rfl (by omega) (by omega) th9 rfl) (s_val rfl rfl (r_ld rfl ty3 rfl (H.elR 0 rfl hx8 (q := 0) rfl rfl)) (sc (hp x7) H (fun S hS F hA hR => hR S (List.mem_cons_of_mem _ hS)) rfl rfl (e_val (vs := [.int .i64 x7]) (fs := #[]) (cs := cap.toArray) hkf rfl rfl rfl) ?_))
  rintro _ _ w ⟨rfl, rfl⟩ H
  refine s_nil (q_then ?_)
  refine c_cond (b := p x7) rfl (fun h10 => ?_) (fun h10 => ?_)
  ·exact c_seq (c_reg (s_k 2 rfl (s_nil (q_then (c_ret (q_blockR (q_thenR (q_thenR (q_blockR (q_thenR (q_ret1 rfl rfl (fin ⟨by rw [fidx_hit hn hx8 h10] <;> rfl, rfl⟩ H))))))))))))
  exact c_skip (q_blockN (q_then (c_reg (s_val rfl rfl (r_add (z := ((k + 1 : Nat) : Int)) rfl rfl rfl (by rw [w64 (by omega) (by omega)]; omega)) (s_1 rfl (s_nil (q_round (s := k) (k + 1) ⟨rfl, rfl, rfl, rfl, trivial⟩ ⟨H, by omega, take_false hn hx8 h10⟩ (by (try dsimp only); omega))))))))
 refine c_exit (q_thenE (q_thenE (q_blockE (q_then (c_seq (c_reg (s_1 rfl (s_nil (q_then (c_ret (q_ret1 rfl rfl ?_)))))))))))
 have hn2 : ∀ y ∈ xs, p y = false := by rw [← take_all (xs := xs) (k := k) (by omega)]; exact hn
 exact fin ⟨by rw [fidx_miss hn2] <;> rfl, rfl⟩ H
theorem containsFI_ok (f : FuncId) (cap : List Value) (Ex : List SP) (p : Int → Bool) (hkf : Known Tryz.prog f) (hp : ∀ x, Cn Tryz.prog f ([.int .i64 x] ++ cap) [] Ex (fun v Bs => v = .bool (p x) ∧ Bs = [])) (v : Value) (xs : List Int) :
    Cn Tryz.prog 60 [v, .func (.func f) #[] (cap).toArray] [] (rsl (kInt .i64) v xs :: Ex) (fun v Bs => v = .bool (xs.any p) ∧ Bs = []) := by
 intro w0 F0 H
 refine enter Tryz.func60 rfl rfl (Nat.le_of_ble_eq_true rfl) (c_seq (c_reg (s_1 rfl (s_nil (q_then (c_seq (c_reg (s_k 2 rfl (sc (indexFI_ok f cap Ex p hkf hp v xs) H lAll rfl rfl (e_fn kn77 rfl rfl) ?_)))))))))
 rintro _ _ w ⟨rfl, rfl⟩ H
 exact s_val rfl rfl (r_ge rfl rfl rfl) (s_1 rfl (s_nil (q_then (c_ret (q_ret1 rfl rfl (fin ⟨congrArg Value.bool (fidx_nonneg p xs), rfl⟩ H))))))
theorem due_ok (vmarks : Value) (marks : List Int) (n : Int) :
    Cn Tryz.prog 33 [vmarks, .int .i64 n] [] [rsl (kInt .i64) vmarks marks] (fun v Bs => v = .bool (decide (n ∈ marks)) ∧ Bs = []) := by
 intro w0 F0 H
 obtain ⟨A1, c2, rfl, hc3, hm4, hp5⟩ := H.fR 0 rfl
 refine enter Tryz.func33 rfl rfl (Nat.le_of_ble_eq_true rfl) (c_seq (c_reg (s_1 rfl (s_nil (q_then ?_)))))
 replace H : Hd _ _ _ [] [rsl (kInt .i64) (.slice A1 marks.length c2) marks] := H
 refine c_seq (c_reg (s_k 2 rfl (sc (containsI_ok (.slice A1 marks.length c2) marks n) H (lR 0 rfl l0) rfl rfl (e_fn kn59 rfl rfl) ?_)))
 rintro _ _ w ⟨rfl, rfl⟩ H
 exact s_1 rfl (s_nil (q_then (c_ret (q_ret1 rfl rfl (fin ⟨rfl, rfl⟩ H)))))
theorem reached_ok (vmarks : Value) (marks : List Int) (n : Int) :
    Cn Tryz.prog 34 [vmarks, .int .i64 n] [] [rsl (kInt .i64) vmarks marks] (fun v Bs => v = .int .i64 ((cnt (fun m => decide (m ≤ n)) marks : Nat) : Int) ∧ Bs = []) := by
 intro w0 F0 H
 obtain ⟨A1, c2, rfl, hc3, hm4, hp5⟩ := H.fR 0 rfl
 refine enter Tryz.func34 rfl rfl (Nat.le_of_ble_eq_true rfl) (c_seq (c_reg (s_1 rfl (s_nil (q_then ?_)))))
 replace H : Hd _ _ _ [] [rsl (kInt .i64) (.slice A1 marks.length c2) marks] := H
 refine c_seq (c_reg (s_1 rfl (s_nil (q_then (c_seq (c_seq (c_reg (s_1 rfl (s_val rfl rfl (r_lenL rfl un41 rfl) (s_1 rfl (s_nil (q_then (c_block (c_loop (σ := Nat) (fun k => [(1, .int .i64 n), (4, .int .i64 0), (5, .int .i64 ((cnt (fun m => decide (m ≤ n)) (marks.take k) : Nat) : Int)), (8, .slice A1 marks.length c2), (9, .int .i64 ((marks.length : Nat) : Int)), (10, .int .i64 ((k : Nat) : Int))]) (fun k w => (Hd w0 F0 w [] [rsl (kInt .i64) (.slice A1 marks.length c2) marks]) ∧ (k ≤ marks.length) ∧ (marks.length ≤ 9223372036854775807)) (fun k => marks.length - k) 0 ⟨rfl, rfl, rfl, rfl, rfl, rfl, trivial⟩ ⟨H, by omega, by omega⟩ ?_))))))))))))))
 rintro k w ⟨H, hk, hb⟩
 have hct := cnt_le (fun m => decide (m ≤ n)) (marks.take k)
 have htl := len_take hk
 refine c_seq (c_reg (s_val rfl rfl (r_lt rfl rfl rfl) (s_nil (q_then (c_seq ?_)))))
 refine c_dec rfl (fun h6 => ?_) (fun h6 => ?_)
 ·refine c_skip (q_then (c_seq (c_block (c_seq (c_reg ?_)))))
  obtain ⟨x7, hx8⟩ : ∃ z9, marks[k]? = some z9 := ⟨_, List.getElem?_eq_getElem (show k < marks.length by omega)⟩
  have th9 := H.thR 0 rfl hx8
  refine s_val rfl rfl (r_iaE (p := oOf A1 + k * 1) rfl sl41 rfl rfl (by omega) (by omega) th9 rfl) (s_val rfl rfl (r_ld rfl ty3 rfl (H.elR 0 rfl hx8 (q := 0) rfl rfl)) (s_1 rfl (s_nil (q_then (c_seq (c_reg (s_k 2 rfl (s_val rfl rfl (r_le rfl rfl rfl) (s_nil (q_then ?_))))))))))
  refine c_dec rfl (fun h10 => ?_) (fun h10 => ?_)
  ·refine c_reg (s_1 rfl (s_val rfl rfl (r_add (z := ((cnt (fun m => decide (m ≤ n)) (marks.take k) + 1 : Nat) : Int)) rfl rfl rfl (by rw [w64 (by omega) (by omega)]; omega)) (s_1 rfl (s_nil (q_blockN (q_then (c_reg (s_val rfl rfl (r_add (z := ((k + 1 : Nat) : Int)) rfl rfl rfl (by rw [w64 (by omega) (by omega)]; omega)) (s_1 rfl (s_nil ?_))))))))))
   have hc : cnt (fun m => decide (m ≤ n)) (marks.take (k + 1)) = cnt (fun m => decide (m ≤ n)) (marks.take k) + 1 := by rw [cnt_take hx8, if_pos (decide_eq_true h10)]
   exact q_round (s := k) (k + 1) ⟨rfl, rfl, (by rw [hc]; rfl), rfl, rfl, rfl, trivial⟩ ⟨H, by omega, hb⟩ (by (try dsimp only); omega)
  refine c_skip (q_blockN (q_then (c_reg (s_val rfl rfl (r_add (z := ((k + 1 : Nat) : Int)) rfl rfl rfl (by rw [w64 (by omega) (by omega)]; omega)) (s_1 rfl (s_nil ?_))))))
  have hc : cnt (fun m => decide (m ≤ n)) (marks.take (k + 1)) = cnt (fun m => decide (m ≤ n)) (marks.take k) + 0 := by rw [cnt_take hx8, if_neg (by simpa using h10)]
  exact q_round (s := k) (k + 1) ⟨rfl, rfl, (by rw [hc]; rfl), rfl, rfl, rfl, trivial⟩ ⟨H, by omega, hb⟩ (by (try dsimp only); omega)
 exact c_exit (q_thenE (q_thenE (q_blockE (q_then (c_seq (c_reg (s_k 2 rfl (s_nil (q_then (c_ret (q_ret1 rfl rfl (fin ⟨by rw [take_all (xs := marks) (k := k) (by omega)] <;> rfl, rfl⟩ H))))))))))))
theorem growsF_ok (b : Nat) (vy : Value) (ys : List Int) (x : Int) :
    Cn Tryz.prog 61 [.int .i64 x, .pointer (some ⟨b, 0, none⟩)] [] [blk b [vy] 41, rsl (kInt .i64) vy ys] (fun v Bs => v = .bool (!decide (x ∈ ys)) ∧ Bs = []) := by
 intro w0 F0 H
 refine enter Tryz.func61 rfl rfl (Nat.le_of_ble_eq_true rfl) (c_seq (c_reg (s_1 rfl (s_nil (q_then (c_seq (c_reg (s_val rfl rfl (r_ld rfl ty41 rfl (H.cellRI 0 rfl rfl)) (s_1 rfl (sc (containsI_ok vy ys x) H (lR 1 rfl l0) rfl rfl (e_fn kn59 rfl rfl) ?_))))))))))
 rintro _ _ w ⟨rfl, rfl⟩ H
 exact s_val rfl rfl (r_notP rfl rfl) (s_1 rfl (s_nil (q_then (c_ret (q_ret1 rfl rfl (fin ⟨by simp, rfl⟩ H))))))
theorem grows_ok (va : Value) (a : List Int) (vb : Value) (b : List Int) :
    Cn Tryz.prog 35 [va, vb] [] [rsl (kInt .i64) va a, rsl (kInt .i64) vb b] (fun v Bs => v = .bool (decide (∀ n ∈ a, n ∈ b)) ∧ Bs = []) := by
 intro w0 F0 H
 obtain ⟨A1, c2, rfl, hc3, hm4, hp5⟩ := H.fR 0 rfl
 obtain ⟨A6, c7, rfl, hc8, hm9, hp10⟩ := H.fR 1 rfl
 refine enter Tryz.func35 rfl rfl (Nat.le_of_ble_eq_true rfl) (c_seq (c_reg (s_box rfl rfl rfl rfl H (fun b11 w H => (s_1 rfl (s_nil (q_then ?_)))))))
 replace H : Hd _ _ _ [blk b11 [.slice A6 b.length c7] 41] [rsl (kInt .i64) (.slice A1 a.length c2) a, rsl (kInt .i64) (.slice A6 b.length c7) b] := H
 refine c_seq (c_reg (s_1 rfl (s_val rfl rfl (r_fn (fs := #[]) (cs := #[.pointer (some ⟨b11, 0, none⟩)]) rfl rfl rfl) (sc (containsFI_ok 61 [.pointer (some ⟨b11, 0, none⟩)] [blk b11 [.slice A6 b.length c7] 41, rsl (kInt .i64) (.slice A6 b.length c7) b] (fun x => !decide (x ∈ b)) kn61 (fun x => growsF_ok b11 (.slice A6 b.length c7) b x) (.slice A1 a.length c2) a) H (lR 0 rfl (lA 0 rfl (fun _ h => h) (lR 1 rfl l0))) rfl rfl (e_fn kn60 rfl rfl) ?_))))
 rintro _ _ w ⟨rfl, rfl⟩ H
 refine s_val rfl rfl (r_not rfl rfl rfl) (s_1 rfl (s_nil (q_then (c_ret (q_ret1 rfl rfl ?_)))))
 have e : (!(a.any (fun x => !decide (x ∈ b)))) = decide (∀ n ∈ a, n ∈ b) := by rw [Bool.eq_iff_iff]; simp
 replace H := H.nil
 exact fin ⟨congrArg Value.bool e, rfl⟩ H
theorem awake20_ok  :
    Cn Tryz.prog 13 [] [] [] (fun v Bs => v = .bool true ∧ Bs = []) := by
 intro w0 F0 H
 refine enter Tryz.func13 rfl rfl (Nat.le_of_ble_eq_true rfl) (c_seq (c_reg (s_1 rfl (s_nil (q_then (c_seq (c_reg (s_bsl (parts := [(0, .const (.int .i64 2)), (1, .const (.int .i64 4))]) (vs := [.int .i64 2, .int .i64 4]) (cs := [.int .i64 2, .int .i64 4]) rfl rfl rfl sl41 zr3 rfl (by decide) (by decide) rfl rfl H (fun b1 w H => (sc (due_ok (.slice (some ⟨b1, 0, none⟩) 2 2) [2, 4] 3) H (lA 0 rfl (fun F h => blk_rsl h rfl (by decide) (RepsR.flat_eq.2 rfl)) l0) rfl rfl (e_fn kn33 rfl rfl) ?_))))))))))
 rintro _ _ w ⟨rfl, rfl⟩ H
 refine s_val rfl rfl (r_notP rfl rfl) (s_1 rfl ?_)
 refine s_dec (d := 4) rfl (fun h2 => ?_) (fun h2 => ?_)
 ·refine s_bsl (parts := [(0, .const (.int .i64 2)), (1, .const (.int .i64 4))]) (vs := [.int .i64 2, .int .i64 4]) (cs := [.int .i64 2, .int .i64 4]) rfl rfl rfl sl41 zr3 rfl (by decide) (by decide) rfl rfl H (fun b3 w H => (sc (due_ok (.slice (some ⟨b3, 0, none⟩) 2 2) [2, 4] 4) H (lA 0 rfl (fun F h => blk_rsl h rfl (by decide) (RepsR.flat_eq.2 rfl)) l0) rfl rfl (e_fn kn33 rfl rfl) ?_))
  rintro _ _ w ⟨rfl, rfl⟩ H
  refine s_k 2 rfl ?_
  refine s_dec (d := 8) rfl (fun h4 => ?_) (fun h4 => ?_)
  ·refine s_bsl (parts := [(0, .const (.int .i64 2)), (1, .const (.int .i64 4))]) (vs := [.int .i64 2, .int .i64 4]) (cs := [.int .i64 2, .int .i64 4]) rfl rfl rfl sl41 zr3 rfl (by decide) (by decide) rfl rfl H (fun b5 w H => (sc (reached_ok (.slice (some ⟨b5, 0, none⟩) 2 2) [2, 4] 3) H (lA 0 rfl (fun F h => blk_rsl h rfl (by decide) (RepsR.flat_eq.2 rfl)) l0) rfl rfl (e_fn kn34 rfl rfl) ?_))
   rintro _ _ w ⟨rfl, rfl⟩ H
   refine s_val rfl rfl (r_eq rfl rfl rfl) (s_k 2 rfl ?_)
   refine s_dec (d := 13) rfl (fun h6 => ?_) (fun h6 => ?_)
   ·refine s_bsl (parts := [(0, .const (.int .i64 1))]) (vs := [.int .i64 1]) (cs := [.int .i64 1]) rfl rfl rfl sl41 zr3 rfl (by decide) (by decide) rfl rfl H (fun b7 w H => (s_bsl (parts := [(0, .const (.int .i64 3)), (1, .const (.int .i64 1))]) (vs := [.int .i64 3, .int .i64 1]) (cs := [.int .i64 3, .int .i64 1]) rfl rfl rfl sl41 zr3 rfl (by decide) (by decide) rfl rfl H (fun b8 w H => (sc (grows_ok (.slice (some ⟨b7, 0, none⟩) 1 1) [1] (.slice (some ⟨b8, 0, none⟩) 2 2) [3, 1]) H (lA 1 rfl (fun F h => blk_rsl h rfl (by decide) (RepsR.flat_eq.2 rfl)) (lA 0 rfl (fun F h => blk_rsl h rfl (by decide) (RepsR.flat_eq.2 rfl)) l0)) rfl rfl (e_fn kn35 rfl rfl) ?_))))
    rintro _ _ w ⟨rfl, rfl⟩ H
    refine s_k 2 rfl ?_
    refine s_dec (d := 18) rfl (fun h9 => ?_) (fun h9 => ?_)
    ·refine s_bsl (parts := [(0, .const (.int .i64 1))]) (vs := [.int .i64 1]) (cs := [.int .i64 1]) rfl rfl rfl sl41 zr3 rfl (by decide) (by decide) rfl rfl H (fun b10 w H => (sc (grows_ok (.slice (some ⟨b10, 0, none⟩) 1 1) [1] (.slice none 0 0) []) H (lA 0 rfl (fun F h => blk_rsl h rfl (by decide) (RepsR.flat_eq.2 rfl)) (lX (fun F _ _ => rsl_nil _ _ F trivial (by decide)) l0)) rfl rfl (e_fn kn35 rfl rfl) ?_))
     rintro _ _ w ⟨rfl, rfl⟩ H
     refine s_val rfl rfl (r_notP rfl rfl) (s_k 2 rfl (s_nil (q_then ?_)))
     replace H : Hd _ _ _ [blk b10 [.int .i64 1] 3, blk b8 [.int .i64 3, .int .i64 1] 3, blk b7 [.int .i64 1] 3, blk b5 [.int .i64 2, .int .i64 4] 3, blk b3 [.int .i64 2, .int .i64 4] 3, blk b1 [.int .i64 2, .int .i64 4] 3] [] := H
     refine c_ret (q_ret1 rfl rfl ?_)
     replace H := H.nil
     exact fin ⟨rfl, rfl⟩ H
    exact (h9 (by decide)).elim
   exact (h6 (by decide)).elim
  exact (h4 (by decide)).elim
 exact (h2 (by decide)).elim
theorem snapOfLaw_ok (vp : Value) (p : List Ins) (wp : (∀ i ∈ p, In64 i.op ∧ In64 i.a ∧ i.s.size ≤ 9223372036854775807) ∧ p.length ≤ 9223372036854775807) (fuel : Int) (hfu : In64 fuel) (vruns : Value) (runs : List (List Pair)) (wruns : (∀ xs ∈ runs, (∀ p ∈ xs, p.key.size ≤ 9223372036854775807 ∧ p.val.size ≤ 9223372036854775807) ∧ xs.length ≤ 9223372036854775807) ∧ runs.length ≤ 9223372036854775807) :
    Cn Tryz.prog 4 [vp, .int .i64 fuel, vruns] [] [rsl kIns vp p, rsl (kSl kPair) vruns runs, gl] (fun v Bs => v = .bool true ∧ Bs = []) := by
 intro w0 F0 H
 obtain ⟨A1, c2, rfl, hc3, hm4, hp5⟩ := H.fR 0 rfl
 obtain ⟨us, hus, H⟩ := H.heads 1 rfl
 obtain ⟨A6, c7, rfl, hc8, hm9, hp10⟩ := H.fR 0 rfl
 refine enter Tryz.func4 rfl rfl (Nat.le_of_ble_eq_true rfl) (c_seq (c_reg (s_1 rfl (s_nil (q_then ?_)))))
 replace H : Hd _ _ _ [] [rsl (kHd kPair) (.slice A6 us.length c7) us, rsl kIns (.slice A1 p.length c2) p, rsl (kSl kPair) (.slice A6 us.length c7) runs, gl] := H
 refine c_seq (c_seq (c_reg (s_1 rfl (sc (greatCode_ok (.slice A1 p.length c2) p) H (lR 1 rfl l0) rfl rfl (e_fn kn12 rfl rfl) ?_))))
 rintro _ _ w ⟨rfl, rfl⟩ H
 refine s_1 rfl ?_
 refine s_boo (d := 18) (b := greatC p) rfl (fun h11 => ?_) (fun h11 => ?_)
 ·refine s_k 4 rfl (s_nil (q_then (c_yes rfl (c_seq (c_reg (sc (awake20_ok ) H l0 rfl rfl (e_fn kn13 rfl rfl) ?_))))))
  rintro _ _ w ⟨rfl, rfl⟩ H
  refine s_1 rfl (s_nil (q_then (c_ret (q_thenR (q_ret1 rfl rfl ?_)))))
  replace H := H.dropR
  replace H : Hd _ _ _ [] [rsl kIns (.slice A1 p.length c2) p, rsl (kSl kPair) (.slice A6 us.length c7) runs, gl] := H
  exact fin ⟨rfl, rfl⟩ H
 refine s_1 rfl (s_val rfl rfl (r_lenL rfl un31 rfl) (s_val rfl rfl (r_gt rfl rfl rfl) (s_1 rfl (s_nil (q_then ?_)))))
 refine c_dec rfl (fun h12 => ?_) (fun h12 => ?_)
 ·refine c_seq (c_reg (sc (awake20_ok ) H l0 rfl rfl (e_fn kn13 rfl rfl) ?_))
  rintro _ _ w ⟨rfl, rfl⟩ H
  refine s_1 rfl (s_nil (q_then (c_ret (q_thenR (q_ret1 rfl rfl ?_)))))
  replace H := H.dropR
  replace H : Hd _ _ _ [] [rsl kIns (.slice A1 p.length c2) p, rsl (kSl kPair) (.slice A6 us.length c7) runs, gl] := H
  exact fin ⟨rfl, rfl⟩ H
 refine c_skip (q_then (c_seq (c_reg (s_1 rfl (s_nil (q_then (c_seq (c_seq (c_reg (s_1 rfl (s_nil (q_then (c_block ?_)))))))))))))
 replace H := H.newnil (kHd kPair)
 refine c_loop (σ := Nat × Value × List (Value × List Pair)) (fun (i, q, zs) => [(0, .slice A1 p.length c2), (1, .int .i64 fuel), (2, .slice A6 us.length c7), (7, q), (8, .int .i64 ((i : Nat) : Int))]) (fun (i, q, zs) w => (Hd w0 F0 w [osl (kHd kPair) q zs] [rsl (kHd kPair) (.slice A6 us.length c7) us, rsl kIns (.slice A1 p.length c2) p, rsl (kSl kPair) (.slice A6 us.length c7) runs, gl]) ∧ (i ≤ us.length ∧ zs.length = i ∧ i ≤ 6) ∧ (∀ p ∈ zs, p.2.length ≤ 20)) (fun (i, q, zs) => us.length - i) (0, .slice none 0 0, []) ⟨rfl, rfl, rfl, rfl, rfl, trivial⟩ ⟨H, ⟨Nat.zero_le _, rfl, Nat.zero_le _⟩, by (try dsimp only); simp⟩ ?_
 rintro ⟨i, q, zs⟩ w ⟨H, hi, hn⟩
 refine c_seq (c_seq (c_reg (s_k 2 rfl (s_val rfl rfl (r_lenL rfl un31 rfl) (s_val rfl rfl (r_lt rfl rfl rfl) (s_nil (q_then ?_)))))))
 refine c_dec rfl (fun h13 => ?_) (fun h13 => ?_)
 ·refine c_skip (q_then (c_seq (c_block (c_seq (c_seq (c_reg (s_k 2 rfl ?_)))))))
  obtain ⟨⟨u16, x14⟩, hx15⟩ : ∃ z9, us[i]? = some z9 := ⟨_, List.getElem?_eq_getElem (show i < us.length by omega)⟩
  obtain ⟨A17, c18, rfl, hc19, hm20⟩ := H.nestR 0 rfl hx15
  have th21 := H.thRd 0 rfl hx15
  refine s_val rfl rfl (r_iaE (p := oOf A6 + i * 1) rfl sl31 rfl rfl (by omega) (by omega) th21 rfl) (s_val rfl rfl (r_ld rfl ty23 rfl (H.elRd 0 rfl hx15 rfl)) (sc (greatPairs_ok (.slice A17 x14.length c18) x14 20) H (lX (fun F hA hR => nest_rsl (hR _ (List.mem_of_getElem? (i := 0) rfl)) hx15) l0) rfl rfl (e_fn kn14 rfl rfl) ?_))
  rintro _ _ w ⟨rfl, rfl⟩ H
  refine s_nil (q_then ?_)
  refine c_cond (b := greatP x14 20) rfl (fun h22 => ?_) (fun h22 => ?_)
  ·refine c_seq (c_reg (sc (awake20_ok ) H l0 rfl rfl (e_fn kn13 rfl rfl) ?_))
   rintro _ _ w ⟨rfl, rfl⟩ H
   refine s_1 rfl (s_nil (q_then (c_ret (q_thenR (q_blockR (q_thenR (q_thenR (q_blockR (q_thenR (q_ret1 rfl rfl ?_))))))))))
   replace H := H.nil |>.dropR
   replace H : Hd _ _ _ [] [rsl kIns (.slice A1 p.length c2) p, rsl (kSl kPair) (.slice A6 us.length c7) runs, gl] := H
   exact fin ⟨rfl, rfl⟩ H
  refine c_skip (q_then ?_)
  have hg := (greatP_no h22).1
  refine c_reg (s_k 3 rfl ?_)
  have th23 := H.thRd 0 rfl hx15
  refine s_val rfl rfl (r_iaE (p := oOf A6 + i * 1) rfl sl31 rfl rfl (by omega) (by omega) th23 rfl) (s_val rfl rfl (r_ld rfl ty23 rfl (H.elRd 0 rfl hx15 rfl)) (sc (pairSort_ok (.slice A17 x14.length c18) x14 (by first | omega | decide | (simp only [List.length_append, List.length_cons, List.length_nil, srt_len]; omega))) H (lX (fun F hA hR => nest_rsl (hR _ (List.mem_of_getElem? (i := 0) rfl)) hx15) l0) rfl rfl (e_fn kn15 rfl rfl) ?_))
  rintro v24 _ w rfl H
  obtain ⟨A26, c27, rfl, hc28, hm29, hp30⟩ := H.fA 0 rfl
  refine s_bsl (parts := [(0, .tmp 41)]) (vs := [.slice A26 ((srt x14).length) c27]) (cs := [.slice A26 ((srt x14).length) c27]) rfl rfl rfl sl31 zr23 rfl (by decide) (by decide) rfl rfl H (fun b25 w H => ?_)
  replace H := H.p2
  replace H : Hd _ _ _ [osl (kHd kPair) q zs, blk b25 [.slice A26 ((srt x14).length) c27] 23, osl kPair (.slice A26 ((srt x14).length) c27) (srt x14)] [rsl (kHd kPair) (.slice A6 us.length c7) us, rsl kIns (.slice A1 p.length c2) p, rsl (kSl kPair) (.slice A6 us.length c7) runs, gl] := H
  refine s_appH rfl rfl rfl sl31 zr23 rfl (by decide) rfl rfl H (by omega) (fun v31 w H => ?_)
  replace H := H.h1 (A := osl (kHd kPair) v31 (zs ++ [((.slice A26 ((srt x14).length) c27 : Value), srt x14)]))
  refine s_1 rfl (s_nil (q_blockN (q_then (c_reg (s_1 rfl (s_val rfl rfl (r_add (z := ((i + 1 : Nat) : Int)) rfl rfl rfl (by rw [w64 (by omega) (by omega)]; omega)) (s_1 rfl (s_nil ?_))))))))
  have hn2 : ∀ p ∈ zs ++ [((.slice A26 ((srt x14).length) c27 : Value), srt x14)], p.2.length ≤ 20 := fun p hp => by
    rcases List.mem_append.1 hp with h | h
    · exact hn p h
    · rw [List.mem_singleton.1 h, srt_len]; have := (greatP_no h22).1; omega
  exact q_round (s := (i, undef, zs)) (i + 1, v31, zs ++ [((.slice A26 ((srt x14).length) c27 : Value), srt x14)]) ⟨rfl, rfl, rfl, rfl, rfl, trivial⟩ ⟨H, by (try dsimp only); simp only [List.length_append, List.length_cons, List.length_nil]; omega, hn2⟩ (by (try dsimp only); omega)
 refine c_exit (q_thenE (q_thenE (q_blockE (q_then (c_seq ?_)))))
 have hfb := flat2_bound hn
 have hb : (flat2 zs).length ≤ 1000000 := Nat.le_trans hfb (by omega)
 have hpa : ∀ i ∈ p, In64 i.a := fun i hi => (wp.1 i hi).2.1
 have hel := each_len dg p (srt (flat2 zs)) fuel false (keysL (srt (flat2 zs))) [] (Nat.zero_le _)
 refine c_reg (s_k 3 rfl (sc (snapOf_ok (.slice A1 p.length c2) p fuel q zs (by first | exact hpa | exact in64_first | assumption) (by first | assumption | (unfold In64; omega)) (by first | omega | assumption)) H (lR 1 rfl (lA 0 rfl own_rd (lR 3 rfl l0))) rfl rfl (e_fn kn16 rfl rfl) ?_))
 rintro _ _ w ⟨u32, rfl, rfl⟩ H
 refine s_k 5 rfl (s_nil (q_then ?_))
 replace H : Hd _ _ _ [osl kPair u32 ((eachM dg p (srt (flat2 zs)) fuel false).1), osl (kHd kPair) q zs] [rsl (kHd kPair) (.slice A6 us.length c7) us, rsl kIns (.slice A1 p.length c2) p, rsl (kSl kPair) (.slice A6 us.length c7) runs, gl] := H
 refine c_seq (c_reg (s_k 3 rfl (sc (rSnapOf_ok (.slice A1 p.length c2) p fuel q zs (by first | exact hpa | exact in64_first | assumption) (by first | assumption | (unfold In64; omega)) (by first | omega | assumption)) H (lR 1 rfl (lA 1 rfl own_rd l0)) rfl rfl (e_fn kn17 rfl rfl) ?_)))
 rintro _ _ w ⟨u33, rfl, rfl⟩ H
 replace H := H.h1 (A := osl kPair u33 ((eachM dg p (srt (flat2 zs)) fuel false).1))
 refine s_k 5 rfl (s_nil (q_then (c_seq (c_reg (s_k 2 rfl (sc (runs_ok q zs (by first | omega | decide | exact Nat.le_trans (flat2_le _ _) (by omega) | exact Nat.le_trans (flat2_le' _ _) (by omega) | (simp only [flat2, List.flatMap_cons, List.flatMap_nil, List.append_nil, srt_len]; omega))) H (lA 2 rfl own_rd l0) rfl rfl (e_fn kn18 rfl rfl) ?_))))))
 rintro v34 _ w rfl H
 replace H := H.h1 (A := osl kPair v34 (srt (flat2 zs)))
 refine s_1 rfl (sc (foldEach_ok (.slice A1 p.length c2) p v34 (srt (flat2 zs)) fuel (by first | exact hpa | exact in64_first | assumption) (by first | assumption | (unfold In64; omega)) (by first | omega | (simp only [srt_len]; omega))) H (lR 1 rfl (lA 0 rfl own_rd (lR 3 rfl l0))) rfl rfl (e_fn kn10 rfl rfl) ?_)
 rintro _ _ w ⟨u35, rfl, rfl⟩ H
 replace H := H.h1 (A := osl kPair u35 ((eachM dg p (srt (flat2 zs)) fuel false).1))
 refine s_k 5 rfl (s_nil (q_then (c_seq (c_reg (s_k 2 rfl (sc (samePairs_ok u32 u33 ((eachM dg p (srt (flat2 zs)) fuel false).1) ((eachM dg p (srt (flat2 zs)) fuel false).1)) H (lA 3 rfl own_rd (lA 2 rfl own_rd l0)) rfl rfl (e_fn kn19 rfl rfl) ?_))))))
 rintro _ _ w ⟨rfl, rfl⟩ H
 refine s_1 rfl ?_
 refine s_dec (d := 69) rfl (fun h36 => ?_) (fun h36 => ?_)
 ·refine s_k 2 rfl (s_val rfl rfl (r_eq rfl rfl rfl) (s_k 2 rfl ?_))
  refine s_dec (d := 74) rfl (fun h37 => ?_) (fun h37 => ?_)
  ·refine s_k 2 rfl (sc (samePairs_ok u32 u35 ((eachM dg p (srt (flat2 zs)) fuel false).1) ((eachM dg p (srt (flat2 zs)) fuel false).1)) H (lA 3 rfl own_rd (lA 0 rfl own_rd l0)) rfl rfl (e_fn kn19 rfl rfl) ?_)
   rintro _ _ w ⟨rfl, rfl⟩ H
   refine s_k 2 rfl ?_
   refine s_dec (d := 79) rfl (fun h38 => ?_) (fun h38 => ?_)
   ·refine s_k 2 rfl (s_val rfl rfl (r_eq rfl rfl rfl) (s_k 2 rfl (s_nil (q_then (c_seq (c_reg (s_1 rfl ?_)))))))
    replace H := H.p3
    replace H : Hd _ _ _ [osl kPair u32 ((eachM dg p (srt (flat2 zs)) fuel false).1), osl kPair u35 ((eachM dg p (srt (flat2 zs)) fuel false).1), osl kPair v34 (srt (flat2 zs)), osl kPair u33 ((eachM dg p (srt (flat2 zs)) fuel false).1), osl (kHd kPair) q zs] [rsl (kHd kPair) (.slice A6 us.length c7) us, rsl kIns (.slice A1 p.length c2) p, rsl (kSl kPair) (.slice A6 us.length c7) runs, gl] := H
    refine sc (overPairs_ok u32 ((eachM dg p (srt (flat2 zs)) fuel false).1) (by exact Nat.le_trans hel (by decide))) H l0 rfl rfl (e_fn kn20 rfl rfl) ?_
    rintro _ _ w rfl H
    refine s_nil (q_then (c_seq (c_reg (s_k 2 rfl ?_))))
    refine s_dec (d := 87) rfl (fun h39 => ?_) (fun h39 => ?_)
    ·refine sc (awake20_ok ) H l0 rfl rfl (e_fn kn13 rfl rfl) ?_
     rintro _ _ w ⟨rfl, rfl⟩ H
     refine s_k 2 rfl (s_nil (q_then (c_ret (q_ret1 rfl rfl ?_))))
     replace H := H.nil |>.dropR
     replace H : Hd _ _ _ [] [rsl kIns (.slice A1 p.length c2) p, rsl (kSl kPair) (.slice A6 us.length c7) runs, gl] := H
     exact fin ⟨rfl, rfl⟩ H
    exact (h39 rfl).elim
   exact (h38 rfl).elim
  exact (h37 rfl).elim
 exact (h36 rfl).elim
theorem v_foot {P : Program} {W : World} {name : String} {g : Nat} {cs : Array Value} (hg : P.globalNamed name = some g) (h : W.var? P name = some cs) : Old W g := by
 unfold World.var? at h
 rw [hg] at h
 simp only [Option.bind_some] at h
 show g < W.heap.size
 rcases Nat.lt_or_ge g W.heap.size with h' | h'
 ·exact h'
 ·simp [Array.getElem?_eq_none h'] at h
theorem star2 : "*" ++ "errors.errorString" = "*errors.errorString" := by decide
theorem ptrRow (u : TypeId) (h : Tryz.prog.typeName? 3 u = some "*errors.errorString") : u = 219 := typeName_ptr_named (nm := "errors.errorString") (by rw [star2]; kernel_rfl) (by kernel_rfl) (by decide) u (by rw [star2]; exact h)
theorem gn0 : Tryz.prog.globalNamed "internal/strconv.uint64pow10" = some 2 := by kernel_rfl
theorem gt0 : (Tryz.prog.globals[2]?).map (·.type) = some 215 := by kernel_rfl
theorem gn1 : Tryz.prog.globalNamed "strconv.ErrSyntax" = some 0 := by kernel_rfl
theorem gt1 : (Tryz.prog.globals[0]?).map (·.type) = some 168 := by kernel_rfl
theorem gn2 : Tryz.prog.globalNamed "strconv.ErrRange" = some 1 := by kernel_rfl
theorem gt2 : (Tryz.prog.globals[1]?).map (·.type) = some 168 := by kernel_rfl
theorem lu168 : Tryz.prog.underlying 168 = some (.interface (Tryz.prog.methodsAt 168)) := by kernel_rfl
theorem lu215 : Tryz.prog.underlying 215 = some (.array 20 86) := by kernel_rfl
theorem lu86 : Tryz.prog.underlying 86 = some (.int .u64) := by kernel_rfl
theorem lu219 : Tryz.prog.underlying 219 = some (.pointer 221) := by kernel_rfl
theorem lu221 : Tryz.prog.underlying 221 = some (.struct #[⟨ "s", 9, 0, false, "", "errors", 0⟩]) := by kernel_rfl
theorem lu9 : Tryz.prog.underlying 9 = some (.string) := by kernel_rfl
theorem lc86 : Tryz.prog.cellsOf 86 = 1 := by kernel_rfl
theorem lc215 : Tryz.prog.cellsOf 215 = 20 := by kernel_rfl
theorem lc221 : Tryz.prog.cellsOf 221 = 1 := by kernel_rfl
theorem lc9 : Tryz.prog.cellsOf 9 = 1 := by kernel_rfl
theorem gl_laid {W : World} (h : laidMet Tryz.prog Rows.foldEmptyRow.laid W) : gl.P W (Old W) := by
 refine ⟨?_, ?_, ?_⟩
 ·have h0 : laidMet Tryz.prog [("internal/strconv.uint64pow10", Lib.tabData .u64 Lib.pow10Tab)] W := by
   have e : Rows.foldEmptyRow.laid.filter (fun x => x.1 == "internal/strconv.uint64pow10") = [("internal/strconv.uint64pow10", Lib.tabData .u64 Lib.pow10Tab)] := by kernel_rfl
   have := h.filter (fun x => x.1 == "internal/strconv.uint64pow10"); rw [e] at this; exact this
  have hv := Lib.tabIs_of_head gn0 gt0 lu215 lu86 lc86 lc215 h0
  exact ⟨_, gn0, v_foot gn0 hv, _, hv, rfl⟩
 ·have h0 : laidMet Tryz.prog [("strconv.ErrSyntax", Rows.laid_strconv_ErrSyntax)] W := by
   have e : Rows.foldEmptyRow.laid.filter (fun x => x.1 == "strconv.ErrSyntax") = [("strconv.ErrSyntax", Rows.laid_strconv_ErrSyntax)] := by kernel_rfl
   have := h.filter (fun x => x.1 == "strconv.ErrSyntax"); rw [e] at this; exact this
  obtain ⟨a0, s0, hv, -⟩ := laid_sentinel h0 gn1 gt1 lu168 ptrRow lu219 lu221 rfl rfl lu9 lc221 lc9
  exact ⟨_, gn1, v_foot gn1 hv, _, hv, _, _, rfl⟩
 ·have h0 : laidMet Tryz.prog [("strconv.ErrRange", Rows.laid_strconv_ErrRange)] W := by
   have e : Rows.foldEmptyRow.laid.filter (fun x => x.1 == "strconv.ErrRange") = [("strconv.ErrRange", Rows.laid_strconv_ErrRange)] := by kernel_rfl
   have := h.filter (fun x => x.1 == "strconv.ErrRange"); rw [e] at this; exact this
  obtain ⟨a0, s0, hv, -⟩ := laid_sentinel h0 gn2 gt2 lu168 ptrRow lu219 lu221 rfl rfl lu9 lc221 lc9
  exact ⟨_, gn2, v_foot gn2 hv, _, hv, _, _, rfl⟩
end Go.Proofs.YtlpgdkbokakniaaGreatDoor.X
