/- Merging runs: what each function answers. -/
import Derived.Test.YtnaaahpmnhoabaaM11
import Derived.Test.YtnaaahpmnhoabaaXH
import Derived.Test.YtnaaahpmnhoabaaXMer
set_option linter.unusedVariables false
set_option linter.unusedSimpArgs false
namespace Go.Proofs.Ytnaaahpmnhoabaa.X
open Go
set_option maxHeartbeats 1000000 in
theorem two_ok (vxs : Value) (xs : List Pair) (vys : Value) (ys : List Pair) (hb : xs.length + ys.length ≤ 1000000) :
    Cn Try.prog 52 [vxs, vys] [] [rsl kPair vxs xs, rsl kPair vys ys] (fun v Bs => Bs = [osl kPair v (srt (xs ++ ys))]) := by
  intro w0 F0 H
  obtain ⟨A1, c2, rfl, hc3, hm4, hp5⟩ := H.fR 0 rfl
  obtain ⟨A6, c7, rfl, hc8, hm9, hp10⟩ := H.fR 1 rfl
  refine enter (args := [.slice A1 xs.length c2, .slice A6 ys.length c7]) Try.func52 rfl rfl (Nat.le_of_ble_eq_true rfl) ?_
  refine c_seq ?_
  refine c_reg ?_
  refine s_val rfl rfl (r_as rfl rfl) ?_
  refine s_nil ?_
  refine q_then ?_
  replace H : Hd _ _ _ [] [rsl kPair (.slice A1 xs.length c2) xs, rsl kPair (.slice A6 ys.length c7) ys] := H
  refine c_env [(0, .slice A1 xs.length c2), (1, .slice A6 ys.length c7), (4, .slice none 0 0)] ⟨rfl, rfl, rfl, trivial⟩ ?_
  refine c_seq ?_
  refine c_seq ?_
  refine c_reg ?_
  refine s_val rfl rfl (r_mv rfl rfl) ?_
  refine sc (sorted_ok (.slice A1 xs.length c2) xs (by first | omega | decide | (simp only [List.length_append, List.length_cons, List.length_nil, srt_len]; omega))) H (lR 0 rfl l0) rfl rfl (e_fn kn55 rfl rfl) ?_
  rintro _ _ w ⟨rfl, rfl⟩ H
  refine s_val rfl rfl (r_notP rfl rfl) ?_
  refine s_val rfl rfl (r_mv rfl rfl) ?_
  refine s_dec (d := 9) (p := ¬ (Ord xs)) rfl (fun h11 => ?_) (fun h11 => ?_)
  · skip
    refine s_no rfl rfl ?_
    refine s_no rfl rfl ?_
    refine s_no rfl rfl ?_
    refine s_val rfl rfl (r_pickT rfl rfl rfl) ?_
    refine s_nil ?_
    refine q_then ?_
    refine c_env [(0, .slice A1 xs.length c2), (1, .slice A6 ys.length c7), (4, .slice none 0 0), (13, .bool true)] ⟨rfl, rfl, rfl, rfl, trivial⟩ ?_
    refine c_yes rfl ?_
    refine c_seq ?_
    refine c_reg ?_
    refine s_val rfl rfl (r_mv rfl rfl) ?_
    replace H := H.newnil kPair
    refine s_appF (xs := []) (ys := xs) rfl rfl rfl sl54 zr91 rfl (by decide) rfl rfl H (by first | omega | (simp only [List.length_append, List.length_cons, List.length_nil]; omega)) (fun F hA hR => hR _ (List.mem_of_getElem? (i := 0) rfl)) (fun v12 w H => ?_)
    refine s_val rfl rfl (r_mv rfl rfl) ?_
    refine s_appF (xs := [] ++ xs) (ys := ys) rfl rfl rfl sl54 zr91 rfl (by decide) rfl rfl H (by first | omega | (simp only [List.length_append, List.length_cons, List.length_nil]; omega)) (fun F hA hR => hR _ (List.mem_of_getElem? (i := 1) rfl)) (fun v13 w H => ?_)
    replace H : Hd _ _ _ [osl kPair v13 (([] ++ xs) ++ ys)] [rsl kPair (.slice A1 xs.length c2) xs, rsl kPair (.slice A6 ys.length c7) ys] := H
    refine sc (pairSort_ok v13 (([] ++ xs) ++ ys) (by first | omega | decide | (simp only [List.length_append, List.length_cons, List.length_nil, srt_len]; omega))) H (lA 0 rfl own_rd l0) rfl rfl (e_fn kn54 rfl rfl) ?_
    rintro v14 _ w rfl H
    refine s_val rfl rfl (r_as rfl rfl) ?_
    refine s_nil ?_
    refine q_then ?_
    replace H : Hd _ _ _ [osl kPair v14 (srt (([] ++ xs) ++ ys)), osl kPair v13 (([] ++ xs) ++ ys)] [rsl kPair (.slice A1 xs.length c2) xs, rsl kPair (.slice A6 ys.length c7) ys] := H
    refine c_env [(0, .slice A1 xs.length c2), (1, .slice A6 ys.length c7), (4, v14)] ⟨rfl, rfl, rfl, trivial⟩ ?_
    refine c_ret ?_
    refine q_thenR ?_
    refine q_ret1 rfl rfl ?_
    replace H := H.keep 1
    replace H : Hd w0 F0 w [osl kPair v14 (srt (xs ++ ys))] [rsl kPair (.slice A1 xs.length c2) xs, rsl kPair (.slice A6 ys.length c7) ys] := H
    exact fin rfl H
  · skip
    refine s_val rfl rfl (r_mv rfl rfl) ?_
    refine sc (sorted_ok (.slice A6 ys.length c7) ys (by first | omega | decide | (simp only [List.length_append, List.length_cons, List.length_nil, srt_len]; omega))) H (lR 1 rfl l0) rfl rfl (e_fn kn55 rfl rfl) ?_
    rintro _ _ w ⟨rfl, rfl⟩ H
    refine s_val rfl rfl (r_notP rfl rfl) ?_
    refine s_val rfl rfl (r_pickF rfl rfl rfl) ?_
    refine s_nil ?_
    refine q_then ?_
    refine c_env [(0, .slice A1 xs.length c2), (1, .slice A6 ys.length c7), (4, .slice none 0 0), (13, .bool (decide (¬ (Ord ys))))] ⟨rfl, rfl, rfl, rfl, trivial⟩ ?_
    refine c_dec (p := ¬ (Ord ys)) rfl (fun h15 => ?_) (fun h15 => ?_)
    · skip
      refine c_seq ?_
      refine c_reg ?_
      refine s_val rfl rfl (r_mv rfl rfl) ?_
      replace H := H.newnil kPair
      refine s_appF (xs := []) (ys := xs) rfl rfl rfl sl54 zr91 rfl (by decide) rfl rfl H (by first | omega | (simp only [List.length_append, List.length_cons, List.length_nil]; omega)) (fun F hA hR => hR _ (List.mem_of_getElem? (i := 0) rfl)) (fun v16 w H => ?_)
      refine s_val rfl rfl (r_mv rfl rfl) ?_
      refine s_appF (xs := [] ++ xs) (ys := ys) rfl rfl rfl sl54 zr91 rfl (by decide) rfl rfl H (by first | omega | (simp only [List.length_append, List.length_cons, List.length_nil]; omega)) (fun F hA hR => hR _ (List.mem_of_getElem? (i := 1) rfl)) (fun v17 w H => ?_)
      replace H : Hd _ _ _ [osl kPair v17 (([] ++ xs) ++ ys)] [rsl kPair (.slice A1 xs.length c2) xs, rsl kPair (.slice A6 ys.length c7) ys] := H
      refine sc (pairSort_ok v17 (([] ++ xs) ++ ys) (by first | omega | decide | (simp only [List.length_append, List.length_cons, List.length_nil, srt_len]; omega))) H (lA 0 rfl own_rd l0) rfl rfl (e_fn kn54 rfl rfl) ?_
      rintro v18 _ w rfl H
      refine s_val rfl rfl (r_as rfl rfl) ?_
      refine s_nil ?_
      refine q_then ?_
      replace H : Hd _ _ _ [osl kPair v18 (srt (([] ++ xs) ++ ys)), osl kPair v17 (([] ++ xs) ++ ys)] [rsl kPair (.slice A1 xs.length c2) xs, rsl kPair (.slice A6 ys.length c7) ys] := H
      refine c_env [(0, .slice A1 xs.length c2), (1, .slice A6 ys.length c7), (4, v18)] ⟨rfl, rfl, rfl, trivial⟩ ?_
      refine c_ret ?_
      refine q_thenR ?_
      refine q_ret1 rfl rfl ?_
      replace H := H.keep 1
      replace H : Hd w0 F0 w [osl kPair v18 (srt (xs ++ ys))] [rsl kPair (.slice A1 xs.length c2) xs, rsl kPair (.slice A6 ys.length c7) ys] := H
      exact fin rfl H
    · skip
      refine c_skip ?_
      refine q_then ?_
      refine c_env [(0, .slice A1 xs.length c2), (1, .slice A6 ys.length c7), (4, .slice none 0 0)] ⟨rfl, rfl, rfl, trivial⟩ ?_
      refine c_seq ?_
      have hoxs : Ord xs := Classical.not_not.1 h11
      have hoys : Ord ys := Classical.not_not.1 h15
      refine c_reg ?_
      refine s_val rfl rfl (r_as rfl rfl) ?_
      refine s_nil ?_
      refine q_then ?_
      refine c_env [(0, .slice A1 xs.length c2), (1, .slice A6 ys.length c7), (4, .slice none 0 0), (5, .slice none 0 0)] ⟨rfl, rfl, rfl, rfl, trivial⟩ ?_
      refine c_seq ?_
      refine c_block ?_
      replace H := H.newnil kPair
      replace H := H.dupR 1 rfl
      replace H := H.dupR 1 rfl
      refine c_loop (σ := Value × Value × List Pair × List Pair × Value × List Pair) (fun (u, v, al, bl, q, zs) => [(0, u), (1, v), (4, .slice none 0 0), (5, q)]) (fun (u, v, al, bl, q, zs) w => (Hd w0 F0 w [osl kPair q zs] [rsl kPair u al, rsl kPair v bl, rsl kPair (.slice A1 xs.length c2) xs, rsl kPair (.slice A6 ys.length c7) ys]) ∧ (Ord al) ∧ (Ord bl) ∧ (zs.length + (al.length + bl.length) = xs.length + ys.length) ∧ (zs ++ srt (al ++ bl) = srt (xs ++ ys))) (fun (u, v, al, bl, q, zs) => al.length + bl.length) (.slice A1 xs.length c2, .slice A6 ys.length c7, xs, ys, .slice none 0 0, []) ⟨rfl, rfl, rfl, rfl, trivial⟩ ⟨H, hoxs, hoys, by (try dsimp only); simp only [List.length_nil]; omega, rfl⟩ ?_
      rintro ⟨u, v, al, bl, q, zs⟩ w ⟨H, ha, hb2, hl, hz⟩
      refine c_seq ?_
      refine c_seq ?_
      refine c_reg ?_
      refine s_val rfl rfl (r_mv rfl rfl) ?_
      obtain ⟨A19, c20, rfl, hc21, hm22, hp23⟩ := H.fR 0 rfl
      refine s_val rfl rfl (r_lenL rfl un54 rfl) ?_
      refine s_val rfl rfl (r_gt rfl rfl rfl) ?_
      refine s_val rfl rfl (r_mv rfl rfl) ?_
      refine s_dec (d := 22) (p := (0 : Int) < ((al.length : Nat) : Int)) rfl (fun h24 => ?_) (fun h24 => ?_)
      · skip
        refine s_val rfl rfl (r_mv rfl rfl) ?_
        obtain ⟨A25, c26, rfl, hc27, hm28, hp29⟩ := H.fR 1 rfl
        refine s_val rfl rfl (r_lenL rfl un54 rfl) ?_
        refine s_val rfl rfl (r_gt rfl rfl rfl) ?_
        refine s_val rfl rfl (r_pickT rfl rfl rfl) ?_
        refine s_nil ?_
        refine q_then ?_
        replace H : Hd _ _ _ [osl kPair q zs] [rsl kPair (.slice A19 al.length c20) al, rsl kPair (.slice A25 bl.length c26) bl, rsl kPair (.slice A1 xs.length c2) xs, rsl kPair (.slice A6 ys.length c7) ys] := H
        refine c_env [(0, .slice A19 al.length c20), (1, .slice A25 bl.length c26), (4, .slice none 0 0), (5, q), (26, .bool (decide ((0 : Int) < ((bl.length : Nat) : Int))))] ⟨rfl, rfl, rfl, rfl, rfl, trivial⟩ ?_
        refine c_dec (p := (0 : Int) < ((bl.length : Nat) : Int)) rfl (fun h30 => ?_) (fun h30 => ?_)
        · skip
          refine c_skip ?_
          refine q_then ?_
          refine c_env [(0, .slice A19 al.length c20), (1, .slice A25 bl.length c26), (4, .slice none 0 0), (5, q)] ⟨rfl, rfl, rfl, rfl, trivial⟩ ?_
          refine c_block ?_
          refine c_seq ?_
          refine c_seq ?_
          refine c_draw mo (by kernel_rfl) H ?_
          refine u_val rfl rfl (fun w H => r_mv rfl rfl) ?_
          obtain ⟨x31, hx32⟩ : ∃ z9, bl[0]? = some z9 := ⟨_, List.getElem?_eq_getElem (show 0 < bl.length by omega)⟩
          have th33 := H.thR 1 rfl hx32
          refine u_val rfl rfl (fun w H => r_iaE (p := oOf A25 + 0 * 2) rfl sl54 rfl rfl (by omega) (by omega) th33 (by omega)) ?_
          refine u_val rfl rfl (fun w H => r_fa rfl fo91_0 rfl) ?_
          refine u_val rfl rfl (fun w H => r_ld rfl ty9 rfl (H.elR 1 rfl hx32 (q := 0) rfl rfl)) ?_
          refine u_val rfl rfl (fun w H => r_mv rfl rfl) ?_
          obtain ⟨x34, hx35⟩ : ∃ z9, al[0]? = some z9 := ⟨_, List.getElem?_eq_getElem (show 0 < al.length by omega)⟩
          have th36 := H.thR 0 rfl hx35
          refine u_val rfl rfl (fun w H => r_iaE (p := oOf A19 + 0 * 2) rfl sl54 rfl rfl (by omega) (by omega) th36 (by omega)) ?_
          refine u_val rfl rfl (fun w H => r_fa rfl fo91_0 rfl) ?_
          refine u_val rfl rfl (fun w H => r_ld rfl ty9 rfl (H.elR 0 rfl hx35 (q := 0) rfl rfl)) ?_
          refine u_val rfl rfl (fun w H => r_ltS rfl rfl rfl) ?_
          refine u_end (fun w H => ?_)
          refine q_then ?_
          refine c_env [(0, .slice A19 al.length c20), (1, .slice A25 bl.length c26), (4, .slice none 0 0), (5, q), (35, .bool (decide (ltS x31.key x34.key = true)))] ⟨rfl, rfl, rfl, rfl, rfl, trivial⟩ ?_
          refine c_dec (p := ltS x31.key x34.key = true) rfl (fun h37 => ?_) (fun h37 => ?_)
          · skip
            refine c_seq ?_
            refine c_reg ?_
            refine s_val rfl rfl (r_mv rfl rfl) ?_
            refine s_val rfl rfl (r_mv rfl rfl) ?_
            have th38 := H.thR 1 rfl hx32
            refine s_val rfl rfl (r_iaE (p := oOf A25 + 0 * 2) rfl sl54 rfl rfl (by omega) (by omega) th38 (by omega)) ?_
            refine s_val rfl rfl (r_ldA (cs := [.string x31.key, .string x31.val]) rfl ty91 rfl rfl (H.elsR 1 rfl hx32 rfl)) ?_
            refine s_bsl (parts := [(0, .tmp 39)]) (vs := [.agg #[.string x31.key, .string x31.val]]) (cs := [.string x31.key, .string x31.val]) rfl rfl rfl sl54 zr91 rfl (by decide) (by decide) rfl rfl H (fun b39 w H => ?_)
            replace H := H.pick 1 rfl
            refine s_appF (xs := zs) (ys := [x31]) rfl rfl rfl sl54 zr91 rfl (by decide) rfl rfl H (by first | omega | (simp only [List.length_append, List.length_cons, List.length_nil]; omega)) (fun F hA hR => blk_rsl (hA _ (List.mem_of_getElem? (i := 0) rfl)) rfl (by decide) (RepsR.flat_eq.2 rfl)) (fun v40 w H => ?_)
            refine s_val rfl rfl (r_as rfl rfl) ?_
            refine s_nil ?_
            refine q_then ?_
            replace H : Hd _ _ _ [osl kPair v40 (zs ++ [x31]), blk b39 [.string x31.key, .string x31.val] 91] [rsl kPair (.slice A19 al.length c20) al, rsl kPair (.slice A25 bl.length c26) bl, rsl kPair (.slice A1 xs.length c2) xs, rsl kPair (.slice A6 ys.length c7) ys] := H
            refine c_env [(0, .slice A19 al.length c20), (1, .slice A25 bl.length c26), (4, .slice none 0 0), (5, v40)] ⟨rfl, rfl, rfl, rfl, trivial⟩ ?_
            refine c_seq ?_
            refine c_reg ?_
            refine s_val rfl rfl (r_mv rfl rfl) ?_
            refine s_val rfl rfl (r_cutS rfl sl54 rfl rfl (by omega) (by omega) rfl) ?_
            refine s_val rfl rfl (r_as rfl rfl) ?_
            refine s_nil ?_
            refine q_then ?_
            refine c_env [(0, .slice A19 al.length c20), (1, .slice (cutA A25 c26 1 2) (bl.length - 1) (c26 - 1)), (4, .slice none 0 0), (5, v40)] ⟨rfl, rfl, rfl, rfl, trivial⟩ ?_
            refine c_exit ?_
            refine q_thenE ?_
            refine q_blockE ?_
            replace H := H.keep 1
            replace H := H.sufR 1 rfl (n := 1) (by omega)
            replace H : Hd w0 F0 w [osl kPair v40 (zs ++ [x31])] [rsl kPair (.slice A19 al.length c20) al, rsl kPair (.slice (cutA A25 c26 1 2) (bl.length - 1) (c26 - 1)) (bl.drop 1), rsl kPair (.slice A1 xs.length c2) xs, rsl kPair (.slice A6 ys.length c7) ys] := H.pickR [1, 0, 3, 4]
            have hz2 : (zs ++ [x31]) ++ srt (al ++ bl.drop 1) = srt (xs ++ ys) := by rw [← hz, mer_b hx35 hx32 ha hb2 h37, List.append_assoc]; rfl
            exact q_round (s := (undef, undef, al, bl, undef, zs)) (.slice A19 al.length c20, .slice (cutA A25 c26 1 2) (bl.length - 1) (c26 - 1), al, bl.drop 1, v40, zs ++ [x31]) ⟨rfl, rfl, rfl, rfl, trivial⟩ ⟨H, ha, ord_drop hb2 1, by (try dsimp only); simp only [List.length_append, List.length_cons, List.length_nil, List.length_drop]; omega, hz2⟩ (by (try dsimp only); simp only [List.length_drop]; omega)
          · skip
            refine c_skip ?_
            refine q_then ?_
            refine c_env [(0, .slice A19 al.length c20), (1, .slice A25 bl.length c26), (4, .slice none 0 0), (5, q)] ⟨rfl, rfl, rfl, rfl, trivial⟩ ?_
            refine c_seq ?_
            refine c_reg ?_
            refine s_val rfl rfl (r_mv rfl rfl) ?_
            refine s_val rfl rfl (r_mv rfl rfl) ?_
            have th41 := H.thR 0 rfl hx35
            refine s_val rfl rfl (r_iaE (p := oOf A19 + 0 * 2) rfl sl54 rfl rfl (by omega) (by omega) th41 (by omega)) ?_
            refine s_val rfl rfl (r_ldA (cs := [.string x34.key, .string x34.val]) rfl ty91 rfl rfl (H.elsR 0 rfl hx35 rfl)) ?_
            refine s_bsl (parts := [(0, .tmp 47)]) (vs := [.agg #[.string x34.key, .string x34.val]]) (cs := [.string x34.key, .string x34.val]) rfl rfl rfl sl54 zr91 rfl (by decide) (by decide) rfl rfl H (fun b42 w H => ?_)
            replace H := H.pick 1 rfl
            refine s_appF (xs := zs) (ys := [x34]) rfl rfl rfl sl54 zr91 rfl (by decide) rfl rfl H (by first | omega | (simp only [List.length_append, List.length_cons, List.length_nil]; omega)) (fun F hA hR => blk_rsl (hA _ (List.mem_of_getElem? (i := 0) rfl)) rfl (by decide) (RepsR.flat_eq.2 rfl)) (fun v43 w H => ?_)
            refine s_val rfl rfl (r_as rfl rfl) ?_
            refine s_nil ?_
            refine q_then ?_
            replace H : Hd _ _ _ [osl kPair v43 (zs ++ [x34]), blk b42 [.string x34.key, .string x34.val] 91] [rsl kPair (.slice A19 al.length c20) al, rsl kPair (.slice A25 bl.length c26) bl, rsl kPair (.slice A1 xs.length c2) xs, rsl kPair (.slice A6 ys.length c7) ys] := H
            refine c_env [(0, .slice A19 al.length c20), (1, .slice A25 bl.length c26), (4, .slice none 0 0), (5, v43)] ⟨rfl, rfl, rfl, rfl, trivial⟩ ?_
            refine c_reg ?_
            refine s_val rfl rfl (r_mv rfl rfl) ?_
            refine s_val rfl rfl (r_cutS rfl sl54 rfl rfl (by omega) (by omega) rfl) ?_
            refine s_val rfl rfl (r_as rfl rfl) ?_
            refine s_nil ?_
            refine q_blockN ?_
            replace H := H.keep 1
            replace H := H.sufR 0 rfl (n := 1) (by omega)
            replace H : Hd w0 F0 w [osl kPair v43 (zs ++ [x34])] [rsl kPair (.slice (cutA A19 c20 1 2) (al.length - 1) (c20 - 1)) (al.drop 1), rsl kPair (.slice A25 bl.length c26) bl, rsl kPair (.slice A1 xs.length c2) xs, rsl kPair (.slice A6 ys.length c7) ys] := H.pickR [0, 2, 3, 4]
            have hz2 : (zs ++ [x34]) ++ srt (al.drop 1 ++ bl) = srt (xs ++ ys) := by rw [← hz, mer_a hx35 hx32 ha hb2 h37, List.append_assoc]; rfl
            exact q_round (s := (undef, undef, al, bl, undef, zs)) (.slice (cutA A19 c20 1 2) (al.length - 1) (c20 - 1), .slice A25 bl.length c26, al.drop 1, bl, v43, zs ++ [x34]) ⟨rfl, rfl, rfl, rfl, trivial⟩ ⟨H, ord_drop ha 1, hb2, by (try dsimp only); simp only [List.length_append, List.length_cons, List.length_nil, List.length_drop]; omega, hz2⟩ (by (try dsimp only); simp only [List.length_drop]; omega)
        · skip
          refine c_exit ?_
          refine q_thenE ?_
          refine q_thenE ?_
          refine q_blockE ?_
          refine q_then ?_
          refine c_env [(0, .slice A19 al.length c20), (1, .slice A25 bl.length c26), (4, .slice none 0 0), (5, q)] ⟨rfl, rfl, rfl, rfl, trivial⟩ ?_
          refine c_seq ?_
          refine c_reg ?_
          refine s_val rfl rfl (r_mv rfl rfl) ?_
          refine s_val rfl rfl (r_mv rfl rfl) ?_
          refine s_appF (xs := zs) (ys := al) rfl rfl rfl sl54 zr91 rfl (by decide) rfl rfl H (by first | omega | (simp only [List.length_append, List.length_cons, List.length_nil]; omega)) (fun F hA hR => hR _ (List.mem_of_getElem? (i := 0) rfl)) (fun v44 w H => ?_)
          refine s_val rfl rfl (r_mv rfl rfl) ?_
          refine s_appF (xs := zs ++ al) (ys := bl) rfl rfl rfl sl54 zr91 rfl (by decide) rfl rfl H (by first | omega | (simp only [List.length_append, List.length_cons, List.length_nil]; omega)) (fun F hA hR => hR _ (List.mem_of_getElem? (i := 1) rfl)) (fun v45 w H => ?_)
          refine s_val rfl rfl (r_as rfl rfl) ?_
          refine s_nil ?_
          refine q_then ?_
          replace H : Hd _ _ _ [osl kPair v45 ((zs ++ al) ++ bl)] [rsl kPair (.slice A19 al.length c20) al, rsl kPair (.slice A25 bl.length c26) bl, rsl kPair (.slice A1 xs.length c2) xs, rsl kPair (.slice A6 ys.length c7) ys] := H
          refine c_env [(4, v45)] ⟨rfl, trivial⟩ ?_
          refine c_ret ?_
          refine q_ret1 rfl rfl ?_
          replace H : Hd w0 F0 w [osl kPair v45 (srt (xs ++ ys))] [rsl kPair (.slice A19 al.length c20) al, rsl kPair (.slice A25 bl.length c26) bl, rsl kPair (.slice A1 xs.length c2) xs, rsl kPair (.slice A6 ys.length c7) ys] := by rw [← hz, mer_end ha hb2 (by omega), ← List.append_assoc]; exact H
          replace H := H.dropR
          replace H := H.dropR
          exact fin rfl H
      · skip
        refine s_no rfl rfl ?_
        refine s_no rfl rfl ?_
        refine s_no rfl rfl ?_
        refine s_val rfl rfl (r_pickF rfl rfl rfl) ?_
        refine s_nil ?_
        refine q_then ?_
        replace H : Hd _ _ _ [osl kPair q zs] [rsl kPair (.slice A19 al.length c20) al, rsl kPair v bl, rsl kPair (.slice A1 xs.length c2) xs, rsl kPair (.slice A6 ys.length c7) ys] := H
        refine c_env [(0, .slice A19 al.length c20), (1, v), (4, .slice none 0 0), (5, q), (26, .bool false)] ⟨rfl, rfl, rfl, rfl, rfl, trivial⟩ ?_
        refine c_no rfl ?_
        refine c_exit ?_
        refine q_thenE ?_
        refine q_thenE ?_
        refine q_blockE ?_
        refine q_then ?_
        refine c_env [(0, .slice A19 al.length c20), (1, v), (4, .slice none 0 0), (5, q)] ⟨rfl, rfl, rfl, rfl, trivial⟩ ?_
        refine c_seq ?_
        refine c_reg ?_
        refine s_val rfl rfl (r_mv rfl rfl) ?_
        refine s_val rfl rfl (r_mv rfl rfl) ?_
        refine s_appF (xs := zs) (ys := al) rfl rfl rfl sl54 zr91 rfl (by decide) rfl rfl H (by first | omega | (simp only [List.length_append, List.length_cons, List.length_nil]; omega)) (fun F hA hR => hR _ (List.mem_of_getElem? (i := 0) rfl)) (fun v46 w H => ?_)
        refine s_val rfl rfl (r_mv rfl rfl) ?_
        obtain ⟨A47, c48, rfl, hc49, hm50, hp51⟩ := H.fR 1 rfl
        refine s_appF (xs := zs ++ al) (ys := bl) rfl rfl rfl sl54 zr91 rfl (by decide) rfl rfl H (by first | omega | (simp only [List.length_append, List.length_cons, List.length_nil]; omega)) (fun F hA hR => hR _ (List.mem_of_getElem? (i := 1) rfl)) (fun v52 w H => ?_)
        refine s_val rfl rfl (r_as rfl rfl) ?_
        refine s_nil ?_
        refine q_then ?_
        replace H : Hd _ _ _ [osl kPair v52 ((zs ++ al) ++ bl)] [rsl kPair (.slice A19 al.length c20) al, rsl kPair (.slice A47 bl.length c48) bl, rsl kPair (.slice A1 xs.length c2) xs, rsl kPair (.slice A6 ys.length c7) ys] := H
        refine c_env [(4, v52)] ⟨rfl, trivial⟩ ?_
        refine c_ret ?_
        refine q_ret1 rfl rfl ?_
        replace H : Hd w0 F0 w [osl kPair v52 (srt (xs ++ ys))] [rsl kPair (.slice A19 al.length c20) al, rsl kPair (.slice A47 bl.length c48) bl, rsl kPair (.slice A1 xs.length c2) xs, rsl kPair (.slice A6 ys.length c7) ys] := by rw [← hz, mer_end ha hb2 (by omega), ← List.append_assoc]; exact H
        replace H := H.dropR
        replace H := H.dropR
        exact fin rfl H

set_option maxHeartbeats 1000000 in
theorem runs_ok (vus : Value) (us : List (Value × List Pair)) (hb : (flat2 us).length ≤ 1000000) :
    Cn Try.prog 47 [vus] [] [rsl (kHd kPair) vus us] (fun v Bs => Bs = [osl kPair v (srt (flat2 us))]) := by
  intro w0 F0 H
  obtain ⟨A1, c2, rfl, hc3, hm4, hp5⟩ := H.fR 0 rfl
  refine enter (args := [.slice A1 us.length c2]) Try.func47 rfl rfl (Nat.le_of_ble_eq_true rfl) ?_
  refine c_seq ?_
  refine c_reg ?_
  refine s_val rfl rfl (r_as rfl rfl) ?_
  refine s_nil ?_
  refine q_then ?_
  replace H : Hd _ _ _ [] [rsl (kHd kPair) (.slice A1 us.length c2) us] := H
  refine c_env [(0, .slice A1 us.length c2), (2, .slice none 0 0)] ⟨rfl, rfl, trivial⟩ ?_
  refine c_seq ?_
  refine c_reg ?_
  refine s_val rfl rfl (r_as rfl rfl) ?_
  refine s_nil ?_
  refine q_then ?_
  refine c_env [(0, .slice A1 us.length c2), (2, .slice none 0 0), (3, .slice none 0 0)] ⟨rfl, rfl, rfl, trivial⟩ ?_
  refine c_seq ?_
  refine c_seq ?_
  refine c_reg ?_
  refine s_val rfl rfl (r_mv rfl rfl) ?_
  refine s_val rfl rfl (r_lenL rfl un51 rfl) ?_
  refine s_val rfl rfl (r_mv rfl rfl) ?_
  refine s_nil ?_
  refine q_then ?_
  refine c_env [(2, .slice none 0 0), (3, .slice none 0 0), (6, .slice A1 us.length c2), (7, .int .i64 ((us.length : Nat) : Int)), (8, .int .i64 0)] ⟨rfl, rfl, rfl, rfl, rfl, trivial⟩ ?_
  refine c_block ?_
  replace H := H.newnil kPair
  refine c_loop (σ := Nat × Value) (fun (k, q) => [(2, .slice none 0 0), (3, q), (6, .slice A1 us.length c2), (7, .int .i64 ((us.length : Nat) : Int)), (8, .int .i64 ((k : Nat) : Int))]) (fun (k, q) w => (Hd w0 F0 w [osl kPair q (srt (flat2 (us.take k)))] [rsl (kHd kPair) (.slice A1 us.length c2) us]) ∧ (k ≤ us.length)) (fun (k, q) => us.length - k) (0, .slice none 0 0) ⟨rfl, rfl, rfl, rfl, rfl, trivial⟩ ⟨H, by (try dsimp only); omega⟩ ?_
  rintro ⟨k, q⟩ w ⟨H, hk⟩
  have hsl := srt_len (flat2 (us.take k))
  refine c_seq ?_
  refine c_reg ?_
  refine s_val rfl rfl (r_lt rfl rfl rfl) ?_
  refine s_nil ?_
  refine q_then ?_
  refine c_env [(2, .slice none 0 0), (3, q), (6, .slice A1 us.length c2), (7, .int .i64 ((us.length : Nat) : Int)), (8, .int .i64 ((k : Nat) : Int)), (9, .bool (decide (((k : Nat) : Int) < ((us.length : Nat) : Int))))] ⟨rfl, rfl, rfl, rfl, rfl, rfl, trivial⟩ ?_
  refine c_seq ?_
  refine c_dec (p := ((k : Nat) : Int) < ((us.length : Nat) : Int)) rfl (fun h6 => ?_) (fun h6 => ?_)
  · skip
    refine c_skip ?_
    refine q_then ?_
    refine c_env [(2, .slice none 0 0), (3, q), (6, .slice A1 us.length c2), (7, .int .i64 ((us.length : Nat) : Int)), (8, .int .i64 ((k : Nat) : Int))] ⟨rfl, rfl, rfl, rfl, rfl, trivial⟩ ?_
    refine c_seq ?_
    refine c_block ?_
    refine c_seq ?_
    refine c_reg ?_
    obtain ⟨⟨u9, x7⟩, hx8⟩ : ∃ z9, us[k]? = some z9 := ⟨_, List.getElem?_eq_getElem (show k < us.length by omega)⟩
    obtain ⟨A10, c11, rfl, hc12, hm13⟩ := H.nestR 0 rfl hx8
    have th14 := H.thRd 0 rfl hx8
    refine s_val rfl rfl (r_iaE (p := oOf A1 + k * 1) rfl sl51 rfl rfl (by omega) (by omega) th14 rfl) ?_
    refine s_val rfl rfl (r_ld rfl ty54 rfl (H.elRd 0 rfl hx8 rfl)) ?_
    refine s_val rfl rfl (r_as rfl rfl) ?_
    refine s_nil ?_
    refine q_then ?_
    refine c_env [(2, .slice none 0 0), (3, q), (5, .slice A10 x7.length c11), (6, .slice A1 us.length c2), (7, .int .i64 ((us.length : Nat) : Int)), (8, .int .i64 ((k : Nat) : Int))] ⟨rfl, rfl, rfl, rfl, rfl, rfl, trivial⟩ ?_
    have hfl := flat2_le us (k + 1)
    rw [flat2_step hx8, List.length_append] at hfl
    refine c_reg ?_
    refine s_val rfl rfl (r_mv rfl rfl) ?_
    refine s_val rfl rfl (r_mv rfl rfl) ?_
    refine sc (two_ok q (srt (flat2 (us.take k))) (.slice A10 x7.length c11) x7 (by first | omega | decide | (simp only [List.length_append, List.length_cons, List.length_nil, srt_len]; omega))) H (lA 0 rfl own_rd (lX (fun F hA hR => nest_rsl (hR _ (List.mem_of_getElem? (i := 0) rfl)) hx8) l0)) rfl rfl (e_fn kn52 rfl rfl) ?_
    rintro v15 _ w rfl H
    refine s_val rfl rfl (r_as rfl rfl) ?_
    refine s_nil ?_
    refine q_blockN ?_
    refine q_then ?_
    replace H : Hd _ _ _ [osl kPair v15 (srt ((srt (flat2 (us.take k))) ++ x7)), osl kPair q (srt (flat2 (us.take k)))] [rsl (kHd kPair) (.slice A1 us.length c2) us] := H
    refine c_env [(2, .slice none 0 0), (3, v15), (6, .slice A1 us.length c2), (7, .int .i64 ((us.length : Nat) : Int)), (8, .int .i64 ((k : Nat) : Int))] ⟨rfl, rfl, rfl, rfl, rfl, trivial⟩ ?_
    refine c_reg ?_
    refine s_val rfl rfl (r_add (z := ((k + 1 : Nat) : Int)) rfl rfl rfl (by rw [w64 (by omega) (by omega)]; omega)) ?_
    refine s_val rfl rfl (r_mv rfl rfl) ?_
    refine s_nil ?_
    replace H := H.keep 1
    replace H : Hd w0 F0 w [osl kPair v15 (srt (flat2 (us.take (k + 1))))] [rsl (kHd kPair) (.slice A1 us.length c2) us] := by rw [flat2_step hx8, ← srt_app_srt]; exact H
    exact q_round (s := (k, undef)) (k + 1, v15) ⟨rfl, rfl, rfl, rfl, rfl, trivial⟩ ⟨H, by (try dsimp only); omega⟩ (by (try dsimp only); omega)
  · skip
    refine c_exit ?_
    refine q_thenE ?_
    refine q_thenE ?_
    refine q_blockE ?_
    refine q_then ?_
    refine c_env [(2, .slice none 0 0), (3, q)] ⟨rfl, rfl, trivial⟩ ?_
    refine c_seq ?_
    refine c_reg ?_
    refine s_val rfl rfl (r_mv rfl rfl) ?_
    refine s_val rfl rfl (r_as rfl rfl) ?_
    refine s_nil ?_
    refine q_then ?_
    refine c_env [(2, q)] ⟨rfl, trivial⟩ ?_
    refine c_ret ?_
    refine q_ret1 rfl rfl ?_
    replace H : Hd w0 F0 w [osl kPair q (srt (flat2 us))] [rsl (kHd kPair) (.slice A1 us.length c2) us] := by rw [List.take_of_length_le (show us.length ≤ k by omega)] at H; exact H
    exact fin rfl H

set_option maxHeartbeats 1000000 in
theorem rRuns_ok (vus : Value) (us : List (Value × List Pair)) (hb : (flat2 us).length ≤ 1000000) :
    Cn Try.prog 49 [vus] [] [rsl (kHd kPair) vus us] (fun v Bs => Bs = [osl kPair v (srt (flat2 us))]) := by
  intro w0 F0 H
  obtain ⟨A1, c2, rfl, hc3, hm4, hp5⟩ := H.fR 0 rfl
  refine enter (args := [.slice A1 us.length c2]) Try.func49 rfl rfl (Nat.le_of_ble_eq_true rfl) ?_
  refine c_seq ?_
  refine c_reg ?_
  refine s_val rfl rfl (r_as rfl rfl) ?_
  refine s_nil ?_
  refine q_then ?_
  replace H : Hd _ _ _ [] [rsl (kHd kPair) (.slice A1 us.length c2) us] := H
  refine c_env [(0, .slice A1 us.length c2), (2, .slice none 0 0)] ⟨rfl, rfl, trivial⟩ ?_
  refine c_seq ?_
  refine c_reg ?_
  refine s_val rfl rfl (r_as rfl rfl) ?_
  refine s_nil ?_
  refine q_then ?_
  refine c_env [(0, .slice A1 us.length c2), (2, .slice none 0 0), (3, .slice none 0 0)] ⟨rfl, rfl, rfl, trivial⟩ ?_
  refine c_seq ?_
  refine c_seq ?_
  refine c_reg ?_
  refine s_val rfl rfl (r_as rfl rfl) ?_
  refine s_nil ?_
  refine q_then ?_
  refine c_env [(0, .slice A1 us.length c2), (2, .slice none 0 0), (3, .slice none 0 0), (4, .int .i64 0)] ⟨rfl, rfl, rfl, rfl, trivial⟩ ?_
  refine c_block ?_
  replace H := H.newnil kPair
  refine c_loop (σ := Nat × Value) (fun (k, q) => [(0, .slice A1 us.length c2), (2, .slice none 0 0), (3, q), (4, .int .i64 ((k : Nat) : Int))]) (fun (k, q) w => (Hd w0 F0 w [osl kPair q (flat2 (us.take k))] [rsl (kHd kPair) (.slice A1 us.length c2) us]) ∧ (k ≤ us.length)) (fun (k, q) => us.length - k) (0, .slice none 0 0) ⟨rfl, rfl, rfl, rfl, trivial⟩ ⟨H, by (try dsimp only); omega⟩ ?_
  rintro ⟨k, q⟩ w ⟨H, hk⟩
  have hfk := flat2_le us k
  refine c_seq ?_
  refine c_seq ?_
  refine c_reg ?_
  refine s_val rfl rfl (r_mv rfl rfl) ?_
  refine s_val rfl rfl (r_mv rfl rfl) ?_
  refine s_val rfl rfl (r_lenL rfl un51 rfl) ?_
  refine s_val rfl rfl (r_lt rfl rfl rfl) ?_
  refine s_nil ?_
  refine q_then ?_
  refine c_env [(0, .slice A1 us.length c2), (2, .slice none 0 0), (3, q), (4, .int .i64 ((k : Nat) : Int)), (8, .bool (decide (((k : Nat) : Int) < ((us.length : Nat) : Int))))] ⟨rfl, rfl, rfl, rfl, rfl, trivial⟩ ?_
  refine c_dec (p := ((k : Nat) : Int) < ((us.length : Nat) : Int)) rfl (fun h6 => ?_) (fun h6 => ?_)
  · skip
    refine c_skip ?_
    refine q_then ?_
    refine c_env [(0, .slice A1 us.length c2), (2, .slice none 0 0), (3, q), (4, .int .i64 ((k : Nat) : Int))] ⟨rfl, rfl, rfl, rfl, trivial⟩ ?_
    refine c_seq ?_
    refine c_block ?_
    refine c_reg ?_
    refine s_val rfl rfl (r_mv rfl rfl) ?_
    refine s_val rfl rfl (r_mv rfl rfl) ?_
    refine s_val rfl rfl (r_mv rfl rfl) ?_
    obtain ⟨⟨u9, x7⟩, hx8⟩ : ∃ z9, us[k]? = some z9 := ⟨_, List.getElem?_eq_getElem (show k < us.length by omega)⟩
    obtain ⟨A10, c11, rfl, hc12, hm13⟩ := H.nestR 0 rfl hx8
    have hfl := flat2_le us (k + 1)
    rw [flat2_step hx8, List.length_append] at hfl
    have th14 := H.thRd 0 rfl hx8
    refine s_val rfl rfl (r_iaE (p := oOf A1 + k * 1) rfl sl51 rfl rfl (by omega) (by omega) th14 rfl) ?_
    refine s_val rfl rfl (r_ld rfl ty54 rfl (H.elRd 0 rfl hx8 rfl)) ?_
    refine s_appF (xs := flat2 (us.take k)) (ys := x7) rfl rfl rfl sl54 zr91 rfl (by decide) rfl rfl H (by omega) (fun F hA hR => nest_rsl (hR _ (List.mem_of_getElem? (i := 0) rfl)) hx8) (fun v15 w H => ?_)
    refine s_val rfl rfl (r_as rfl rfl) ?_
    refine s_nil ?_
    refine q_blockN ?_
    refine q_then ?_
    replace H : Hd _ _ _ [osl kPair v15 ((flat2 (us.take k)) ++ x7)] [rsl (kHd kPair) (.slice A1 us.length c2) us] := H
    refine c_env [(0, .slice A1 us.length c2), (2, .slice none 0 0), (3, v15), (4, .int .i64 ((k : Nat) : Int))] ⟨rfl, rfl, rfl, rfl, trivial⟩ ?_
    refine c_reg ?_
    refine s_val rfl rfl (r_mv rfl rfl) ?_
    refine s_val rfl rfl (r_add (z := ((k + 1 : Nat) : Int)) rfl rfl rfl (by rw [w64 (by omega) (by omega)]; omega)) ?_
    refine s_val rfl rfl (r_as rfl rfl) ?_
    refine s_nil ?_
    replace H : Hd w0 F0 w [osl kPair v15 (flat2 (us.take (k + 1)))] [rsl (kHd kPair) (.slice A1 us.length c2) us] := by rw [flat2_step hx8]; exact H
    exact q_round (s := (k, undef)) (k + 1, v15) ⟨rfl, rfl, rfl, rfl, trivial⟩ ⟨H, by (try dsimp only); omega⟩ (by (try dsimp only); omega)
  · skip
    refine c_exit ?_
    refine q_thenE ?_
    refine q_thenE ?_
    refine q_blockE ?_
    refine q_then ?_
    refine c_env [(2, .slice none 0 0), (3, q)] ⟨rfl, rfl, trivial⟩ ?_
    refine c_seq ?_
    refine c_reg ?_
    refine s_val rfl rfl (r_mv rfl rfl) ?_
    refine sc (rSort_ok q (flat2 (us.take k)) (by first | omega | decide | (simp only [List.length_append, List.length_cons, List.length_nil, srt_len]; omega))) H (lA 0 rfl own_rd l0) rfl rfl (e_fn kn76 rfl rfl) ?_
    rintro v16 _ w rfl H
    refine s_val rfl rfl (r_as rfl rfl) ?_
    refine s_nil ?_
    refine q_then ?_
    replace H : Hd _ _ _ [osl kPair v16 (srt (flat2 (us.take k))), osl kPair q (flat2 (us.take k))] [rsl (kHd kPair) (.slice A1 us.length c2) us] := H
    refine c_env [(2, v16)] ⟨rfl, trivial⟩ ?_
    refine c_ret ?_
    refine q_ret1 rfl rfl ?_
    replace H := H.keep 1
    replace H : Hd w0 F0 w [osl kPair v16 (srt (flat2 us))] [rsl (kHd kPair) (.slice A1 us.length c2) us] := by rw [List.take_of_length_le (show us.length ≤ k by omega)] at H; exact H
    exact fin rfl H

set_option maxHeartbeats 1000000 in
theorem sortedRuns_ok (v : Value) (us : List (Value × List Pair)) :
    Cn Try.prog 45 [v] [] [rsl (kHd kPair) v us] (fun v Bs => ∃ ok u zs, v = .tuple #[u, .bool ok] ∧ Bs = [osl (kHd kPair) u zs] ∧ (ok = true → zs.length ≤ 8 ∧ ∀ p ∈ zs, p.2.length ≤ 20)) := by
  intro w0 F0 H
  obtain ⟨A1, c2, rfl, hc3, hm4, hp5⟩ := H.fR 0 rfl
  refine enter (args := [.slice A1 us.length c2]) Try.func45 rfl rfl (Nat.le_of_ble_eq_true rfl) ?_
  refine c_seq ?_
  refine c_reg ?_
  refine s_val rfl rfl (r_as rfl rfl) ?_
  refine s_val rfl rfl (r_as rfl rfl) ?_
  refine s_nil ?_
  refine q_then ?_
  replace H : Hd _ _ _ [] [rsl (kHd kPair) (.slice A1 us.length c2) us] := H
  refine c_env [(0, .slice A1 us.length c2), (2, .slice none 0 0), (3, .bool false)] ⟨rfl, rfl, rfl, trivial⟩ ?_
  refine c_seq ?_
  refine c_reg ?_
  refine s_val rfl rfl (r_as rfl rfl) ?_
  refine s_nil ?_
  refine q_then ?_
  refine c_env [(0, .slice A1 us.length c2), (2, .slice none 0 0), (3, .bool false), (4, .slice none 0 0)] ⟨rfl, rfl, rfl, rfl, trivial⟩ ?_
  refine c_seq ?_
  refine c_seq ?_
  refine c_reg ?_
  refine s_val rfl rfl (r_as rfl rfl) ?_
  refine s_nil ?_
  refine q_then ?_
  refine c_env [(0, .slice A1 us.length c2), (2, .slice none 0 0), (3, .bool false), (4, .slice none 0 0), (5, .int .i64 0)] ⟨rfl, rfl, rfl, rfl, rfl, trivial⟩ ?_
  refine c_block ?_
  replace H := H.newnil (kHd kPair)
  refine c_loop (σ := Nat × Value × List (Value × List Pair)) (fun (i, q, zs) => [(0, .slice A1 us.length c2), (4, q), (5, .int .i64 ((i : Nat) : Int))]) (fun (i, q, zs) w => (Hd w0 F0 w [osl (kHd kPair) q zs] [rsl (kHd kPair) (.slice A1 us.length c2) us]) ∧ (i ≤ us.length ∧ zs.length = i ∧ i ≤ 8) ∧ (∀ p ∈ zs, p.2.length ≤ 20)) (fun (i, q, zs) => us.length - i) (0, .slice none 0 0, []) ⟨rfl, rfl, rfl, trivial⟩ ⟨H, ⟨Nat.zero_le _, rfl, Nat.zero_le _⟩, by (try dsimp only); simp⟩ ?_
  rintro ⟨i, q, zs⟩ w ⟨H, hi, hn⟩
  refine c_seq ?_
  refine c_seq ?_
  refine c_reg ?_
  refine s_val rfl rfl (r_mv rfl rfl) ?_
  refine s_val rfl rfl (r_mv rfl rfl) ?_
  refine s_val rfl rfl (r_lenL rfl un51 rfl) ?_
  refine s_val rfl rfl (r_lt rfl rfl rfl) ?_
  refine s_nil ?_
  refine q_then ?_
  refine c_env [(0, .slice A1 us.length c2), (4, q), (5, .int .i64 ((i : Nat) : Int)), (9, .bool (decide (((i : Nat) : Int) < ((us.length : Nat) : Int))))] ⟨rfl, rfl, rfl, rfl, trivial⟩ ?_
  refine c_dec (p := ((i : Nat) : Int) < ((us.length : Nat) : Int)) rfl (fun h6 => ?_) (fun h6 => ?_)
  · skip
    refine c_skip ?_
    refine q_then ?_
    refine c_env [(0, .slice A1 us.length c2), (4, q), (5, .int .i64 ((i : Nat) : Int))] ⟨rfl, rfl, rfl, trivial⟩ ?_
    refine c_seq ?_
    refine c_block ?_
    refine c_seq ?_
    refine c_seq ?_
    refine c_reg ?_
    refine s_val rfl rfl (r_mv rfl rfl) ?_
    refine s_val rfl rfl (r_lenL rfl un51 rfl) ?_
    refine s_val rfl rfl (r_gt rfl rfl rfl) ?_
    refine s_val rfl rfl (r_mv rfl rfl) ?_
    refine s_dec (d := 15) (p := (8 : Int) < ((us.length : Nat) : Int)) rfl (fun h7 => ?_) (fun h7 => ?_)
    · skip
      refine s_no rfl rfl ?_
      refine s_no rfl rfl ?_
      refine s_no rfl rfl ?_
      refine s_no rfl rfl ?_
      refine s_no rfl rfl ?_
      refine s_val rfl rfl (r_pickT rfl rfl rfl) ?_
      refine s_nil ?_
      refine q_then ?_
      refine c_env [(0, .slice A1 us.length c2), (4, q), (5, .int .i64 ((i : Nat) : Int)), (21, .bool true)] ⟨rfl, rfl, rfl, rfl, trivial⟩ ?_
      refine c_yes rfl ?_
      refine c_seq ?_
      refine c_reg ?_
      refine s_val rfl rfl (r_as rfl rfl) ?_
      refine s_val rfl rfl (r_as rfl rfl) ?_
      refine s_nil ?_
      refine q_then ?_
      refine c_env [(0, .slice A1 us.length c2), (2, .slice none 0 0), (3, .bool false), (4, q), (5, .int .i64 ((i : Nat) : Int))] ⟨rfl, rfl, rfl, rfl, rfl, trivial⟩ ?_
      refine c_ret ?_
      refine q_thenR ?_
      refine q_blockR ?_
      refine q_thenR ?_
      refine q_thenR ?_
      refine q_blockR ?_
      refine q_thenR ?_
      refine q_ret2 rfl rfl rfl ?_
      replace H := H.newnil (kHd kPair)
      replace H := H.keep 1
      exact fin ⟨false, _, _, rfl, rfl, fun h => by cases h⟩ H
    · skip
      refine s_val rfl rfl (r_mv rfl rfl) ?_
      refine s_val rfl rfl (r_mv rfl rfl) ?_
      obtain ⟨⟨u10, x8⟩, hx9⟩ : ∃ z9, us[i]? = some z9 := ⟨_, List.getElem?_eq_getElem (show i < us.length by omega)⟩
      obtain ⟨A11, c12, rfl, hc13, hm14⟩ := H.nestR 0 rfl hx9
      have th15 := H.thRd 0 rfl hx9
      refine s_val rfl rfl (r_iaE (p := oOf A1 + i * 1) rfl sl51 rfl rfl (by omega) (by omega) th15 rfl) ?_
      refine s_val rfl rfl (r_ld rfl ty54 rfl (H.elRd 0 rfl hx9 rfl)) ?_
      refine sc (greatPairs_ok (.slice A11 x8.length c12) x8 20) H (lX (fun F hA hR => nest_rsl (hR _ (List.mem_of_getElem? (i := 0) rfl)) hx9) l0) rfl rfl (e_fn kn56 rfl rfl) ?_
      rintro _ _ w ⟨rfl, rfl⟩ H
      refine s_val rfl rfl (r_pickF rfl rfl rfl) ?_
      refine s_nil ?_
      refine q_then ?_
      refine c_env [(0, .slice A1 us.length c2), (4, q), (5, .int .i64 ((i : Nat) : Int)), (21, .bool (greatP x8 20))] ⟨rfl, rfl, rfl, rfl, trivial⟩ ?_
      refine c_cond (b := greatP x8 20) rfl (fun h16 => ?_) (fun h16 => ?_)
      · skip
        refine c_seq ?_
        refine c_reg ?_
        refine s_val rfl rfl (r_as rfl rfl) ?_
        refine s_val rfl rfl (r_as rfl rfl) ?_
        refine s_nil ?_
        refine q_then ?_
        refine c_env [(0, .slice A1 us.length c2), (2, .slice none 0 0), (3, .bool false), (4, q), (5, .int .i64 ((i : Nat) : Int))] ⟨rfl, rfl, rfl, rfl, rfl, trivial⟩ ?_
        refine c_ret ?_
        refine q_thenR ?_
        refine q_blockR ?_
        refine q_thenR ?_
        refine q_thenR ?_
        refine q_blockR ?_
        refine q_thenR ?_
        refine q_ret2 rfl rfl rfl ?_
        replace H := H.newnil (kHd kPair)
        replace H := H.keep 1
        exact fin ⟨false, _, _, rfl, rfl, fun h => by cases h⟩ H
      · skip
        refine c_skip ?_
        refine q_then ?_
        refine c_env [(0, .slice A1 us.length c2), (4, q), (5, .int .i64 ((i : Nat) : Int))] ⟨rfl, rfl, rfl, trivial⟩ ?_
        have hg := (greatP_no h16).1
        refine c_reg ?_
        refine s_val rfl rfl (r_mv rfl rfl) ?_
        refine s_val rfl rfl (r_mv rfl rfl) ?_
        refine s_val rfl rfl (r_mv rfl rfl) ?_
        have th17 := H.thRd 0 rfl hx9
        refine s_val rfl rfl (r_iaE (p := oOf A1 + i * 1) rfl sl51 rfl rfl (by omega) (by omega) th17 rfl) ?_
        refine s_val rfl rfl (r_ld rfl ty54 rfl (H.elRd 0 rfl hx9 rfl)) ?_
        refine sc (pairSort_ok (.slice A11 x8.length c12) x8 (by first | omega | decide | (simp only [List.length_append, List.length_cons, List.length_nil, srt_len]; omega))) H (lX (fun F hA hR => nest_rsl (hR _ (List.mem_of_getElem? (i := 0) rfl)) hx9) l0) rfl rfl (e_fn kn54 rfl rfl) ?_
        rintro v18 _ w rfl H
        obtain ⟨A20, c21, rfl, hc22, hm23, hp24⟩ := H.fA 0 rfl
        refine s_bsl (parts := [(0, .tmp 27)]) (vs := [.slice A20 ((srt x8).length) c21]) (cs := [.slice A20 ((srt x8).length) c21]) rfl rfl rfl sl51 zr54 rfl (by decide) (by decide) rfl rfl H (fun b19 w H => ?_)
        replace H := H.pick 2 rfl
        replace H := H.pick 2 rfl
        replace H := H.pick 2 rfl
        replace H := H.pick 2 rfl
        replace H : Hd _ _ _ [osl (kHd kPair) q zs, blk b19 [.slice A20 ((srt x8).length) c21] 54, osl kPair (.slice A20 ((srt x8).length) c21) (srt x8)] [rsl (kHd kPair) (.slice A1 us.length c2) us] := H
        refine s_appH rfl rfl rfl sl51 zr54 rfl (by decide) rfl rfl H (by omega) (fun v25 w H => ?_)
        refine s_val rfl rfl (r_as rfl rfl) ?_
        refine s_nil ?_
        refine q_blockN ?_
        refine q_then ?_
        replace H : Hd _ _ _ [osl (kHd kPair) v25 (zs ++ [(.slice A20 ((srt x8).length) c21, srt x8)])] [rsl (kHd kPair) (.slice A1 us.length c2) us] := H
        refine c_env [(0, .slice A1 us.length c2), (4, v25), (5, .int .i64 ((i : Nat) : Int))] ⟨rfl, rfl, rfl, trivial⟩ ?_
        refine c_reg ?_
        refine s_val rfl rfl (r_mv rfl rfl) ?_
        refine s_val rfl rfl (r_add (z := ((i + 1 : Nat) : Int)) rfl rfl rfl (by rw [w64 (by omega) (by omega)]; omega)) ?_
        refine s_val rfl rfl (r_as rfl rfl) ?_
        refine s_nil ?_
        have hn2 : ∀ p ∈ zs ++ [(.slice A20 ((srt x8).length) c21, srt x8)], p.2.length ≤ 20 := fun p hp => by
          rcases List.mem_append.1 hp with h | h
          · exact hn p h
          · rw [List.mem_singleton.1 h, srt_len]; have := (greatP_no h16).1; omega
        exact q_round (s := (i, undef, zs)) (i + 1, v25, zs ++ [(.slice A20 ((srt x8).length) c21, srt x8)]) ⟨rfl, rfl, rfl, trivial⟩ ⟨H, by (try dsimp only); simp only [List.length_append, List.length_cons, List.length_nil]; omega, hn2⟩ (by (try dsimp only); omega)
  · skip
    refine c_exit ?_
    refine q_thenE ?_
    refine q_thenE ?_
    refine q_blockE ?_
    refine q_then ?_
    refine c_env [(4, q)] ⟨rfl, trivial⟩ ?_
    refine c_seq ?_
    refine c_reg ?_
    refine s_val rfl rfl (r_mv rfl rfl) ?_
    refine s_val rfl rfl (r_as rfl rfl) ?_
    refine s_val rfl rfl (r_as rfl rfl) ?_
    refine s_nil ?_
    refine q_then ?_
    refine c_env [(2, q), (3, .bool true)] ⟨rfl, rfl, trivial⟩ ?_
    refine c_ret ?_
    refine q_ret2 rfl rfl rfl ?_
    exact fin ⟨true, _, _, rfl, rfl, fun _ => ⟨by omega, hn⟩⟩ H

set_option maxHeartbeats 1000000 in
theorem awake11_ok  :
    Cn Try.prog 46 [] [] [] (fun v Bs => v = .bool true ∧ Bs = []) := by
  intro w0 F0 H
  refine enter (args := []) Try.func46 rfl rfl (Nat.le_of_ble_eq_true rfl) ?_
  refine c_seq ?_
  refine c_reg ?_
  refine s_val rfl rfl (r_as rfl rfl) ?_
  refine s_nil ?_
  refine q_then ?_
  refine c_env [(0, .bool false)] ⟨rfl, trivial⟩ ?_
  refine c_seq ?_
  refine c_reg ?_
  refine s_val rfl rfl (r_bd (parts := [(0, .const (.string ⟨#[97]⟩)), (1, .const (.string ⟨#[49]⟩))]) (vs := [.string ⟨#[97]⟩, .string ⟨#[49]⟩]) (cs := [.string ⟨#[97]⟩, .string ⟨#[49]⟩]) rfl bd91 rfl rfl) ?_
  refine s_val rfl rfl (r_bd (parts := [(0, .const (.string ⟨#[99]⟩)), (1, .const (.string ⟨#[50]⟩))]) (vs := [.string ⟨#[99]⟩, .string ⟨#[50]⟩]) (cs := [.string ⟨#[99]⟩, .string ⟨#[50]⟩]) rfl bd91 rfl rfl) ?_
  refine s_bsl (parts := [(0, .tmp 3), (1, .tmp 4)]) (vs := [.agg #[.string ⟨#[97]⟩, .string ⟨#[49]⟩], .agg #[.string ⟨#[99]⟩, .string ⟨#[50]⟩]]) (cs := [.string ⟨#[97]⟩, .string ⟨#[49]⟩, .string ⟨#[99]⟩, .string ⟨#[50]⟩]) rfl rfl rfl sl54 zr91 rfl (by decide) (by decide) rfl rfl H (fun b1 w H => ?_)
  refine s_val rfl rfl (r_bd (parts := [(0, .const (.string ⟨#[97]⟩)), (1, .const (.string ⟨#[48]⟩))]) (vs := [.string ⟨#[97]⟩, .string ⟨#[48]⟩]) (cs := [.string ⟨#[97]⟩, .string ⟨#[48]⟩]) rfl bd91 rfl rfl) ?_
  refine s_val rfl rfl (r_bd (parts := [(0, .const (.string ⟨#[98]⟩)), (1, .const (.string ⟨#[51]⟩))]) (vs := [.string ⟨#[98]⟩, .string ⟨#[51]⟩]) (cs := [.string ⟨#[98]⟩, .string ⟨#[51]⟩]) rfl bd91 rfl rfl) ?_
  refine s_bsl (parts := [(0, .tmp 6), (1, .tmp 7)]) (vs := [.agg #[.string ⟨#[97]⟩, .string ⟨#[48]⟩], .agg #[.string ⟨#[98]⟩, .string ⟨#[51]⟩]]) (cs := [.string ⟨#[97]⟩, .string ⟨#[48]⟩, .string ⟨#[98]⟩, .string ⟨#[51]⟩]) rfl rfl rfl sl54 zr91 rfl (by decide) (by decide) rfl rfl H (fun b2 w H => ?_)
  refine s_val rfl rfl (r_as rfl rfl) ?_
  refine s_val rfl rfl (r_as rfl rfl) ?_
  refine s_nil ?_
  refine q_then ?_
  replace H : Hd _ _ _ [blk b2 [.string ⟨#[97]⟩, .string ⟨#[48]⟩, .string ⟨#[98]⟩, .string ⟨#[51]⟩] 91, blk b1 [.string ⟨#[97]⟩, .string ⟨#[49]⟩, .string ⟨#[99]⟩, .string ⟨#[50]⟩] 91] [] := H
  refine c_env [(0, .bool false), (1, .slice (some ⟨b1, 0, none⟩) 2 2), (2, .slice (some ⟨b2, 0, none⟩) 2 2)] ⟨rfl, rfl, rfl, trivial⟩ ?_
  refine c_seq ?_
  refine c_reg ?_
  refine s_val rfl rfl (r_mv rfl rfl) ?_
  refine s_val rfl rfl (r_mv rfl rfl) ?_
  refine sc (two_ok (.slice (some ⟨b1, 0, none⟩) 2 2) [(⟨⟨#[97]⟩, ⟨#[49]⟩⟩ : Pair), (⟨⟨#[99]⟩, ⟨#[50]⟩⟩ : Pair)] (.slice (some ⟨b2, 0, none⟩) 2 2) [(⟨⟨#[97]⟩, ⟨#[48]⟩⟩ : Pair), (⟨⟨#[98]⟩, ⟨#[51]⟩⟩ : Pair)] (by first | omega | decide | (simp only [List.length_append, List.length_cons, List.length_nil, srt_len]; omega))) H (lA 1 rfl (fun F h => blk_rsl h rfl (by decide) (RepsR.flat_eq.2 rfl)) (lA 0 rfl (fun F h => blk_rsl h rfl (by decide) (RepsR.flat_eq.2 rfl)) l0)) rfl rfl (e_fn kn52 rfl rfl) ?_
  rintro v3 _ w rfl H
  refine s_val rfl rfl (r_bd (parts := [(0, .const (.string ⟨#[97]⟩)), (1, .const (.string ⟨#[49]⟩))]) (vs := [.string ⟨#[97]⟩, .string ⟨#[49]⟩]) (cs := [.string ⟨#[97]⟩, .string ⟨#[49]⟩]) rfl bd91 rfl rfl) ?_
  refine s_val rfl rfl (r_bd (parts := [(0, .const (.string ⟨#[97]⟩)), (1, .const (.string ⟨#[48]⟩))]) (vs := [.string ⟨#[97]⟩, .string ⟨#[48]⟩]) (cs := [.string ⟨#[97]⟩, .string ⟨#[48]⟩]) rfl bd91 rfl rfl) ?_
  refine s_val rfl rfl (r_bd (parts := [(0, .const (.string ⟨#[98]⟩)), (1, .const (.string ⟨#[51]⟩))]) (vs := [.string ⟨#[98]⟩, .string ⟨#[51]⟩]) (cs := [.string ⟨#[98]⟩, .string ⟨#[51]⟩]) rfl bd91 rfl rfl) ?_
  refine s_val rfl rfl (r_bd (parts := [(0, .const (.string ⟨#[99]⟩)), (1, .const (.string ⟨#[50]⟩))]) (vs := [.string ⟨#[99]⟩, .string ⟨#[50]⟩]) (cs := [.string ⟨#[99]⟩, .string ⟨#[50]⟩]) rfl bd91 rfl rfl) ?_
  refine s_bsl (parts := [(0, .tmp 12), (1, .tmp 13), (2, .tmp 14), (3, .tmp 15)]) (vs := [.agg #[.string ⟨#[97]⟩, .string ⟨#[49]⟩], .agg #[.string ⟨#[97]⟩, .string ⟨#[48]⟩], .agg #[.string ⟨#[98]⟩, .string ⟨#[51]⟩], .agg #[.string ⟨#[99]⟩, .string ⟨#[50]⟩]]) (cs := [.string ⟨#[97]⟩, .string ⟨#[49]⟩, .string ⟨#[97]⟩, .string ⟨#[48]⟩, .string ⟨#[98]⟩, .string ⟨#[51]⟩, .string ⟨#[99]⟩, .string ⟨#[50]⟩]) rfl rfl rfl sl54 zr91 rfl (by decide) (by decide) rfl rfl H (fun b4 w H => ?_)
  refine sc (samePairs_ok v3 (.slice (some ⟨b4, 0, none⟩) 4 4) (srt ([(⟨⟨#[97]⟩, ⟨#[49]⟩⟩ : Pair), (⟨⟨#[99]⟩, ⟨#[50]⟩⟩ : Pair)] ++ [(⟨⟨#[97]⟩, ⟨#[48]⟩⟩ : Pair), (⟨⟨#[98]⟩, ⟨#[51]⟩⟩ : Pair)])) [(⟨⟨#[97]⟩, ⟨#[49]⟩⟩ : Pair), (⟨⟨#[97]⟩, ⟨#[48]⟩⟩ : Pair), (⟨⟨#[98]⟩, ⟨#[51]⟩⟩ : Pair), (⟨⟨#[99]⟩, ⟨#[50]⟩⟩ : Pair)]) H (lA 1 rfl own_rd (lA 0 rfl (fun F h => blk_rsl h rfl (by decide) (RepsR.flat_eq.2 rfl)) l0)) rfl rfl (e_fn kn48 rfl rfl) ?_
  rintro _ _ w ⟨rfl, rfl⟩ H
  refine s_val rfl rfl (r_mv rfl rfl) ?_
  refine s_dec (d := 18) (p := (srt ([(⟨⟨#[97]⟩, ⟨#[49]⟩⟩ : Pair), (⟨⟨#[99]⟩, ⟨#[50]⟩⟩ : Pair)] ++ [(⟨⟨#[97]⟩, ⟨#[48]⟩⟩ : Pair), (⟨⟨#[98]⟩, ⟨#[51]⟩⟩ : Pair)])) = [(⟨⟨#[97]⟩, ⟨#[49]⟩⟩ : Pair), (⟨⟨#[97]⟩, ⟨#[48]⟩⟩ : Pair), (⟨⟨#[98]⟩, ⟨#[51]⟩⟩ : Pair), (⟨⟨#[99]⟩, ⟨#[50]⟩⟩ : Pair)]) rfl (fun h5 => ?_) (fun h5 => ?_)
  · skip
    replace H : Hd _ _ _ [blk b4 [.string ⟨#[97]⟩, .string ⟨#[49]⟩, .string ⟨#[97]⟩, .string ⟨#[48]⟩, .string ⟨#[98]⟩, .string ⟨#[51]⟩, .string ⟨#[99]⟩, .string ⟨#[50]⟩] 91, osl kPair v3 (srt ([(⟨⟨#[97]⟩, ⟨#[49]⟩⟩ : Pair), (⟨⟨#[99]⟩, ⟨#[50]⟩⟩ : Pair)] ++ [(⟨⟨#[97]⟩, ⟨#[48]⟩⟩ : Pair), (⟨⟨#[98]⟩, ⟨#[51]⟩⟩ : Pair)])), blk b2 [.string ⟨#[97]⟩, .string ⟨#[48]⟩, .string ⟨#[98]⟩, .string ⟨#[51]⟩] 91, blk b1 [.string ⟨#[97]⟩, .string ⟨#[49]⟩, .string ⟨#[99]⟩, .string ⟨#[50]⟩] 91] [] := H
    refine sc (runs_ok (.slice none 0 0) [] (by first | omega | decide | exact Nat.le_trans (flat2_le _ _) (by omega) | exact Nat.le_trans (flat2_le' _ _) (by omega) | (simp only [flat2, List.flatMap_cons, List.flatMap_nil, List.append_nil, srt_len]; omega))) H (lX (fun F _ _ => rsl_nil _ _ F trivial (by decide)) l0) rfl rfl (e_fn kn47 rfl rfl) ?_
    rintro v6 _ w rfl H
    obtain ⟨A7, c8, rfl, hc9, hm10, hp11⟩ := H.fA 0 rfl
    refine s_val rfl rfl (r_lenL rfl un54 rfl) ?_
    refine s_val rfl rfl (r_eq rfl rfl rfl) ?_
    refine s_val rfl rfl (r_pickT rfl rfl rfl) ?_
    refine s_val rfl rfl (r_as rfl rfl) ?_
    refine s_nil ?_
    refine q_then ?_
    replace H : Hd _ _ _ [osl kPair (.slice A7 ((srt (flat2 [])).length) c8) (srt (flat2 [])), blk b4 [.string ⟨#[97]⟩, .string ⟨#[49]⟩, .string ⟨#[97]⟩, .string ⟨#[48]⟩, .string ⟨#[98]⟩, .string ⟨#[51]⟩, .string ⟨#[99]⟩, .string ⟨#[50]⟩] 91, osl kPair v3 (srt ([(⟨⟨#[97]⟩, ⟨#[49]⟩⟩ : Pair), (⟨⟨#[99]⟩, ⟨#[50]⟩⟩ : Pair)] ++ [(⟨⟨#[97]⟩, ⟨#[48]⟩⟩ : Pair), (⟨⟨#[98]⟩, ⟨#[51]⟩⟩ : Pair)])), blk b2 [.string ⟨#[97]⟩, .string ⟨#[48]⟩, .string ⟨#[98]⟩, .string ⟨#[51]⟩] 91, blk b1 [.string ⟨#[97]⟩, .string ⟨#[49]⟩, .string ⟨#[99]⟩, .string ⟨#[50]⟩] 91] [] := H
    refine c_env [(0, .bool (decide ((((srt (flat2 [])).length : Nat) : Int) = 0)))] ⟨rfl, trivial⟩ ?_
    refine c_ret ?_
    refine q_ret1 rfl rfl ?_
    replace H := H.keep 0
    exact fin ⟨rfl, rfl⟩ H
  · exact (h5 (by decide)).elim

end Go.Proofs.Ytnaaahpmnhoabaa.X
