/- MapperPushes: texts J3, M2, M3, W1, M4, XMprA, A1, M5, XStg, N1, N2, M6, XRecO, XOrd, XTwo, M7, J4, N3, N4, N5, A2, XMprP, XAct3, joined by a program of ours; what nothing names is left out. -/
import Derived.Test.YthgehekecfpikaaGreatDoorMapperPushesQ4
import Derived.KernelRfl
set_option linter.unusedVariables false
set_option linter.unusedSimpArgs false
namespace Go.Proofs.YthgehekecfpikaaGreatDoor.X
open Go
set_option maxHeartbeats 4000000 in
theorem mapped_ok (vS vM vC vR vK : Value) (J : Job) (hJ : OkJ J) (s : Nat) (hs : s < J.us.length) :
    Cn Tryz.prog 124 [.agg #[vS, .int .i64 J.parts, vM, vC, vR, .int .i64 J.chunk, .int .i64 J.window, .int .i64 J.fuel, vK], .int .i64 ((s : Nat) : Int)] [] [rsl (kHd kPair) vS J.us, rsl kIns vM J.map, rsl kIns vC J.comb, rsl kIns vR J.red, rsl (kInt .i64) vK J.marks, gl] (fun v Bs => ∃ u, v = .tuple #[u, .int .i64 (mapM dg J s).2] ∧ Bs = [osl kPair u (mapM dg J s).1]) := by
 intro w0 F0 H
 obtain ⟨A1, c2, rfl, hc3, hm4, hp5⟩ := H.fR 0 rfl
 obtain ⟨A6, c7, rfl, hc8, hm9, hp10⟩ := H.fR 1 rfl
 obtain ⟨A11, c12, rfl, hc13, hm14, hp15⟩ := H.fR 2 rfl
 obtain ⟨A16, c17, rfl, hc18, hm19, hp20⟩ := H.fR 3 rfl
 obtain ⟨A21, c22, rfl, hc23, hm24, hp25⟩ := H.fR 4 rfl
 have hus := hJ.us
 have hpt := hJ.parts
 have hfu := hJ.fuel
 refine enter Tryz.func124 rfl rfl (Nat.le_of_ble_eq_true rfl) (c_seq (c_reg (s_box rfl rfl rfl rfl H (fun b26 w H => (s_k 2 rfl (s_nil (q_then ?_)))))))
 replace H : Hd _ _ _ [blk b26 [.slice A1 J.us.length c2, .int .i64 J.parts, .slice A6 J.map.length c7, .slice A11 J.comb.length c12, .slice A16 J.red.length c17, .int .i64 J.chunk, .int .i64 J.window, .int .i64 J.fuel, .slice A21 J.marks.length c22] 26] [rsl (kHd kPair) (.slice A1 J.us.length c2) J.us, rsl kIns (.slice A6 J.map.length c7) J.map, rsl kIns (.slice A11 J.comb.length c12) J.comb, rsl kIns (.slice A16 J.red.length c17) J.red, rsl (kInt .i64) (.slice A21 J.marks.length c22) J.marks, gl] := H
 refine c_seq (c_reg (s_1 rfl (s_nil (q_then (c_seq (c_seq (c_reg (s_val rfl rfl (r_fa rfl fo26_0 rfl) (s_val rfl rfl (r_ld rfl ty22 rfl (H.cellI 0 rfl rfl)) (s_1 rfl ?_))))))))))
 obtain ⟨⟨u29, x27⟩, hx28⟩ : ∃ z9, J.us[s]? = some z9 := ⟨_, List.getElem?_eq_getElem (show s < J.us.length by omega)⟩
 obtain ⟨A30, c31, rfl, hc32, hm33⟩ := H.nestR 0 rfl hx28
 have th34 := H.thRd 0 rfl hx28
 refine s_val rfl rfl (r_iaE (p := oOf A1 + s * 1) rfl sl22 rfl rfl (by omega) (by omega) th34 rfl) (s_val rfl rfl (r_ld rfl ty35 rfl (H.elRd 0 rfl hx28 rfl)) (s_val rfl rfl (r_lenL rfl un35 rfl) (s_1 rfl (s_nil (q_then (c_block ?_))))))
 have hrec := recs_at hx28
 have hrl : x27.length ≤ 8 := (hJ.split _ (at_mem hx28)).1
 replace H := H.addR (R := rsl kPair (.slice A30 x27.length c31) x27) fun _ h => nest_rsl (h _ (List.mem_of_getElem? (i := 0) rfl)) hx28
 replace H := H.newnil kPair
 refine c_loop (σ := Nat × Value × List Pair) (fun (i, q, out) => [(2, .pointer (some ⟨b26, 0, none⟩)), (6, q), (15, .slice A30 x27.length c31), (16, .int .i64 ((x27.length : Nat) : Int)), (17, .int .i64 ((i : Nat) : Int))]) (fun (i, q, out) w => (Hd w0 F0 w [osl kPair q out, blk b26 [.slice A1 J.us.length c2, .int .i64 J.parts, .slice A6 J.map.length c7, .slice A11 J.comb.length c12, .slice A16 J.red.length c17, .int .i64 J.chunk, .int .i64 J.window, .int .i64 J.fuel, .slice A21 J.marks.length c22] 26] [rsl kPair (.slice A30 x27.length c31) x27, rsl (kHd kPair) (.slice A1 J.us.length c2) J.us, rsl kIns (.slice A6 J.map.length c7) J.map, rsl kIns (.slice A11 J.comb.length c12) J.comb, rsl kIns (.slice A16 J.red.length c17) J.red, rsl (kInt .i64) (.slice A21 J.marks.length c22) J.marks, gl]) ∧ (i ≤ x27.length) ∧ (mapGo dg J.map J.fuel (x27.drop i) out = mapGo dg J.map J.fuel x27 []) ∧ (out.length ≤ 40)) (fun (i, q, out) => x27.length - i) (0, .slice none 0 0, []) ⟨rfl, rfl, rfl, rfl, rfl, trivial⟩ ⟨H, Nat.zero_le _, rfl, Nat.zero_le _⟩ ?_
 rintro ⟨i, q, out⟩ w ⟨H, hi, hgo, ho⟩
 refine c_seq (c_reg (s_val rfl rfl (r_lt rfl rfl rfl) (s_nil (q_then (c_seq ?_)))))
 refine c_dec rfl (fun h35 => ?_) (fun h35 => ?_)
 ·refine c_skip (q_then (c_seq (c_block (c_seq (c_reg ?_)))))
  obtain ⟨x36, hx37⟩ : ∃ z9, x27[i]? = some z9 := ⟨_, List.getElem?_eq_getElem (show i < x27.length by omega)⟩
  have th38 := H.thR 0 rfl hx37
  refine s_val rfl rfl (r_iaE (p := oOf A30 + i * 2) rfl sl35 rfl rfl (by omega) (by omega) th38 rfl) (s_val rfl rfl (r_ldA (cs := [.string x36.key, .string x36.val]) rfl ty106 rfl rfl (H.elsR 0 rfl hx37 rfl)) (s_alloc rfl rfl rfl zr106 H (fun b39 w H => (s_st rfl rfl rfl ty106 rfl rfl H rfl (Nat.le_of_ble_eq_true rfl) (fun u hu => by simp [Value.cells] at hu; rcases hu with rfl | rfl <;> rfl) (fun w H => ?_)))))
  replace H : Hd _ _ _ [blk b39 [.string x36.key, .string x36.val] 106, osl kPair q out, blk b26 [.slice A1 J.us.length c2, .int .i64 J.parts, .slice A6 J.map.length c7, .slice A11 J.comb.length c12, .slice A16 J.red.length c17, .int .i64 J.chunk, .int .i64 J.window, .int .i64 J.fuel, .slice A21 J.marks.length c22] 26] [rsl kPair (.slice A30 x27.length c31) x27, rsl (kHd kPair) (.slice A1 J.us.length c2) J.us, rsl kIns (.slice A6 J.map.length c7) J.map, rsl kIns (.slice A11 J.comb.length c12) J.comb, rsl kIns (.slice A16 J.red.length c17) J.red, rsl (kInt .i64) (.slice A21 J.marks.length c22) J.marks, gl] := H
  refine s_nil (q_then (c_seq (c_reg (s_val rfl rfl (r_fa rfl fo26_2 rfl) (s_val rfl rfl (r_ld rfl ty23 rfl (H.cellI 2 rfl rfl)) (s_val rfl rfl (r_fa rfl fo106_0 rfl) (s_val rfl rfl (r_ld rfl ty9 rfl (H.cellI 0 rfl rfl)) (s_val rfl rfl (r_fa rfl fo106_1 rfl) (s_val rfl rfl (r_ld rfl ty9 rfl (H.cellI 0 rfl rfl)) (s_bsl (parts := [(0, .tmp 27)]) (vs := [.string x36.val]) (cs := [.string x36.val]) rfl rfl rfl sl241 zr9 rfl (by decide) (by decide) rfl rfl H (fun b40 w H => (s_val rfl rfl (r_fa rfl fo26_7 rfl) (s_val rfl rfl (r_ld rfl ty3 rfl (H.cellI 3 rfl rfl)) (sc (vmRun_ok (.slice A6 J.map.length c7) J.map x36.key (.slice (some ⟨b40, 0, none⟩) 1 1) [x36.val] J.fuel hJ.map hJ.f64) H (lR 2 rfl (lA 0 rfl (fun F h => blk_rsl h rfl (by decide) (RepsR.flat_eq.2 rfl)) (lR 6 rfl l0))) rfl rfl (e_fn kn175 rfl rfl) ?_))))))))))))))
  rintro _ _ w ⟨u41, rfl, rfl⟩ H
  replace H := H.h2 (A := osl kPair u41 ((runM dg J.map x36.key [x36.val] J.fuel).1)) (B := blk b40 [.string x36.val] 9)
  have hrt := run_told dg J.map x36.key [x36.val] J.fuel
  refine s_k 5 rfl (s_nil (q_then (c_seq (c_seq (c_reg (s_1 rfl (s_val rfl rfl (r_ne rfl rfl rfl) (s_nil (q_then ?_)))))))))
  refine c_dec rfl (fun h42 => ?_) (fun h42 => ?_)
  ·refine c_seq (c_reg (s_k 3 rfl (s_nil (q_then (c_ret (q_thenR (q_blockR (q_thenR (q_thenR (q_blockR (q_thenR (q_ret2 rfl rfl rfl ?_))))))))))))
   have e : mapM dg J s = ([], (runM dg J.map x36.key [x36.val] J.fuel).2) := by unfold mapM; rw [hrec]; exact hgo.symm.trans (map_why hx37 h42)
   replace H := H.nil |>.newnil kPair |>.dropR
   replace H : Hd _ _ _ [osl kPair (.slice none 0 0) []] [rsl (kHd kPair) (.slice A1 J.us.length c2) J.us, rsl kIns (.slice A6 J.map.length c7) J.map, rsl kIns (.slice A11 J.comb.length c12) J.comb, rsl kIns (.slice A16 J.red.length c17) J.red, rsl (kInt .i64) (.slice A21 J.marks.length c22) J.marks, gl] := H
   exact fin ⟨_, by rw [e] <;> rfl, by rw [e] <;> rfl⟩ H
  ·refine c_skip (q_then (c_seq (c_reg (s_k 2 rfl ?_))))
   replace H := H.p3
   obtain ⟨A43, c44, rfl, hc45, hm46, hp47⟩ := H.fA 1 rfl
   refine s_appF (xs := out) (ys := (runM dg J.map x36.key [x36.val] J.fuel).1) rfl rfl rfl sl35 zr106 rfl (by decide) rfl rfl H (by first | omega | (rw [List.length_append]; omega)) (fun F hA hR => own_rd F (hA _ (List.mem_of_getElem? (i := 0) rfl))) (fun v48 w H => (s_1 rfl (s_nil (q_then ?_))))
   replace H : Hd _ _ _ [osl kPair v48 (out ++ ((runM dg J.map x36.key [x36.val] J.fuel).1)), osl kPair (.slice A43 (((runM dg J.map x36.key [x36.val] J.fuel).1).length) c44) ((runM dg J.map x36.key [x36.val] J.fuel).1), blk b40 [.string x36.val] 9, blk b39 [.string x36.key, .string x36.val] 106, blk b26 [.slice A1 J.us.length c2, .int .i64 J.parts, .slice A6 J.map.length c7, .slice A11 J.comb.length c12, .slice A16 J.red.length c17, .int .i64 J.chunk, .int .i64 J.window, .int .i64 J.fuel, .slice A21 J.marks.length c22] 26] [rsl kPair (.slice A30 x27.length c31) x27, rsl (kHd kPair) (.slice A1 J.us.length c2) J.us, rsl kIns (.slice A6 J.map.length c7) J.map, rsl kIns (.slice A11 J.comb.length c12) J.comb, rsl kIns (.slice A16 J.red.length c17) J.red, rsl (kInt .i64) (.slice A21 J.marks.length c22) J.marks, gl] := H
   refine c_seq (c_reg (s_1 rfl ?_))
   obtain ⟨A49, c50, rfl, hc51, hm52, hp53⟩ := H.fA 0 rfl
   refine s_val rfl rfl (r_lenL rfl un35 rfl) (s_val rfl rfl (r_gt rfl rfl rfl) (s_nil (q_then ?_)))
   refine c_dec rfl (fun h54 => ?_) (fun h54 => ?_)
   ·refine c_seq (c_reg (s_k 2 rfl (s_nil (q_then (c_ret (q_blockR (q_thenR (q_thenR (q_blockR (q_thenR (q_ret2 rfl rfl rfl ?_)))))))))))
    have hap : (out ++ (runM dg J.map x36.key [x36.val] J.fuel).1).length = out.length + (runM dg J.map x36.key [x36.val] J.fuel).1.length := List.length_append
    have e : mapM dg J s = ([], 5) := by unfold mapM; rw [hrec]; exact hgo.symm.trans (map_many hx37 h42 (by omega))
    replace H := H.nil |>.newnil kPair |>.dropR
    replace H : Hd _ _ _ [osl kPair (.slice none 0 0) []] [rsl (kHd kPair) (.slice A1 J.us.length c2) J.us, rsl kIns (.slice A6 J.map.length c7) J.map, rsl kIns (.slice A11 J.comb.length c12) J.comb, rsl kIns (.slice A16 J.red.length c17) J.red, rsl (kInt .i64) (.slice A21 J.marks.length c22) J.marks, gl] := H
    exact fin ⟨_, by rw [e] <;> rfl, by rw [e] <;> rfl⟩ H
   ·refine c_skip (q_blockN (q_then (c_reg (s_val rfl rfl (r_add (z := ((i + 1 : Nat) : Int)) rfl rfl rfl (by rw [w64 (by omega) (by omega)]; omega)) (s_1 rfl (s_nil ?_))))))
    replace H := H.p4.p1.k2
    have hap : (out ++ (runM dg J.map x36.key [x36.val] J.fuel).1).length = out.length + (runM dg J.map x36.key [x36.val] J.fuel).1.length := List.length_append
    have hl2 : (out ++ (runM dg J.map x36.key [x36.val] J.fuel).1).length ≤ 40 := by omega
    have hg2 := (map_on (out := out) hx37 h42 (by omega)).trans hgo
    exact q_round (s := (i, undef, out)) (i + 1, .slice A49 ((out ++ ((runM dg J.map x36.key [x36.val] J.fuel).1)).length) c50, out ++ (runM dg J.map x36.key [x36.val] J.fuel).1) ⟨rfl, rfl, rfl, rfl, rfl, trivial⟩ ⟨H, by (try dsimp only); omega, hg2, hl2⟩ (by (try dsimp only); omega)
 ·refine c_exit (q_thenE (q_thenE (q_blockE (q_then (c_seq (c_reg (s_k 3 rfl (s_nil (q_then (c_ret (q_ret2 rfl rfl rfl ?_)))))))))))
  replace H := H.k1
  have e : mapM dg J s = (out, 0) := by unfold mapM; rw [hrec]; exact hgo.symm.trans (map_end (by omega))
  replace H := H.dropR
  replace H : Hd _ _ _ [osl kPair q out] [rsl (kHd kPair) (.slice A1 J.us.length c2) J.us, rsl kIns (.slice A6 J.map.length c7) J.map, rsl kIns (.slice A11 J.comb.length c12) J.comb, rsl kIns (.slice A16 J.red.length c17) J.red, rsl (kInt .i64) (.slice A21 J.marks.length c22) J.marks, gl] := H
  exact fin ⟨_, by rw [e] <;> rfl, by rw [e] <;> rfl⟩ H
set_option maxHeartbeats 4000000 in
theorem split_ok (vS vM vC vR vK : Value) (J : Job) (hJ : OkJ J) (s : Nat) (hs : s < J.us.length) :
    Cn Tryz.prog 53 [.agg #[vS, .int .i64 J.parts, vM, vC, vR, .int .i64 J.chunk, .int .i64 J.window, .int .i64 J.fuel, vK], .int .i64 ((s : Nat) : Int)] [] [rsl (kHd kPair) vS J.us, rsl kIns vM J.map, rsl kIns vC J.comb, rsl kIns vR J.red, rsl (kInt .i64) vK J.marks, gl] (fun v Bs => ∃ u, v = .tuple #[u, .int .i64 (splitM dg J s).2] ∧ Bs = [osl kPair u (splitM dg J s).1]) := by
 intro w0 F0 H
 obtain ⟨A1, c2, rfl, hc3, hm4, hp5⟩ := H.fR 0 rfl
 obtain ⟨A6, c7, rfl, hc8, hm9, hp10⟩ := H.fR 1 rfl
 obtain ⟨A11, c12, rfl, hc13, hm14, hp15⟩ := H.fR 2 rfl
 obtain ⟨A16, c17, rfl, hc18, hm19, hp20⟩ := H.fR 3 rfl
 obtain ⟨A21, c22, rfl, hc23, hm24, hp25⟩ := H.fR 4 rfl
 have hus := hJ.us
 have hpt := hJ.parts
 have hfu := hJ.fuel
 refine enter Tryz.func53 rfl rfl (Nat.le_of_ble_eq_true rfl) (c_seq (c_reg (s_box rfl rfl rfl rfl H (fun b26 w H => (s_k 2 rfl (s_nil (q_then ?_)))))))
 replace H : Hd _ _ _ [blk b26 [.slice A1 J.us.length c2, .int .i64 J.parts, .slice A6 J.map.length c7, .slice A11 J.comb.length c12, .slice A16 J.red.length c17, .int .i64 J.chunk, .int .i64 J.window, .int .i64 J.fuel, .slice A21 J.marks.length c22] 26] [rsl (kHd kPair) (.slice A1 J.us.length c2) J.us, rsl kIns (.slice A6 J.map.length c7) J.map, rsl kIns (.slice A11 J.comb.length c12) J.comb, rsl kIns (.slice A16 J.red.length c17) J.red, rsl (kInt .i64) (.slice A21 J.marks.length c22) J.marks, gl] := H
 refine c_seq (c_seq (c_reg (s_val rfl rfl (r_ldA (cs := [.slice A1 J.us.length c2, .int .i64 J.parts, .slice A6 J.map.length c7, .slice A11 J.comb.length c12, .slice A16 J.red.length c17, .int .i64 J.chunk, .int .i64 J.window, .int .i64 J.fuel, .slice A21 J.marks.length c22]) rfl ty26 rfl rfl (H.cellsI 0 rfl rfl)) (sc (jmay_ok (.slice A1 J.us.length c2) (.slice A6 J.map.length c7) (.slice A11 J.comb.length c12) (.slice A16 J.red.length c17) (.slice A21 J.marks.length c22) J) H (lR 0 rfl (lR 1 rfl (lR 2 rfl (lR 3 rfl (lR 4 rfl l0))))) rfl rfl (e_fn kn88 rfl rfl) ?_))))
 rintro _ _ w ⟨rfl, rfl⟩ H
 refine s_val rfl rfl (r_notP rfl rfl) (s_1 rfl ?_)
 refine s_dec (d := 11) rfl (fun h27 => ?_) (fun h27 => ?_)
 ·exact (h27 hJ.may).elim
 ·refine s_1 rfl (s_val rfl rfl (r_lt rfl rfl rfl) (s_k 2 rfl ?_))
  refine s_dec (d := 15) rfl (fun h28 => ?_) (fun h28 => ?_)
  ·exfalso; omega
  ·refine s_1 rfl (s_val rfl rfl (r_fa rfl fo26_0 rfl) (s_val rfl rfl (r_ld rfl ty22 rfl (H.cellI 0 rfl rfl)) (s_val rfl rfl (r_lenL rfl un22 rfl) (s_val rfl rfl (r_ge rfl rfl rfl) (s_1 rfl (s_nil (q_then ?_)))))))
   refine c_dec rfl (fun h29 => ?_) (fun h29 => ?_)
   ·exfalso; omega
   ·refine c_skip (q_then (c_seq (c_reg (s_val rfl rfl (r_ldA (cs := [.slice A1 J.us.length c2, .int .i64 J.parts, .slice A6 J.map.length c7, .slice A11 J.comb.length c12, .slice A16 J.red.length c17, .int .i64 J.chunk, .int .i64 J.window, .int .i64 J.fuel, .slice A21 J.marks.length c22]) rfl ty26 rfl rfl (H.cellsI 0 rfl rfl)) (s_1 rfl (sc (mapped_ok (.slice A1 J.us.length c2) (.slice A6 J.map.length c7) (.slice A11 J.comb.length c12) (.slice A16 J.red.length c17) (.slice A21 J.marks.length c22) J hJ s (by omega)) H (lR 0 rfl (lR 1 rfl (lR 2 rfl (lR 3 rfl (lR 4 rfl (lR 5 rfl l0)))))) rfl rfl (e_fn kn124 rfl rfl) ?_))))))
    rintro _ _ w ⟨u30, rfl, rfl⟩ H
    refine s_k 5 rfl (s_nil (q_then ?_))
    replace H : Hd _ _ _ [osl kPair u30 ((mapM dg J s).1), blk b26 [.slice A1 J.us.length c2, .int .i64 J.parts, .slice A6 J.map.length c7, .slice A11 J.comb.length c12, .slice A16 J.red.length c17, .int .i64 J.chunk, .int .i64 J.window, .int .i64 J.fuel, .slice A21 J.marks.length c22] 26] [rsl (kHd kPair) (.slice A1 J.us.length c2) J.us, rsl kIns (.slice A6 J.map.length c7) J.map, rsl kIns (.slice A11 J.comb.length c12) J.comb, rsl kIns (.slice A16 J.red.length c17) J.red, rsl (kInt .i64) (.slice A21 J.marks.length c22) J.marks, gl] := H
    refine c_seq (c_seq (c_reg (s_1 rfl (s_val rfl rfl (r_ne rfl rfl rfl) (s_nil (q_then ?_))))))
    refine c_dec rfl (fun h31 => ?_) (fun h31 => ?_)
    ·refine c_seq (c_reg (s_k 3 rfl (s_nil (q_then (c_ret (q_thenR (q_ret2 rfl rfl rfl ?_)))))))
     have e : splitM dg J s = ([], (mapM dg J s).2) := if_pos h31
     replace H := H.nil |>.newnil kPair
     exact fin ⟨_, by rw [e] <;> rfl, by rw [e] <;> rfl⟩ H
    ·refine c_skip (q_then (c_seq (c_reg (s_val rfl rfl (r_fa rfl fo26_3 rfl) (s_val rfl rfl (r_ld rfl ty23 rfl (H.cellI 1 rfl rfl)) (s_1 rfl (s_val rfl rfl (r_fa rfl fo26_7 rfl) (s_val rfl rfl (r_ld rfl ty3 rfl (H.cellI 1 rfl rfl)) ?_))))))))
     have hml := mapM_len dg J s
     refine sc (foldCombine_ok (.slice A11 J.comb.length c12) J.comb u30 ((mapM dg J s).1) J.fuel hJ.comb hJ.f64 (by omega)) H (lR 2 rfl (lA 0 rfl own_rd (lR 5 rfl l0))) rfl rfl (e_fn kn125 rfl rfl) ?_
     rintro _ _ w ⟨u32, rfl, rfl⟩ H
     replace H := H.h1 (A := osl kPair u32 ((combM dg J.comb (mapM dg J s).1 J.fuel).1))
     refine s_k 4 rfl (s_nil (q_then (c_ret (q_ret2 rfl rfl rfl ?_))))
     have e : splitM dg J s = combM dg J.comb (mapM dg J s).1 J.fuel := if_neg h31
     replace H := H.k1
     exact fin ⟨_, by rw [e] <;> rfl, by rw [e] <;> rfl⟩ H

set_option maxHeartbeats 4000000 in
theorem mReason_ok (b : Nat) (vS : Value) (vM : Value) (vC : Value) (vR : Value) (vK : Value) (J : Job) (cw : Int) (ct : Int) (co : Int) (s : Nat) (att : Int) (cb : Nat) (fv : Value) (vw : Value) :
    Cn Tryz.prog 32 [.pointer (some ⟨b, 0, none⟩)] [blk cb [.int .u32 1, .int .i32 0, .int .u32 0, .int .u32 1, fv, .string (packS (splitM dg J s).1)] 234] [blk b [vS, .int .i64 J.parts, vM, vC, vR, .int .i64 J.chunk, .int .i64 J.window, .int .i64 J.fuel, vK, .int .i64 cw, .int .i64 ct, .int .i64 co, .int .i64 ((s : Nat) : Int), .int .i64 att, .int .i64 ((splitM dg J s).2), .pointer (some ⟨cb, 0, none⟩), vw] 164] (fun v Bs => v = .int .i64 ((splitM dg J s).2) ∧ Bs = [blk cb [.int .u32 1, .int .i32 0, .int .u32 0, .int .u32 1, fv, .string (packS (splitM dg J s).1)] 234]) := by
 intro w0 F0 H
 refine enter Tryz.func32 rfl rfl (Nat.le_of_ble_eq_true rfl) (c_seq (c_reg (s_1 rfl (s_nil (q_then (c_seq (c_seq (c_reg (s_1 rfl (s_val rfl rfl (r_peq rfl un44 rfl rfl) (s_nil (q_then (c_no rfl (c_skip (q_then (c_seq (c_reg (s_1 rfl (s_val rfl rfl (r_nilP rfl rfl) (s_val rfl rfl (r_fa rfl fo164_4 rfl) (s_val rfl rfl (r_ld rfl ty161 rfl (H.cellRI 0 rfl rfl)) (sc (getOld_ok cb fv (packS (splitM dg J s).1)) H l0 rfl rfl (e_fn kn109 rfl rfl) ?_))))))))))))))))))))))
 rintro _ _ w ⟨rfl, rfl⟩ H
 refine s_nil (q_then ?_)
 replace H : Hd _ _ _ [blk cb [.int .u32 1, .int .i32 0, .int .u32 0, .int .u32 1, fv, .string (packS (splitM dg J s).1)] 234] [blk b [vS, .int .i64 J.parts, vM, vC, vR, .int .i64 J.chunk, .int .i64 J.window, .int .i64 J.fuel, vK, .int .i64 cw, .int .i64 ct, .int .i64 co, .int .i64 ((s : Nat) : Int), .int .i64 att, .int .i64 ((splitM dg J s).2), .pointer (some ⟨cb, 0, none⟩), vw] 164] := H
 exact c_seq (c_reg (s_1 rfl (s_val rfl rfl (r_nilP rfl rfl) (s_val rfl rfl (r_fa rfl fo164_3 rfl) (s_val rfl rfl (r_ld rfl ty3 rfl (H.cellRI 0 rfl rfl)) (s_1 rfl (s_nil (q_then (c_ret (q_ret1 rfl rfl (fin ⟨rfl, rfl⟩ H)))))))))))
set_option maxHeartbeats 4000000 in
theorem mPairs_ok (b : Nat) (vS : Value) (vM : Value) (vC : Value) (vR : Value) (vK : Value) (J : Job) (cw : Int) (ct : Int) (co : Int) (s : Nat) (att : Int) (cb : Nat) (fv : Value) (vw : Value) (p : Int) (hJ : OkJ J) :
    Cn Tryz.prog 106 [.pointer (some ⟨b, 0, none⟩), .int .i64 p] [blk cb [.int .u32 1, .int .i32 0, .int .u32 0, .int .u32 1, fv, .string (packS (splitM dg J s).1)] 234] [blk b [vS, .int .i64 J.parts, vM, vC, vR, .int .i64 J.chunk, .int .i64 J.window, .int .i64 J.fuel, vK, .int .i64 cw, .int .i64 ct, .int .i64 co, .int .i64 ((s : Nat) : Int), .int .i64 att, .int .i64 ((splitM dg J s).2), .pointer (some ⟨cb, 0, none⟩), vw] 164] (fun v Bs => Bs = [osl kPair v (onlyM dg J s p), blk cb [.int .u32 1, .int .i32 0, .int .u32 0, .int .u32 1, fv, .string (packS (splitM dg J s).1)] 234]) := by
 intro w0 F0 H
 have hlen : (splitM dg J s).1.length ≤ 1000 := by have := split_len dg J s; omega
 have hszs : ∀ p ∈ (splitM dg J s).1, p.key.size ≤ 100 ∧ p.val.size ≤ 100 := fun x hx => by have := split_small num_in hJ s x hx; unfold mayP at this; omega
 have hsk : ∀ x ∈ (splitM dg J s).1, x.key.size ≤ 9223372036854775807 := fun x hx => by have := (hszs x hx).1; omega
 have hpt := hJ.parts
 have hck := hJ.chunk1
 have hol := onlyM_len dg J s
 refine enter Tryz.func106 rfl rfl (Nat.le_of_ble_eq_true rfl) (c_seq (c_reg (s_1 rfl (s_nil (q_then (c_seq (c_ord (.e 0 (.e 1 (.e 2 (.e 3 (.e 6 (.e 7 (.e 8 (.e 9 (.e 10 (.e 11 (.e 12 (.m 4 (.m 5 (.m 13 (.e 14 .z))))))))))))))) (fun w => ∃ Ar, Hd w0 F0 w (blk cb [.int .u32 1, .int .i32 0, .int .u32 0, .int .u32 1, fv, .string (packS (splitM dg J s).1)] 234 :: Ar) [blk b [vS, .int .i64 J.parts, vM, vC, vR, .int .i64 J.chunk, .int .i64 J.window, .int .i64 J.fuel, vK, .int .i64 cw, .int .i64 ct, .int .i64 co, .int .i64 ((s : Nat) : Int), .int .i64 att, .int .i64 ((splitM dg J s).2), .pointer (some ⟨cb, 0, none⟩), vw] 164]) mo (by kernel_rfl) (fun w H => ⟨_, H⟩) H (fun w H => (d_1 rfl (d_val rfl rfl rfl (fun w ⟨Ar, H⟩ => r_nilP rfl rfl) (d_val rfl rfl rfl (fun w ⟨Ar, H⟩ => r_fa rfl fo164_4 rfl) (d_val rfl rfl rfl (fun w ⟨Ar, H⟩ => r_ld rfl ty161 rfl (H.cellRI 0 rfl rfl)) (d_1 rfl ?_)))))))))))))
 refine d_val rfl rfl rfl (fun w ⟨Ar, H⟩ => r_nilP rfl rfl) (d_val rfl rfl rfl (fun w ⟨Ar, H⟩ => r_fa rfl fo164_0 rfl) (d_val rfl rfl rfl (fun w ⟨Ar, H⟩ => r_fa rfl fo28_0 rfl) (d_val rfl rfl rfl (fun w ⟨Ar, H⟩ => r_fa rfl fo26_1 rfl) (d_val rfl rfl rfl (fun w ⟨Ar, H⟩ => r_ld rfl ty3 rfl (H.cellRI 0 rfl rfl)) (d_1 rfl (d_main rfl (sc (getOld_ok cb fv (packS (splitM dg J s).1)) H l0 rfl rfl (e_fn kn109 rfl rfl) ?_)))))))
 rintro _ _ w ⟨rfl, rfl⟩ H
 replace H : Hd _ _ _ [blk cb [.int .u32 1, .int .i32 0, .int .u32 0, .int .u32 1, fv, .string (packS (splitM dg J s).1)] 234] [blk b [vS, .int .i64 J.parts, vM, vC, vR, .int .i64 J.chunk, .int .i64 J.window, .int .i64 J.fuel, vK, .int .i64 cw, .int .i64 ct, .int .i64 co, .int .i64 ((s : Nat) : Int), .int .i64 att, .int .i64 ((splitM dg J s).2), .pointer (some ⟨cb, 0, none⟩), vw] 164] := H
 refine d_back ⟨_, H⟩ (d_main rfl (sc (unpacked_ok ((splitM dg J s).1) (by first | assumption | omega | exact hlen | exact hszs) (by first | assumption | omega | exact hlen | exact hszs)) H l0 rfl rfl (e_fn kn167 rfl rfl) ?_))
 rintro v1 _ w rfl H
 replace H := H.h1 (A := osl kPair v1 ((splitM dg J s).1)) |>.p1
 refine d_back ⟨_, H⟩ (d_main rfl (sc (only_ok v1 ((splitM dg J s).1) J.parts p (by first | omega | (rw [srt_len]; omega)) (by omega) (by assumption)) H (lA 1 rfl own_rd l0) rfl rfl (e_fn kn126 rfl rfl) ?_))
 rintro v2 _ w rfl H
 replace H := H.h1 (A := osl kPair v2 (onlyP ((splitM dg J s).1) J.parts p)) |>.p1
 refine d_back ⟨_, H⟩ (d_1 rfl (d_nil (q_then (c_ret (q_ret1 rfl rfl ?_)))))
 replace H := H.p1.k2.h1 (A := osl kPair v2 (onlyM dg J s p))
 exact fin rfl H
set_option maxHeartbeats 4000000 in
theorem mSize_ok (b : Nat) (vS : Value) (vM : Value) (vC : Value) (vR : Value) (vK : Value) (J : Job) (cw : Int) (ct : Int) (co : Int) (s : Nat) (att : Int) (cb : Nat) (vw : Value) (hJ : OkJ J) :
    Cn Tryz.prog 107 [.pointer (some ⟨b, 0, none⟩)] [] [blk b [vS, .int .i64 J.parts, vM, vC, vR, .int .i64 J.chunk, .int .i64 J.window, .int .i64 J.fuel, vK, .int .i64 cw, .int .i64 ct, .int .i64 co, .int .i64 ((s : Nat) : Int), .int .i64 att, .int .i64 ((splitM dg J s).2), .pointer (some ⟨cb, 0, none⟩), vw] 164] (fun v Bs => v = .int .i64 (cutSz J.chunk att) ∧ Bs = []) := by
 intro w0 F0 H
 have hck := hJ.chunk1
 refine enter Tryz.func107 rfl rfl (Nat.le_of_ble_eq_true rfl) (c_seq (c_reg (s_1 rfl (s_nil (q_then (c_seq (c_ord (.e 0 (.e 1 (.e 2 (.e 3 (.e 4 (.e 5 (.e 6 (.e 7 (.e 8 (.e 9 (.m 10 (.e 11 .z)))))))))))) (fun w => ∃ Ar, Hd w0 F0 w (Ar) [blk b [vS, .int .i64 J.parts, vM, vC, vR, .int .i64 J.chunk, .int .i64 J.window, .int .i64 J.fuel, vK, .int .i64 cw, .int .i64 ct, .int .i64 co, .int .i64 ((s : Nat) : Int), .int .i64 att, .int .i64 ((splitM dg J s).2), .pointer (some ⟨cb, 0, none⟩), vw] 164]) mo (by kernel_rfl) (fun w H => ⟨_, H⟩) H (fun w H => (d_1 rfl (d_val rfl rfl rfl (fun w ⟨Ar, H⟩ => r_nilP rfl rfl) (d_val rfl rfl rfl (fun w ⟨Ar, H⟩ => r_fa rfl fo164_0 rfl) (d_val rfl rfl rfl (fun w ⟨Ar, H⟩ => r_fa rfl fo28_0 rfl) (d_val rfl rfl rfl (fun w ⟨Ar, H⟩ => r_fa rfl fo26_5 rfl) (d_val rfl rfl rfl (fun w ⟨Ar, H⟩ => r_ld rfl ty3 rfl (H.cellRI 0 rfl rfl)) (d_1 rfl (d_val rfl rfl rfl (fun w ⟨Ar, H⟩ => r_nilP rfl rfl) ?_))))))))))))))))
 refine d_val rfl rfl rfl (fun w ⟨Ar, H⟩ => r_fa rfl fo164_2 rfl) (d_val rfl rfl rfl (fun w ⟨Ar, H⟩ => r_ld rfl ty3 rfl (H.cellRI 0 rfl rfl)) (d_main rfl (sc (cutSize_ok J.chunk att (by first | assumption | omega | exact hlen | exact hszs)) H l0 rfl rfl (e_fn kn168 rfl rfl) ?_)))
 rintro _ _ w ⟨rfl, rfl⟩ H
 replace H : Hd _ _ _ [] [blk b [vS, .int .i64 J.parts, vM, vC, vR, .int .i64 J.chunk, .int .i64 J.window, .int .i64 J.fuel, vK, .int .i64 cw, .int .i64 ct, .int .i64 co, .int .i64 ((s : Nat) : Int), .int .i64 att, .int .i64 ((splitM dg J s).2), .pointer (some ⟨cb, 0, none⟩), vw] 164] := H
 exact d_back ⟨_, H⟩ (d_1 rfl (d_nil (q_then (c_ret (q_ret1 rfl rfl (fin ⟨rfl, rfl⟩ H))))))
set_option maxHeartbeats 4000000 in
theorem mCounts_ok (b : Nat) (vS : Value) (vM : Value) (vC : Value) (vR : Value) (vK : Value) (J : Job) (cw : Int) (ct : Int) (co : Int) (s : Nat) (att : Int) (cb : Nat) (fv : Value) (vw : Value) (hJ : OkJ J) :
    Cn Tryz.prog 30 [.pointer (some ⟨b, 0, none⟩)] [blk cb [.int .u32 1, .int .i32 0, .int .u32 0, .int .u32 1, fv, .string (packS (splitM dg J s).1)] 234] [blk b [vS, .int .i64 J.parts, vM, vC, vR, .int .i64 J.chunk, .int .i64 J.window, .int .i64 J.fuel, vK, .int .i64 cw, .int .i64 ct, .int .i64 co, .int .i64 ((s : Nat) : Int), .int .i64 att, .int .i64 ((splitM dg J s).2), .pointer (some ⟨cb, 0, none⟩), vw] 164] (fun v Bs => Bs = [osl (kInt .i64) v (countsM dg J s att), blk cb [.int .u32 1, .int .i32 0, .int .u32 0, .int .u32 1, fv, .string (packS (splitM dg J s).1)] 234]) := by
 intro w0 F0 H
 have hlen : (splitM dg J s).1.length ≤ 1000 := by have := split_len dg J s; omega
 have hszs : ∀ p ∈ (splitM dg J s).1, p.key.size ≤ 100 ∧ p.val.size ≤ 100 := fun x hx => by have := split_small num_in hJ s x hx; unfold mayP at this; omega
 have hsk : ∀ x ∈ (splitM dg J s).1, x.key.size ≤ 9223372036854775807 := fun x hx => by have := (hszs x hx).1; omega
 have hpt := hJ.parts
 have hck := hJ.chunk1
 have hol := onlyM_len dg J s
 refine enter Tryz.func30 rfl rfl (Nat.le_of_ble_eq_true rfl) (c_seq (c_reg (s_1 rfl (s_nil (q_then (c_seq (c_seq (c_reg (s_1 rfl (s_val rfl rfl (r_peq rfl un44 rfl rfl) (s_k 2 rfl (sc (mReason_ok b vS vM vC vR vK J cw ct co s att cb fv vw) H (lR 0 rfl l0) rfl rfl (e_fn kn32 rfl rfl) ?_))))))))))))
 rintro _ _ w ⟨rfl, rfl⟩ H
 refine s_val rfl rfl (r_ne rfl rfl rfl) (s_1 rfl (s_nil (q_then ?_)))
 replace H : Hd _ _ _ [blk cb [.int .u32 1, .int .i32 0, .int .u32 0, .int .u32 1, fv, .string (packS (splitM dg J s).1)] 234] [blk b [vS, .int .i64 J.parts, vM, vC, vR, .int .i64 J.chunk, .int .i64 J.window, .int .i64 J.fuel, vK, .int .i64 cw, .int .i64 ct, .int .i64 co, .int .i64 ((s : Nat) : Int), .int .i64 att, .int .i64 ((splitM dg J s).2), .pointer (some ⟨cb, 0, none⟩), vw] 164] := H
 refine c_dec rfl (fun h1 => ?_) (fun h1 => ?_)
 ·refine c_seq (c_reg (s_1 rfl (s_nil (q_then (c_ret (q_thenR (q_ret1 rfl rfl ?_)))))))
  replace H := H.newnil (kInt .i64) |>.tellK (ys := countsM dg J s att) (by rw [counts_no h1]) |>.h1 (A := osl (kInt .i64) (.slice none 0 0) (countsM dg J s att))
  exact fin rfl H
 ·refine c_skip (q_then (c_seq (c_reg (s_1 rfl (s_nil (q_then (c_seq (c_seq (c_reg (s_1 rfl (s_val rfl rfl (r_nilP rfl rfl) (s_val rfl rfl (r_fa rfl fo164_0 rfl) (s_val rfl rfl (r_fa rfl fo28_0 rfl) (s_val rfl rfl (r_fa rfl fo26_1 rfl) (s_val rfl rfl (r_ld rfl ty3 rfl (H.cellRI 0 rfl rfl)) (s_1 rfl (s_nil (q_then (c_block ?_)))))))))))))))))))
  replace H := H.newnil (kInt .i64) |>.tellK (ys := cntL dg J s att 0) (by rfl)
  refine c_loop (σ := Nat × Value) (fun (k, q) => [(0, .pointer (some ⟨b, 0, none⟩)), (2, .slice none 0 0), (3, q), (17, .int .i64 J.parts), (18, .int .i64 ((k : Nat) : Int))]) (fun (k, q) w => (Hd w0 F0 w [osl (kInt .i64) q (cntL dg J s att k), blk cb [.int .u32 1, .int .i32 0, .int .u32 0, .int .u32 1, fv, .string (packS (splitM dg J s).1)] 234] [blk b [vS, .int .i64 J.parts, vM, vC, vR, .int .i64 J.chunk, .int .i64 J.window, .int .i64 J.fuel, vK, .int .i64 cw, .int .i64 ct, .int .i64 co, .int .i64 ((s : Nat) : Int), .int .i64 att, .int .i64 ((splitM dg J s).2), .pointer (some ⟨cb, 0, none⟩), vw] 164]) ∧ ((k : Int) ≤ J.parts)) (fun (k, q) => J.parts.toNat - k) (0, .slice none 0 0) ⟨rfl, rfl, rfl, rfl, rfl, trivial⟩ ⟨H, by omega⟩ ?_
  rintro ⟨k, q⟩ w ⟨H, hk⟩
  have hcl := cntL_len dg J s att k
  have holk := hol ((k : Nat) : Int)
  refine c_seq (c_reg (s_val rfl rfl (r_lt rfl rfl rfl) (s_nil (q_then (c_seq ?_)))))
  refine c_dec rfl (fun h2 => ?_) (fun h2 => ?_)
  ·refine c_skip (q_then (c_seq (c_block (c_seq (c_reg (s_k 2 rfl (s_nil (q_then (c_reg (s_k 3 rfl ?_))))))))))
   replace H := H.p1
   replace H : Hd _ _ _ [blk cb [.int .u32 1, .int .i32 0, .int .u32 0, .int .u32 1, fv, .string (packS (splitM dg J s).1)] 234, osl (kInt .i64) q (cntL dg J s att k)] [blk b [vS, .int .i64 J.parts, vM, vC, vR, .int .i64 J.chunk, .int .i64 J.window, .int .i64 J.fuel, vK, .int .i64 cw, .int .i64 ct, .int .i64 co, .int .i64 ((s : Nat) : Int), .int .i64 att, .int .i64 ((splitM dg J s).2), .pointer (some ⟨cb, 0, none⟩), vw] 164] := H
   refine sc (mPairs_ok b vS vM vC vR vK J cw ct co s att cb fv vw ((k : Nat) : Int) (by first | assumption | omega | exact hlen | exact hszs)) H (lR 0 rfl l0) rfl rfl (e_fn kn106 rfl rfl) ?_
   rintro v3 _ w rfl H
   obtain ⟨A4, c5, rfl, hc6, hm7, hp8⟩ := H.fA 0 rfl
   refine s_val rfl rfl (r_lenL rfl un35 rfl) (s_1 rfl ?_)
   replace H : Hd _ _ _ [osl kPair (.slice A4 ((onlyM dg J s ((k : Nat) : Int)).length) c5) (onlyM dg J s ((k : Nat) : Int)), blk cb [.int .u32 1, .int .i32 0, .int .u32 0, .int .u32 1, fv, .string (packS (splitM dg J s).1)] 234, osl (kInt .i64) q (cntL dg J s att k)] [blk b [vS, .int .i64 J.parts, vM, vC, vR, .int .i64 J.chunk, .int .i64 J.window, .int .i64 J.fuel, vK, .int .i64 cw, .int .i64 ct, .int .i64 co, .int .i64 ((s : Nat) : Int), .int .i64 att, .int .i64 ((splitM dg J s).2), .pointer (some ⟨cb, 0, none⟩), vw] 164] := H
   refine sc (mSize_ok b vS vM vC vR vK J cw ct co s att cb vw (by first | assumption | omega | exact hlen | exact hszs)) H (lR 0 rfl l0) rfl rfl (e_fn kn107 rfl rfl) ?_
   rintro _ _ w ⟨rfl, rfl⟩ H
   refine sc (cutChunks_ok (((onlyM dg J s ((k : Nat) : Int)).length : Nat) : Int) (cutSz J.chunk att) (by first | assumption | omega | exact hlen | exact hszs)) H l0 rfl rfl (e_fn kn105 rfl rfl) ?_
   rintro _ _ w ⟨rfl, rfl⟩ H
   refine s_bsl (parts := [(0, .tmp 28)]) (vs := [.int .i64 (chunksN (((onlyM dg J s ((k : Nat) : Int)).length : Nat) : Int) (cutSz J.chunk att))]) (cs := [.int .i64 (chunksN (((onlyM dg J s ((k : Nat) : Int)).length : Nat) : Int) (cutSz J.chunk att))]) rfl rfl rfl sl24 zr3 rfl (by decide) (by decide) rfl rfl H (fun b9 w H => ?_)
   replace H := H.p3
   refine s_appF (xs := cntL dg J s att k) (ys := [chunksN (((onlyM dg J s ((k : Nat) : Int)).length : Nat) : Int) (cutSz J.chunk att)]) rfl rfl rfl sl24 zr3 rfl (by decide) rfl rfl H (by first | omega | (simp only [List.length_append, List.length_cons, List.length_nil]; omega)) (fun F hA hR => blk_rsl (hA _ (List.mem_of_getElem? (i := 0) rfl)) rfl (by decide) (RepsR.flat_eq.2 rfl)) (fun v10 w H => (s_1 rfl (s_nil (q_blockN (q_then ?_)))))
   replace H : Hd _ _ _ [osl (kInt .i64) v10 ((cntL dg J s att k) ++ [chunksN (((onlyM dg J s ((k : Nat) : Int)).length : Nat) : Int) (cutSz J.chunk att)]), blk b9 [.int .i64 (chunksN (((onlyM dg J s ((k : Nat) : Int)).length : Nat) : Int) (cutSz J.chunk att))] 3, osl kPair (.slice A4 ((onlyM dg J s ((k : Nat) : Int)).length) c5) (onlyM dg J s ((k : Nat) : Int)), blk cb [.int .u32 1, .int .i32 0, .int .u32 0, .int .u32 1, fv, .string (packS (splitM dg J s).1)] 234] [blk b [vS, .int .i64 J.parts, vM, vC, vR, .int .i64 J.chunk, .int .i64 J.window, .int .i64 J.fuel, vK, .int .i64 cw, .int .i64 ct, .int .i64 co, .int .i64 ((s : Nat) : Int), .int .i64 att, .int .i64 ((splitM dg J s).2), .pointer (some ⟨cb, 0, none⟩), vw] 164] := H
   refine c_reg (s_val rfl rfl (r_add (z := ((k + 1 : Nat) : Int)) rfl rfl rfl (by rw [w64 (by omega) (by omega)]; omega)) (s_1 rfl (s_nil ?_)))
   replace H := H.p3.p1.k2.tellK (ys := cntL dg J s att (k + 1)) (by rw [cntL_succ])
   exact q_round (s := (k, undef)) (k + 1, v10) ⟨rfl, rfl, rfl, rfl, rfl, trivial⟩ ⟨H, by (try dsimp only); omega⟩ (by (try dsimp only); omega)
  ·refine c_exit (q_thenE (q_thenE (q_blockE (q_then (c_seq (c_reg (s_k 2 rfl (s_nil (q_then (c_ret (q_ret1 rfl rfl ?_)))))))))))
   have hkk : k = J.parts.toNat := by omega
   replace H := H.tellK (ys := countsM dg J s att) (by rw [counts_yes (Classical.not_not.1 h1), ← hkk])
   replace H : Hd _ _ _ [osl (kInt .i64) q (countsM dg J s att), blk cb [.int .u32 1, .int .i32 0, .int .u32 0, .int .u32 1, fv, .string (packS (splitM dg J s).1)] 234] [blk b [vS, .int .i64 J.parts, vM, vC, vR, .int .i64 J.chunk, .int .i64 J.window, .int .i64 J.fuel, vK, .int .i64 cw, .int .i64 ct, .int .i64 co, .int .i64 ((s : Nat) : Int), .int .i64 att, .int .i64 ((splitM dg J s).2), .pointer (some ⟨cb, 0, none⟩), vw] 164] := H
   exact fin rfl H
set_option maxHeartbeats 4000000 in
theorem mChunk_ok (b : Nat) (vS : Value) (vM : Value) (vC : Value) (vR : Value) (vK : Value) (J : Job) (cw : Int) (ct : Int) (co : Int) (s : Nat) (att : Int) (cb : Nat) (fv : Value) (vw : Value) (p : Int) (q : Int) (hJ : OkJ J) :
    Cn Tryz.prog 41 [.pointer (some ⟨b, 0, none⟩), .int .i64 p, .int .i64 q] [blk cb [.int .u32 1, .int .i32 0, .int .u32 0, .int .u32 1, fv, .string (packS (splitM dg J s).1)] 234] [blk b [vS, .int .i64 J.parts, vM, vC, vR, .int .i64 J.chunk, .int .i64 J.window, .int .i64 J.fuel, vK, .int .i64 cw, .int .i64 ct, .int .i64 co, .int .i64 ((s : Nat) : Int), .int .i64 att, .int .i64 ((splitM dg J s).2), .pointer (some ⟨cb, 0, none⟩), vw] 164] (fun v Bs => Bs = [osl kPair v (chunkM dg J s att p q), blk cb [.int .u32 1, .int .i32 0, .int .u32 0, .int .u32 1, fv, .string (packS (splitM dg J s).1)] 234]) := by
 intro w0 F0 H
 have hlen : (splitM dg J s).1.length ≤ 1000 := by have := split_len dg J s; omega
 have hszs : ∀ p ∈ (splitM dg J s).1, p.key.size ≤ 100 ∧ p.val.size ≤ 100 := fun x hx => by have := split_small num_in hJ s x hx; unfold mayP at this; omega
 have hsk : ∀ x ∈ (splitM dg J s).1, x.key.size ≤ 9223372036854775807 := fun x hx => by have := (hszs x hx).1; omega
 have hpt := hJ.parts
 have hck := hJ.chunk1
 have hol := onlyM_len dg J s
 have hcs := cutSz_in (att := att) hck
 have holp := hol p
 refine enter Tryz.func41 rfl rfl (Nat.le_of_ble_eq_true rfl) (c_seq (c_reg (s_1 rfl (s_nil (q_then (c_seq (c_seq (c_reg (s_1 rfl (s_val rfl rfl (r_peq rfl un44 rfl rfl) (s_k 2 rfl (s_val rfl rfl (r_lt rfl rfl rfl) (s_1 rfl (s_nil (q_then ?_)))))))))))))))
 refine c_dec rfl (fun h1 => ?_) (fun h1 => ?_)
 ·refine c_seq (c_reg (s_1 rfl (s_nil (q_then (c_ret (q_thenR (q_ret1 rfl rfl ?_)))))))
  replace H := H.newnil kPair
  replace H : Hd _ _ _ [osl kPair (.slice none 0 0) [], blk cb [.int .u32 1, .int .i32 0, .int .u32 0, .int .u32 1, fv, .string (packS (splitM dg J s).1)] 234] [blk b [vS, .int .i64 J.parts, vM, vC, vR, .int .i64 J.chunk, .int .i64 J.window, .int .i64 J.fuel, vK, .int .i64 cw, .int .i64 ct, .int .i64 co, .int .i64 ((s : Nat) : Int), .int .i64 att, .int .i64 ((splitM dg J s).2), .pointer (some ⟨cb, 0, none⟩), vw] 164] := H
  replace H := H.tellK (ys := chunkM dg J s att p q) (by rw [show chunkM dg J s att p q = [] from if_pos h1]) |>.h1 (A := osl kPair (.slice none 0 0) (chunkM dg J s att p q))
  exact fin rfl H
 ·refine c_skip (q_then (c_seq (c_reg (s_k 2 rfl (sc (mPairs_ok b vS vM vC vR vK J cw ct co s att cb fv vw p (by first | assumption | omega | exact hlen | exact hszs)) H (lR 0 rfl l0) rfl rfl (e_fn kn106 rfl rfl) ?_)))))
  rintro v2 _ w rfl H
  refine s_1 rfl ?_
  replace H : Hd _ _ _ [osl kPair v2 (onlyM dg J s p), blk cb [.int .u32 1, .int .i32 0, .int .u32 0, .int .u32 1, fv, .string (packS (splitM dg J s).1)] 234] [blk b [vS, .int .i64 J.parts, vM, vC, vR, .int .i64 J.chunk, .int .i64 J.window, .int .i64 J.fuel, vK, .int .i64 cw, .int .i64 ct, .int .i64 co, .int .i64 ((s : Nat) : Int), .int .i64 att, .int .i64 ((splitM dg J s).2), .pointer (some ⟨cb, 0, none⟩), vw] 164] := H
  refine sc (mSize_ok b vS vM vC vR vK J cw ct co s att cb vw (by first | assumption | omega | exact hlen | exact hszs)) H (lR 0 rfl l0) rfl rfl (e_fn kn107 rfl rfl) ?_
  rintro _ _ w ⟨rfl, rfl⟩ H
  refine s_1 rfl (sc (cutChunk_ok v2 (onlyM dg J s p) (cutSz J.chunk att) q (by first | assumption | omega | exact hlen | exact hszs) (by first | assumption | omega | exact hlen | exact hszs)) H (lA 0 rfl own_rd l0) rfl rfl (e_fn kn113 rfl rfl) ?_)
  rintro v3 _ w rfl H
  replace H := H.h1 (A := osl kPair v3 (cutL (onlyM dg J s p) (cutSz J.chunk att) q))
  refine s_1 rfl (s_nil (q_then (c_ret (q_ret1 rfl rfl ?_))))
  replace H := H.p2.p1.k2.tellK (ys := chunkM dg J s att p q) (by rw [show chunkM dg J s att p q = cutL (onlyM dg J s p) (cutSz J.chunk att) q from if_neg h1]) |>.h1 (A := osl kPair v3 (chunkM dg J s att p q))
  exact fin rfl H

theorem hd_nil {w0 w : World} {F0 : Foot} {As Rs : List SP} (H : Hd w0 F0 w As Rs) : Hd w0 F0 w (As ++ []) Rs := by rw [List.append_nil]; exact H
theorem nil_hd {w0 w : World} {F0 : Foot} {As Rs : List SP} (H : Hd w0 F0 w (As ++ []) Rs) : Hd w0 F0 w As Rs := by rw [List.append_nil] at H; exact H
set_option maxRecDepth 100000 in
set_option maxHeartbeats 1600000 in
theorem doSlowX_ok (c pl : Nat) (sm : Value) (md : Int) (fv : Value) (tx tx2 : ByteArray) (Xs Ys Rs : List SP)
  (hcl : Cn Tryz.prog 170 [.pointer (some ⟨pl, 0, none⟩)] (blk c [.int .u32 0, .int .i32 1, sm, .int .u32 md, fv, .string tx] 234 :: Xs) Rs (fun v Bs => v = .tuple #[] ∧ Bs = blk c [.int .u32 0, .int .i32 1, sm, .int .u32 md, fv, .string tx2] 234 :: Ys)) :
  Cn Tryz.prog 205 [.pointer (some ⟨c, 0, none⟩), .func (.func 170) #[] #[.pointer (some ⟨pl, 0, none⟩)]] (blk c [.int .u32 0, .int .i32 0, sm, .int .u32 md, fv, .string tx] 234 :: Xs) Rs (fun v Bs => v = .tuple #[] ∧ Bs = blk c [.int .u32 1, .int .i32 0, sm, .int .u32 md, fv, .string tx2] 234 :: Ys) := by
 intro w F H
 have hnot : ∀ (x : Bool) (w : World), (Op.unary .not (.bool x)).run Tryz.prog w = .ok (.bool (!x)) w := fun _ _ => rfl
 go_enter_defers Tryz.func205, Tryz.ntmps205
 go_wp2_with (first
  | (go_at_call 241; refine (call_frame (As := Xs) (lock_ok c 0 sm md fv tx) H l0).mono ?_; rintro e w1 ⟨v, rfl, Bs, ⟨rfl, rfl⟩, H1⟩)
  | (go_at_call 144; refine (call_frame (Cs := []) (loadDone0_ok c 1 sm md fv tx) H1 (lA 0 rfl (fun _ h => h) l0)).mono ?_; rintro e w2 ⟨v, rfl, Bs, ⟨rfl, rfl⟩, H2⟩)
  | (go_at_call 170; refine (call_frame (As := []) hcl (hd_nil H2) lAll).mono ?_; rintro e w3 ⟨v, rfl, Bs, ⟨rfl, rfl⟩, H3n⟩; have H3 := nil_hd H3n))
 refine leaves_cons (f := 142) (args := #[.pointer (some ⟨c, 0, none⟩), .bool true]) (by simp) (by simp [go_sem]) ?_
 refine (call_frameD (As := Ys) (storeDone_ok c 0 1 sm md fv tx2) H3 l0).mono ?_
 rintro e u' w4 ⟨rfl, v, rfl, Bs, ⟨rfl, rfl⟩, H4⟩
 refine leaves_cons (f := 242) (args := #[.pointer (some ⟨c, 1, none⟩)]) (by simp [settle]) (by simp [go_sem]) ?_
 refine (call_frameD (As := Ys) (unlockD_ok c 1 sm md fv tx2) H4 l0).mono ?_
 rintro e u' w5 ⟨rfl, v, rfl, Bs, ⟨rfl, rfl⟩, H5⟩
 exact ⟨.tuple #[], by simp [results, Tryz.results205], .tuple #[], rfl, _, ⟨rfl, rfl⟩, H5⟩

set_option maxHeartbeats 1000000 in
theorem mText_ok (b ba bb bc cb : Nat) (vS : Value) (vM : Value) (vC : Value) (vR : Value) (vK : Value) (J : Job) (cw ct co : Int) (s : Nat) (att : Int) (hJ : OkJ J) (hs : s < J.us.length) :
    Cn Tryz.prog 96 [.pointer (some ⟨ba, 0, none⟩), .pointer (some ⟨bb, 0, none⟩), .pointer (some ⟨bc, 0, none⟩)] [blk b [vS, .int .i64 J.parts, vM, vC, vR, .int .i64 J.chunk, .int .i64 J.window, .int .i64 J.fuel, vK, .int .i64 cw, .int .i64 ct, .int .i64 co, .int .i64 ((s : Nat) : Int), .int .i64 att, .int .i64 0, .pointer (some ⟨cb, 0, none⟩), .slice none 0 0] 164] [blk ba [vS, .int .i64 J.parts, vM, vC, vR, .int .i64 J.chunk, .int .i64 J.window, .int .i64 J.fuel, vK, .int .i64 cw, .int .i64 ct, .int .i64 co] 28, blk bb [.int .i64 ((s : Nat) : Int)] 3, blk bc [.pointer (some ⟨b, 0, none⟩)] 44, rsl (kHd kPair) vS J.us, rsl kIns vM J.map, rsl kIns vC J.comb, rsl kIns vR J.red, rsl (kInt .i64) vK J.marks, gl] (fun v Bs => v = .string (packS (splitM dg J s).1) ∧ Bs = [blk b [vS, .int .i64 J.parts, vM, vC, vR, .int .i64 J.chunk, .int .i64 J.window, .int .i64 J.fuel, vK, .int .i64 cw, .int .i64 ct, .int .i64 co, .int .i64 ((s : Nat) : Int), .int .i64 att, .int .i64 ((splitM dg J s).2), .pointer (some ⟨cb, 0, none⟩), .slice none 0 0] 164]) := by
 intro w0 F0 H
 have hlen : (splitM dg J s).1.length ≤ 1000 := by have := split_len dg J s; omega
 have hszs : ∀ p ∈ (splitM dg J s).1, p.key.size ≤ 100 ∧ p.val.size ≤ 100 := fun x hx => by have := split_small num_in hJ s x hx; unfold mayP at this; omega
 refine enter Tryz.func96 rfl rfl (Nat.le_of_ble_eq_true rfl) (c_seq (c_reg (s_1 rfl (s_nil (q_then (c_seq (c_reg (s_val rfl rfl (r_fa rfl fo28_0 rfl) (s_val rfl rfl (r_ldA (cs := [vS, .int .i64 J.parts, vM, vC, vR, .int .i64 J.chunk, .int .i64 J.window, .int .i64 J.fuel, vK]) rfl ty26 rfl rfl (H.cellsRI 0 rfl rfl)) (s_val rfl rfl (r_ld rfl ty3 rfl (H.cellRI 1 rfl rfl)) (sc (split_ok vS vM vC vR vK J hJ s (by first | assumption | omega | exact hlen | exact hszs)) H (lR 3 rfl (lR 4 rfl (lR 5 rfl (lR 6 rfl (lR 7 rfl (lR 8 rfl l0)))))) rfl rfl (e_fn kn53 rfl rfl) ?_)))))))))))
 rintro _ _ w ⟨u1, rfl, rfl⟩ H
 refine s_k 5 rfl (s_nil (q_then ?_))
 replace H : Hd _ _ _ [osl kPair u1 ((splitM dg J s).1), blk b [vS, .int .i64 J.parts, vM, vC, vR, .int .i64 J.chunk, .int .i64 J.window, .int .i64 J.fuel, vK, .int .i64 cw, .int .i64 ct, .int .i64 co, .int .i64 ((s : Nat) : Int), .int .i64 att, .int .i64 0, .pointer (some ⟨cb, 0, none⟩), .slice none 0 0] 164] [blk ba [vS, .int .i64 J.parts, vM, vC, vR, .int .i64 J.chunk, .int .i64 J.window, .int .i64 J.fuel, vK, .int .i64 cw, .int .i64 ct, .int .i64 co] 28, blk bb [.int .i64 ((s : Nat) : Int)] 3, blk bc [.pointer (some ⟨b, 0, none⟩)] 44, rsl (kHd kPair) vS J.us, rsl kIns vM J.map, rsl kIns vC J.comb, rsl kIns vR J.red, rsl (kInt .i64) vK J.marks, gl] := H
 refine c_seq (c_reg (s_val rfl rfl (r_ld rfl ty44 rfl (H.cellRI 2 rfl rfl)) (s_1 rfl (s_val rfl rfl (r_nilP rfl rfl) (s_val rfl rfl (r_fa rfl fo164_3 rfl) ?_)))))
 replace H := H.p1
 refine s_st rfl rfl rfl ty3 rfl rfl H rfl (Nat.le_of_ble_eq_true rfl) (fun u hu => by simp [Value.cells] at hu; subst hu; rfl) (fun w H => ?_)
 replace H := H.h1 (A := blk b [vS, .int .i64 J.parts, vM, vC, vR, .int .i64 J.chunk, .int .i64 J.window, .int .i64 J.fuel, vK, .int .i64 cw, .int .i64 ct, .int .i64 co, .int .i64 ((s : Nat) : Int), .int .i64 att, .int .i64 ((splitM dg J s).2), .pointer (some ⟨cb, 0, none⟩), .slice none 0 0] 164)
 refine s_nil (q_then (c_seq (c_reg (s_1 rfl (sc (packed_ok u1 ((splitM dg J s).1) (by first | assumption | omega | exact hlen | exact hszs) (by first | assumption | omega | exact hlen | exact hszs)) H (lA 1 rfl own_rd l0) rfl rfl (e_fn kn97 rfl rfl) ?_)))))
 rintro _ _ w ⟨rfl, rfl⟩ H
 refine s_1 rfl (s_nil (q_then (c_ret (q_ret1 rfl rfl ?_))))
 replace H := H.k1
 exact fin ⟨rfl, rfl⟩ H
set_option maxHeartbeats 1000000 in
theorem mGetf_ok (b ba bb bc cb : Nat) (vS : Value) (vM : Value) (vC : Value) (vR : Value) (vK : Value) (J : Job) (cw ct co : Int) (s : Nat) (att : Int) (hJ : OkJ J) (hs : s < J.us.length) (pl : Nat) (sm : Value) (md : Int) (tx : ByteArray) :
    Cn Tryz.prog 170 [.pointer (some ⟨pl, 0, none⟩)] [blk cb [.int .u32 0, .int .i32 1, sm, .int .u32 md, .func (.func 96) #[] #[.pointer (some ⟨ba, 0, none⟩), .pointer (some ⟨bb, 0, none⟩), .pointer (some ⟨bc, 0, none⟩)], .string tx] 234, blk b [vS, .int .i64 J.parts, vM, vC, vR, .int .i64 J.chunk, .int .i64 J.window, .int .i64 J.fuel, vK, .int .i64 cw, .int .i64 ct, .int .i64 co, .int .i64 ((s : Nat) : Int), .int .i64 att, .int .i64 0, .pointer (some ⟨cb, 0, none⟩), .slice none 0 0] 164] [blk pl [.pointer (some ⟨cb, 0, none⟩)] 161, blk ba [vS, .int .i64 J.parts, vM, vC, vR, .int .i64 J.chunk, .int .i64 J.window, .int .i64 J.fuel, vK, .int .i64 cw, .int .i64 ct, .int .i64 co] 28, blk bb [.int .i64 ((s : Nat) : Int)] 3, blk bc [.pointer (some ⟨b, 0, none⟩)] 44, rsl (kHd kPair) vS J.us, rsl kIns vM J.map, rsl kIns vC J.comb, rsl kIns vR J.red, rsl (kInt .i64) vK J.marks, gl] (fun v Bs => v = .tuple #[] ∧ Bs = [blk cb [.int .u32 0, .int .i32 1, sm, .int .u32 md, .func (.func 96) #[] #[.pointer (some ⟨ba, 0, none⟩), .pointer (some ⟨bb, 0, none⟩), .pointer (some ⟨bc, 0, none⟩)], .string (packS (splitM dg J s).1)] 234, blk b [vS, .int .i64 J.parts, vM, vC, vR, .int .i64 J.chunk, .int .i64 J.window, .int .i64 J.fuel, vK, .int .i64 cw, .int .i64 ct, .int .i64 co, .int .i64 ((s : Nat) : Int), .int .i64 att, .int .i64 ((splitM dg J s).2), .pointer (some ⟨cb, 0, none⟩), .slice none 0 0] 164]) := by
 intro w0 F0 H
 refine enter Tryz.func170 rfl rfl (Nat.le_of_ble_eq_true rfl) (c_seq (c_reg (s_val rfl rfl (r_ld rfl ty161 rfl (H.cellRI 0 rfl rfl)) (s_val rfl rfl (r_nilP rfl rfl) (s_val rfl rfl (r_fa rfl fo234_2 rfl) (s_val rfl rfl (r_ld rfl ty167 rfl (H.cellI 0 rfl rfl)) (s_val rfl rfl (r_fne rfl un167 rfl rfl) (s_nil (q_then (c_yes rfl (c_ord (.e 0 (.e 1 (.e 2 (.e 3 (.m 4 (.m 5 (.e 6 (.e 7 (.m 8 .z))))))))) (fun w => ∃ Ar, Hd w0 F0 w (Ar) [blk pl [.pointer (some ⟨cb, 0, none⟩)] 161, blk ba [vS, .int .i64 J.parts, vM, vC, vR, .int .i64 J.chunk, .int .i64 J.window, .int .i64 J.fuel, vK, .int .i64 cw, .int .i64 ct, .int .i64 co] 28, blk bb [.int .i64 ((s : Nat) : Int)] 3, blk bc [.pointer (some ⟨b, 0, none⟩)] 44, rsl (kHd kPair) vS J.us, rsl kIns vM J.map, rsl kIns vC J.comb, rsl kIns vR J.red, rsl (kInt .i64) vK J.marks, gl]) mo (by kernel_rfl) (fun w H => ⟨_, H⟩) H (fun w H => (d_val rfl rfl rfl (fun w ⟨Ar, H⟩ => r_ld rfl ty161 rfl (H.cellRI 0 rfl rfl)) ?_)))))))))))))
 refine d_val rfl rfl rfl (fun w ⟨Ar, H⟩ => r_ld rfl ty161 rfl (H.cellRI 0 rfl rfl)) (d_val rfl rfl rfl (fun w ⟨Ar, H⟩ => r_nilP rfl rfl) (d_val rfl rfl rfl (fun w ⟨Ar, H⟩ => r_fa rfl fo234_2 rfl) (d_main rfl (s_val rfl rfl (r_ld rfl ty167 rfl (H.cellI 0 rfl rfl)) (d_back ⟨_, H⟩ (d_main rfl ?_))))))
 replace H := H.p1
 replace H : Hd _ _ _ [blk b [vS, .int .i64 J.parts, vM, vC, vR, .int .i64 J.chunk, .int .i64 J.window, .int .i64 J.fuel, vK, .int .i64 cw, .int .i64 ct, .int .i64 co, .int .i64 ((s : Nat) : Int), .int .i64 att, .int .i64 0, .pointer (some ⟨cb, 0, none⟩), .slice none 0 0] 164, blk cb [.int .u32 0, .int .i32 1, sm, .int .u32 md, .func (.func 96) #[] #[.pointer (some ⟨ba, 0, none⟩), .pointer (some ⟨bb, 0, none⟩), .pointer (some ⟨bc, 0, none⟩)], .string tx] 234] [blk pl [.pointer (some ⟨cb, 0, none⟩)] 161, blk ba [vS, .int .i64 J.parts, vM, vC, vR, .int .i64 J.chunk, .int .i64 J.window, .int .i64 J.fuel, vK, .int .i64 cw, .int .i64 ct, .int .i64 co] 28, blk bb [.int .i64 ((s : Nat) : Int)] 3, blk bc [.pointer (some ⟨b, 0, none⟩)] 44, rsl (kHd kPair) vS J.us, rsl kIns vM J.map, rsl kIns vC J.comb, rsl kIns vR J.red, rsl (kInt .i64) vK J.marks, gl] := H
 refine sc (mText_ok b ba bb bc cb vS vM vC vR vK J cw ct co s att hJ hs) H (lR 1 rfl (lR 2 rfl (lR 3 rfl (lR 4 rfl (lR 5 rfl (lR 6 rfl (lR 7 rfl (lR 8 rfl (lR 9 rfl l0))))))))) rfl rfl (e_val (vs := []) (fs := #[]) (cs := #[.pointer (some ⟨ba, 0, none⟩), .pointer (some ⟨bb, 0, none⟩), .pointer (some ⟨bc, 0, none⟩)]) kn96 rfl rfl rfl) ?_
 rintro _ _ w ⟨rfl, rfl⟩ H
 replace H := H.h1 (A := blk b [vS, .int .i64 J.parts, vM, vC, vR, .int .i64 J.chunk, .int .i64 J.window, .int .i64 J.fuel, vK, .int .i64 cw, .int .i64 ct, .int .i64 co, .int .i64 ((s : Nat) : Int), .int .i64 att, .int .i64 ((splitM dg J s).2), .pointer (some ⟨cb, 0, none⟩), .slice none 0 0] 164)
 refine d_back ⟨_, H⟩ (d_val rfl rfl rfl (fun w ⟨Ar, H⟩ => r_nilP rfl rfl) (d_val rfl rfl rfl (fun w ⟨Ar, H⟩ => r_fa rfl fo234_3 rfl) (d_main rfl ?_)))
 replace H := H.p1
 refine s_st rfl rfl rfl ty9 rfl rfl H rfl (Nat.le_of_ble_eq_true rfl) (fun u hu => by simp [Value.cells] at hu; subst hu; rfl) (fun w H => ?_)
 replace H := H.h1 (A := blk cb [.int .u32 0, .int .i32 1, sm, .int .u32 md, .func (.func 96) #[] #[.pointer (some ⟨ba, 0, none⟩), .pointer (some ⟨bb, 0, none⟩), .pointer (some ⟨bc, 0, none⟩)], .string (packS (splitM dg J s).1)] 234)
 exact d_back ⟨_, H⟩ (d_nil (q_end rfl (fin ⟨rfl, rfl⟩ H)))
set_option maxHeartbeats 1000000 in
theorem mDoNew_ok (b ba bb bc cb : Nat) (vS : Value) (vM : Value) (vC : Value) (vR : Value) (vK : Value) (J : Job) (cw ct co : Int) (s : Nat) (att : Int) (hJ : OkJ J) (hs : s < J.us.length) (pl : Nat) (sm : Value) (md : Int) (tx : ByteArray) :
    Cn Tryz.prog 169 [.pointer (some ⟨cb, 0, none⟩), .func (.func 170) #[] #[.pointer (some ⟨pl, 0, none⟩)]] [blk cb [.int .u32 0, .int .i32 0, sm, .int .u32 md, .func (.func 96) #[] #[.pointer (some ⟨ba, 0, none⟩), .pointer (some ⟨bb, 0, none⟩), .pointer (some ⟨bc, 0, none⟩)], .string tx] 234, blk b [vS, .int .i64 J.parts, vM, vC, vR, .int .i64 J.chunk, .int .i64 J.window, .int .i64 J.fuel, vK, .int .i64 cw, .int .i64 ct, .int .i64 co, .int .i64 ((s : Nat) : Int), .int .i64 att, .int .i64 0, .pointer (some ⟨cb, 0, none⟩), .slice none 0 0] 164] [blk pl [.pointer (some ⟨cb, 0, none⟩)] 161, blk ba [vS, .int .i64 J.parts, vM, vC, vR, .int .i64 J.chunk, .int .i64 J.window, .int .i64 J.fuel, vK, .int .i64 cw, .int .i64 ct, .int .i64 co] 28, blk bb [.int .i64 ((s : Nat) : Int)] 3, blk bc [.pointer (some ⟨b, 0, none⟩)] 44, rsl (kHd kPair) vS J.us, rsl kIns vM J.map, rsl kIns vC J.comb, rsl kIns vR J.red, rsl (kInt .i64) vK J.marks, gl] (fun v Bs => v = .tuple #[] ∧ Bs = [blk cb [.int .u32 1, .int .i32 0, sm, .int .u32 md, .func (.func 96) #[] #[.pointer (some ⟨ba, 0, none⟩), .pointer (some ⟨bb, 0, none⟩), .pointer (some ⟨bc, 0, none⟩)], .string (packS (splitM dg J s).1)] 234, blk b [vS, .int .i64 J.parts, vM, vC, vR, .int .i64 J.chunk, .int .i64 J.window, .int .i64 J.fuel, vK, .int .i64 cw, .int .i64 ct, .int .i64 co, .int .i64 ((s : Nat) : Int), .int .i64 att, .int .i64 ((splitM dg J s).2), .pointer (some ⟨cb, 0, none⟩), .slice none 0 0] 164]) := by
 intro w0 F0 H
 refine enter Tryz.func169 rfl rfl (Nat.le_of_ble_eq_true rfl) (c_seq (c_reg (s_1 rfl (s_val rfl rfl (r_nilP rfl rfl) (s_val rfl rfl (r_fa rfl fo232_1 rfl) (sc (loadDone0_ok cb 0 sm md (.func (.func 96) #[] #[.pointer (some ⟨ba, 0, none⟩), .pointer (some ⟨bb, 0, none⟩), .pointer (some ⟨bc, 0, none⟩)]) tx) H (lA 0 rfl (fun _ h => h) l0) rfl rfl (e_fn kn144 rfl rfl) ?_))))))
 rintro _ _ w ⟨rfl, rfl⟩ H
 refine s_val rfl rfl (r_not rfl rfl rfl) (s_nil (q_then (c_yes rfl (c_reg (s_k 2 rfl (sc (doSlowX_ok cb pl sm md (.func (.func 96) #[] #[.pointer (some ⟨ba, 0, none⟩), .pointer (some ⟨bb, 0, none⟩), .pointer (some ⟨bc, 0, none⟩)]) tx (packS (splitM dg J s).1) [blk b [vS, .int .i64 J.parts, vM, vC, vR, .int .i64 J.chunk, .int .i64 J.window, .int .i64 J.fuel, vK, .int .i64 cw, .int .i64 ct, .int .i64 co, .int .i64 ((s : Nat) : Int), .int .i64 att, .int .i64 0, .pointer (some ⟨cb, 0, none⟩), .slice none 0 0] 164] [blk b [vS, .int .i64 J.parts, vM, vC, vR, .int .i64 J.chunk, .int .i64 J.window, .int .i64 J.fuel, vK, .int .i64 cw, .int .i64 ct, .int .i64 co, .int .i64 ((s : Nat) : Int), .int .i64 att, .int .i64 ((splitM dg J s).2), .pointer (some ⟨cb, 0, none⟩), .slice none 0 0] 164] [blk pl [.pointer (some ⟨cb, 0, none⟩)] 161, blk ba [vS, .int .i64 J.parts, vM, vC, vR, .int .i64 J.chunk, .int .i64 J.window, .int .i64 J.fuel, vK, .int .i64 cw, .int .i64 ct, .int .i64 co] 28, blk bb [.int .i64 ((s : Nat) : Int)] 3, blk bc [.pointer (some ⟨b, 0, none⟩)] 44, rsl (kHd kPair) vS J.us, rsl kIns vM J.map, rsl kIns vC J.comb, rsl kIns vR J.red, rsl (kInt .i64) vK J.marks, gl] (mGetf_ok b ba bb bc cb vS vM vC vR vK J cw ct co s att hJ hs pl sm md tx)) H (lR 0 rfl (lR 1 rfl (lR 2 rfl (lR 3 rfl (lR 4 rfl (lR 5 rfl (lR 6 rfl (lR 7 rfl (lR 8 rfl (lR 9 rfl l0)))))))))) rfl rfl (e_fn kn205 rfl rfl) ?_))))))
 rintro _ _ w ⟨rfl, rfl⟩ H
 refine s_nil (q_end rfl ?_)
 replace H : Hd _ _ _ [blk cb [.int .u32 1, .int .i32 0, sm, .int .u32 md, .func (.func 96) #[] #[.pointer (some ⟨ba, 0, none⟩), .pointer (some ⟨bb, 0, none⟩), .pointer (some ⟨bc, 0, none⟩)], .string (packS (splitM dg J s).1)] 234, blk b [vS, .int .i64 J.parts, vM, vC, vR, .int .i64 J.chunk, .int .i64 J.window, .int .i64 J.fuel, vK, .int .i64 cw, .int .i64 ct, .int .i64 co, .int .i64 ((s : Nat) : Int), .int .i64 att, .int .i64 ((splitM dg J s).2), .pointer (some ⟨cb, 0, none⟩), .slice none 0 0] 164] [blk pl [.pointer (some ⟨cb, 0, none⟩)] 161, blk ba [vS, .int .i64 J.parts, vM, vC, vR, .int .i64 J.chunk, .int .i64 J.window, .int .i64 J.fuel, vK, .int .i64 cw, .int .i64 ct, .int .i64 co] 28, blk bb [.int .i64 ((s : Nat) : Int)] 3, blk bc [.pointer (some ⟨b, 0, none⟩)] 44, rsl (kHd kPair) vS J.us, rsl kIns vM J.map, rsl kIns vC J.comb, rsl kIns vR J.red, rsl (kInt .i64) vK J.marks, gl] := H
 exact fin ⟨rfl, rfl⟩ H
set_option maxHeartbeats 1000000 in
theorem mGetNew_ok (b ba bb bc cb : Nat) (vS : Value) (vM : Value) (vC : Value) (vR : Value) (vK : Value) (J : Job) (cw ct co : Int) (s : Nat) (att : Int) (hJ : OkJ J) (hs : s < J.us.length) :
    Cn Tryz.prog 109 [.pointer (some ⟨cb, 0, none⟩)] [blk cb [.int .u32 0, .int .i32 0, .int .u32 0, .int .u32 0, .func (.func 96) #[] #[.pointer (some ⟨ba, 0, none⟩), .pointer (some ⟨bb, 0, none⟩), .pointer (some ⟨bc, 0, none⟩)], .string ⟨#[]⟩] 234, blk b [vS, .int .i64 J.parts, vM, vC, vR, .int .i64 J.chunk, .int .i64 J.window, .int .i64 J.fuel, vK, .int .i64 cw, .int .i64 ct, .int .i64 co, .int .i64 ((s : Nat) : Int), .int .i64 att, .int .i64 0, .pointer (some ⟨cb, 0, none⟩), .slice none 0 0] 164] [blk ba [vS, .int .i64 J.parts, vM, vC, vR, .int .i64 J.chunk, .int .i64 J.window, .int .i64 J.fuel, vK, .int .i64 cw, .int .i64 ct, .int .i64 co] 28, blk bb [.int .i64 ((s : Nat) : Int)] 3, blk bc [.pointer (some ⟨b, 0, none⟩)] 44, rsl (kHd kPair) vS J.us, rsl kIns vM J.map, rsl kIns vC J.comb, rsl kIns vR J.red, rsl (kInt .i64) vK J.marks, gl] (fun v Bs => v = .string (packS (splitM dg J s).1) ∧ Bs = [blk cb [.int .u32 1, .int .i32 0, .int .u32 0, .int .u32 1, .func (.func 96) #[] #[.pointer (some ⟨ba, 0, none⟩), .pointer (some ⟨bb, 0, none⟩), .pointer (some ⟨bc, 0, none⟩)], .string (packS (splitM dg J s).1)] 234, blk b [vS, .int .i64 J.parts, vM, vC, vR, .int .i64 J.chunk, .int .i64 J.window, .int .i64 J.fuel, vK, .int .i64 cw, .int .i64 ct, .int .i64 co, .int .i64 ((s : Nat) : Int), .int .i64 att, .int .i64 ((splitM dg J s).2), .pointer (some ⟨cb, 0, none⟩), .slice none 0 0] 164]) := by
 intro w0 F0 H
 refine enter Tryz.func109 rfl rfl (Nat.le_of_ble_eq_true rfl) (c_seq (c_reg (s_box rfl rfl rfl rfl H (fun b1 w H => (s_1 rfl (s_nil (q_then ?_)))))))
 replace H : Hd _ _ _ [blk b1 [.pointer (some ⟨cb, 0, none⟩)] 161, blk cb [.int .u32 0, .int .i32 0, .int .u32 0, .int .u32 0, .func (.func 96) #[] #[.pointer (some ⟨ba, 0, none⟩), .pointer (some ⟨bb, 0, none⟩), .pointer (some ⟨bc, 0, none⟩)], .string ⟨#[]⟩] 234, blk b [vS, .int .i64 J.parts, vM, vC, vR, .int .i64 J.chunk, .int .i64 J.window, .int .i64 J.fuel, vK, .int .i64 cw, .int .i64 ct, .int .i64 co, .int .i64 ((s : Nat) : Int), .int .i64 att, .int .i64 0, .pointer (some ⟨cb, 0, none⟩), .slice none 0 0] 164] [blk ba [vS, .int .i64 J.parts, vM, vC, vR, .int .i64 J.chunk, .int .i64 J.window, .int .i64 J.fuel, vK, .int .i64 cw, .int .i64 ct, .int .i64 co] 28, blk bb [.int .i64 ((s : Nat) : Int)] 3, blk bc [.pointer (some ⟨b, 0, none⟩)] 44, rsl (kHd kPair) vS J.us, rsl kIns vM J.map, rsl kIns vC J.comb, rsl kIns vR J.red, rsl (kInt .i64) vK J.marks, gl] := H
 refine c_seq (c_seq (c_reg (s_val rfl rfl (r_ld rfl ty161 rfl (H.cellI 0 rfl rfl)) (s_val rfl rfl (r_peq rfl un161 rfl rfl) (s_nil (q_then (c_no rfl (c_skip (q_then (c_seq (c_reg (s_val rfl rfl (r_ld rfl ty161 rfl (H.cellI 0 rfl rfl)) (s_val rfl rfl (r_nilP rfl rfl) (s_val rfl rfl (r_fa rfl fo234_1 rfl) ?_))))))))))))))
 replace H := H.p1
 refine sc (storeMade_ok cb 0 0 (.int .u32 0) 0 (.func (.func 96) #[] #[.pointer (some ⟨ba, 0, none⟩), .pointer (some ⟨bb, 0, none⟩), .pointer (some ⟨bc, 0, none⟩)]) (⟨#[]⟩ : ByteArray)) H l0 rfl rfl (e_fn kn142 rfl rfl) ?_
 rintro _ _ w ⟨rfl, rfl⟩ H
 replace H := H.h1 (A := blk cb [.int .u32 0, .int .i32 0, .int .u32 0, .int .u32 1, .func (.func 96) #[] #[.pointer (some ⟨ba, 0, none⟩), .pointer (some ⟨bb, 0, none⟩), .pointer (some ⟨bc, 0, none⟩)], .string ⟨#[]⟩] 234)
 refine s_nil (q_then (c_seq (c_reg (s_val rfl rfl (r_ld rfl ty161 rfl (H.cellI 1 rfl rfl)) (s_val rfl rfl (r_nilP rfl rfl) (s_val rfl rfl (r_fa rfl fo234_0 rfl) (s_val rfl rfl (r_fn (fs := #[]) (cs := #[.pointer (some ⟨b1, 0, none⟩)]) rfl rfl rfl) ?_)))))))
 replace H := H.p2.p1
 refine sc (mDoNew_ok b ba bb bc cb vS vM vC vR vK J cw ct co s att hJ hs b1 (.int .u32 0) 1 ⟨#[]⟩) H (lA 0 rfl (fun _ h => h) (lR 0 rfl (lR 1 rfl (lR 2 rfl (lR 3 rfl (lR 4 rfl (lR 5 rfl (lR 6 rfl (lR 7 rfl (lR 8 rfl l0)))))))))) rfl rfl (e_fn kn169 rfl rfl) ?_
 rintro _ _ w ⟨rfl, rfl⟩ H
 replace H := H.h2 (A := blk cb [.int .u32 1, .int .i32 0, .int .u32 0, .int .u32 1, .func (.func 96) #[] #[.pointer (some ⟨ba, 0, none⟩), .pointer (some ⟨bb, 0, none⟩), .pointer (some ⟨bc, 0, none⟩)], .string (packS (splitM dg J s).1)] 234) (B := blk b [vS, .int .i64 J.parts, vM, vC, vR, .int .i64 J.chunk, .int .i64 J.window, .int .i64 J.fuel, vK, .int .i64 cw, .int .i64 ct, .int .i64 co, .int .i64 ((s : Nat) : Int), .int .i64 att, .int .i64 ((splitM dg J s).2), .pointer (some ⟨cb, 0, none⟩), .slice none 0 0] 164)
 refine s_nil (q_then (c_seq (c_reg (s_val rfl rfl (r_ld rfl ty161 rfl (H.cellI 2 rfl rfl)) (s_val rfl rfl (r_nilP rfl rfl) (s_val rfl rfl (r_fa rfl fo234_3 rfl) (s_val rfl rfl (r_ld rfl ty9 rfl (H.cellI 0 rfl rfl)) (s_1 rfl (s_nil (q_then (c_ret (q_ret1 rfl rfl ?_))))))))))))
 replace H := H.k2
 exact fin ⟨rfl, rfl⟩ H
set_option maxHeartbeats 1000000 in
theorem mReasonN_ok (b ba bb bc cb : Nat) (vS : Value) (vM : Value) (vC : Value) (vR : Value) (vK : Value) (J : Job) (cw ct co : Int) (s : Nat) (att : Int) (hJ : OkJ J) (hs : s < J.us.length) :
    Cn Tryz.prog 32 [.pointer (some ⟨b, 0, none⟩)] [blk cb [.int .u32 0, .int .i32 0, .int .u32 0, .int .u32 0, .func (.func 96) #[] #[.pointer (some ⟨ba, 0, none⟩), .pointer (some ⟨bb, 0, none⟩), .pointer (some ⟨bc, 0, none⟩)], .string ⟨#[]⟩] 234, blk b [vS, .int .i64 J.parts, vM, vC, vR, .int .i64 J.chunk, .int .i64 J.window, .int .i64 J.fuel, vK, .int .i64 cw, .int .i64 ct, .int .i64 co, .int .i64 ((s : Nat) : Int), .int .i64 att, .int .i64 0, .pointer (some ⟨cb, 0, none⟩), .slice none 0 0] 164] [blk ba [vS, .int .i64 J.parts, vM, vC, vR, .int .i64 J.chunk, .int .i64 J.window, .int .i64 J.fuel, vK, .int .i64 cw, .int .i64 ct, .int .i64 co] 28, blk bb [.int .i64 ((s : Nat) : Int)] 3, blk bc [.pointer (some ⟨b, 0, none⟩)] 44, rsl (kHd kPair) vS J.us, rsl kIns vM J.map, rsl kIns vC J.comb, rsl kIns vR J.red, rsl (kInt .i64) vK J.marks, gl] (fun v Bs => v = .int .i64 ((splitM dg J s).2) ∧ Bs = [blk cb [.int .u32 1, .int .i32 0, .int .u32 0, .int .u32 1, .func (.func 96) #[] #[.pointer (some ⟨ba, 0, none⟩), .pointer (some ⟨bb, 0, none⟩), .pointer (some ⟨bc, 0, none⟩)], .string (packS (splitM dg J s).1)] 234, blk b [vS, .int .i64 J.parts, vM, vC, vR, .int .i64 J.chunk, .int .i64 J.window, .int .i64 J.fuel, vK, .int .i64 cw, .int .i64 ct, .int .i64 co, .int .i64 ((s : Nat) : Int), .int .i64 att, .int .i64 ((splitM dg J s).2), .pointer (some ⟨cb, 0, none⟩), .slice none 0 0] 164]) := by
 intro w0 F0 H
 refine enter Tryz.func32 rfl rfl (Nat.le_of_ble_eq_true rfl) (c_seq (c_reg (s_1 rfl (s_nil (q_then (c_seq (c_seq (c_reg (s_1 rfl (s_val rfl rfl (r_peq rfl un44 rfl rfl) (s_nil (q_then (c_no rfl (c_skip (q_then (c_seq (c_reg (s_1 rfl (s_val rfl rfl (r_nilP rfl rfl) (s_val rfl rfl (r_fa rfl fo164_4 rfl) (s_val rfl rfl (r_ld rfl ty161 rfl (H.cellI 1 rfl rfl)) (sc (mGetNew_ok b ba bb bc cb vS vM vC vR vK J cw ct co s att hJ hs) H (lR 0 rfl (lR 1 rfl (lR 2 rfl (lR 3 rfl (lR 4 rfl (lR 5 rfl (lR 6 rfl (lR 7 rfl (lR 8 rfl l0))))))))) rfl rfl (e_fn kn109 rfl rfl) ?_))))))))))))))))))))))
 rintro _ _ w ⟨rfl, rfl⟩ H
 refine s_nil (q_then ?_)
 replace H : Hd _ _ _ [blk cb [.int .u32 1, .int .i32 0, .int .u32 0, .int .u32 1, .func (.func 96) #[] #[.pointer (some ⟨ba, 0, none⟩), .pointer (some ⟨bb, 0, none⟩), .pointer (some ⟨bc, 0, none⟩)], .string (packS (splitM dg J s).1)] 234, blk b [vS, .int .i64 J.parts, vM, vC, vR, .int .i64 J.chunk, .int .i64 J.window, .int .i64 J.fuel, vK, .int .i64 cw, .int .i64 ct, .int .i64 co, .int .i64 ((s : Nat) : Int), .int .i64 att, .int .i64 ((splitM dg J s).2), .pointer (some ⟨cb, 0, none⟩), .slice none 0 0] 164] [blk ba [vS, .int .i64 J.parts, vM, vC, vR, .int .i64 J.chunk, .int .i64 J.window, .int .i64 J.fuel, vK, .int .i64 cw, .int .i64 ct, .int .i64 co] 28, blk bb [.int .i64 ((s : Nat) : Int)] 3, blk bc [.pointer (some ⟨b, 0, none⟩)] 44, rsl (kHd kPair) vS J.us, rsl kIns vM J.map, rsl kIns vC J.comb, rsl kIns vR J.red, rsl (kInt .i64) vK J.marks, gl] := H
 exact c_seq (c_reg (s_1 rfl (s_val rfl rfl (r_nilP rfl rfl) (s_val rfl rfl (r_fa rfl fo164_3 rfl) (s_val rfl rfl (r_ld rfl ty3 rfl (H.cellI 1 rfl rfl)) (s_1 rfl (s_nil (q_then (c_ret (q_ret1 rfl rfl (fin ⟨rfl, rfl⟩ H)))))))))))
set_option maxHeartbeats 4000000 in
theorem mCountsN_ok (b ba bb bc cb : Nat) (vS : Value) (vM : Value) (vC : Value) (vR : Value) (vK : Value) (J : Job) (cw ct co : Int) (s : Nat) (att : Int) (hJ : OkJ J) (hs : s < J.us.length) :
    Cn Tryz.prog 30 [.pointer (some ⟨b, 0, none⟩)] [blk cb [.int .u32 0, .int .i32 0, .int .u32 0, .int .u32 0, .func (.func 96) #[] #[.pointer (some ⟨ba, 0, none⟩), .pointer (some ⟨bb, 0, none⟩), .pointer (some ⟨bc, 0, none⟩)], .string ⟨#[]⟩] 234, blk b [vS, .int .i64 J.parts, vM, vC, vR, .int .i64 J.chunk, .int .i64 J.window, .int .i64 J.fuel, vK, .int .i64 cw, .int .i64 ct, .int .i64 co, .int .i64 ((s : Nat) : Int), .int .i64 att, .int .i64 0, .pointer (some ⟨cb, 0, none⟩), .slice none 0 0] 164] [blk ba [vS, .int .i64 J.parts, vM, vC, vR, .int .i64 J.chunk, .int .i64 J.window, .int .i64 J.fuel, vK, .int .i64 cw, .int .i64 ct, .int .i64 co] 28, blk bb [.int .i64 ((s : Nat) : Int)] 3, blk bc [.pointer (some ⟨b, 0, none⟩)] 44, rsl (kHd kPair) vS J.us, rsl kIns vM J.map, rsl kIns vC J.comb, rsl kIns vR J.red, rsl (kInt .i64) vK J.marks, gl] (fun v Bs => Bs = [osl (kInt .i64) v (countsM dg J s att), blk cb [.int .u32 1, .int .i32 0, .int .u32 0, .int .u32 1, .func (.func 96) #[] #[.pointer (some ⟨ba, 0, none⟩), .pointer (some ⟨bb, 0, none⟩), .pointer (some ⟨bc, 0, none⟩)], .string (packS (splitM dg J s).1)] 234, blk b [vS, .int .i64 J.parts, vM, vC, vR, .int .i64 J.chunk, .int .i64 J.window, .int .i64 J.fuel, vK, .int .i64 cw, .int .i64 ct, .int .i64 co, .int .i64 ((s : Nat) : Int), .int .i64 att, .int .i64 ((splitM dg J s).2), .pointer (some ⟨cb, 0, none⟩), .slice none 0 0] 164]) := by
 intro w0 F0 H
 have hlen : (splitM dg J s).1.length ≤ 1000 := by have := split_len dg J s; omega
 have hszs : ∀ p ∈ (splitM dg J s).1, p.key.size ≤ 100 ∧ p.val.size ≤ 100 := fun x hx => by have := split_small num_in hJ s x hx; unfold mayP at this; omega
 have hsk : ∀ x ∈ (splitM dg J s).1, x.key.size ≤ 9223372036854775807 := fun x hx => by have := (hszs x hx).1; omega
 have hpt := hJ.parts
 have hck := hJ.chunk1
 have hol := onlyM_len dg J s
 refine enter Tryz.func30 rfl rfl (Nat.le_of_ble_eq_true rfl) (c_seq (c_reg (s_1 rfl (s_nil (q_then (c_seq (c_seq (c_reg (s_1 rfl (s_val rfl rfl (r_peq rfl un44 rfl rfl) (s_k 2 rfl (sc (mReasonN_ok b ba bb bc cb vS vM vC vR vK J cw ct co s att hJ hs) H (lR 0 rfl (lR 1 rfl (lR 2 rfl (lR 3 rfl (lR 4 rfl (lR 5 rfl (lR 6 rfl (lR 7 rfl (lR 8 rfl l0))))))))) rfl rfl (e_fn kn32 rfl rfl) ?_))))))))))))
 rintro _ _ w ⟨rfl, rfl⟩ H
 refine s_val rfl rfl (r_ne rfl rfl rfl) (s_1 rfl (s_nil (q_then ?_)))
 replace H : Hd _ _ _ [blk cb [.int .u32 1, .int .i32 0, .int .u32 0, .int .u32 1, .func (.func 96) #[] #[.pointer (some ⟨ba, 0, none⟩), .pointer (some ⟨bb, 0, none⟩), .pointer (some ⟨bc, 0, none⟩)], .string (packS (splitM dg J s).1)] 234, blk b [vS, .int .i64 J.parts, vM, vC, vR, .int .i64 J.chunk, .int .i64 J.window, .int .i64 J.fuel, vK, .int .i64 cw, .int .i64 ct, .int .i64 co, .int .i64 ((s : Nat) : Int), .int .i64 att, .int .i64 ((splitM dg J s).2), .pointer (some ⟨cb, 0, none⟩), .slice none 0 0] 164] [blk ba [vS, .int .i64 J.parts, vM, vC, vR, .int .i64 J.chunk, .int .i64 J.window, .int .i64 J.fuel, vK, .int .i64 cw, .int .i64 ct, .int .i64 co] 28, blk bb [.int .i64 ((s : Nat) : Int)] 3, blk bc [.pointer (some ⟨b, 0, none⟩)] 44, rsl (kHd kPair) vS J.us, rsl kIns vM J.map, rsl kIns vC J.comb, rsl kIns vR J.red, rsl (kInt .i64) vK J.marks, gl] := H
 refine c_dec rfl (fun h1 => ?_) (fun h1 => ?_)
 ·refine c_seq (c_reg (s_1 rfl (s_nil (q_then (c_ret (q_thenR (q_ret1 rfl rfl ?_)))))))
  replace H := H.newnil (kInt .i64) |>.tellK (ys := countsM dg J s att) (by rw [counts_no h1]) |>.h1 (A := osl (kInt .i64) (.slice none 0 0) (countsM dg J s att))
  exact fin rfl H
 ·refine c_skip (q_then (c_seq (c_reg (s_1 rfl (s_nil (q_then (c_seq (c_seq (c_reg (s_1 rfl (s_val rfl rfl (r_nilP rfl rfl) (s_val rfl rfl (r_fa rfl fo164_0 rfl) (s_val rfl rfl (r_fa rfl fo28_0 rfl) (s_val rfl rfl (r_fa rfl fo26_1 rfl) (s_val rfl rfl (r_ld rfl ty3 rfl (H.cellI 1 rfl rfl)) (s_1 rfl (s_nil (q_then (c_block ?_)))))))))))))))))))
  replace H := H.newnil (kInt .i64) |>.tellK (ys := cntL dg J s att 0) (by rfl)
  refine c_loop (σ := Nat × Value) (fun (k, q) => [(0, .pointer (some ⟨b, 0, none⟩)), (2, .slice none 0 0), (3, q), (17, .int .i64 J.parts), (18, .int .i64 ((k : Nat) : Int))]) (fun (k, q) w => (Hd w0 F0 w [osl (kInt .i64) q (cntL dg J s att k), blk cb [.int .u32 1, .int .i32 0, .int .u32 0, .int .u32 1, .func (.func 96) #[] #[.pointer (some ⟨ba, 0, none⟩), .pointer (some ⟨bb, 0, none⟩), .pointer (some ⟨bc, 0, none⟩)], .string (packS (splitM dg J s).1)] 234, blk b [vS, .int .i64 J.parts, vM, vC, vR, .int .i64 J.chunk, .int .i64 J.window, .int .i64 J.fuel, vK, .int .i64 cw, .int .i64 ct, .int .i64 co, .int .i64 ((s : Nat) : Int), .int .i64 att, .int .i64 ((splitM dg J s).2), .pointer (some ⟨cb, 0, none⟩), .slice none 0 0] 164] [blk ba [vS, .int .i64 J.parts, vM, vC, vR, .int .i64 J.chunk, .int .i64 J.window, .int .i64 J.fuel, vK, .int .i64 cw, .int .i64 ct, .int .i64 co] 28, blk bb [.int .i64 ((s : Nat) : Int)] 3, blk bc [.pointer (some ⟨b, 0, none⟩)] 44, rsl (kHd kPair) vS J.us, rsl kIns vM J.map, rsl kIns vC J.comb, rsl kIns vR J.red, rsl (kInt .i64) vK J.marks, gl]) ∧ ((k : Int) ≤ J.parts)) (fun (k, q) => J.parts.toNat - k) (0, .slice none 0 0) ⟨rfl, rfl, rfl, rfl, rfl, trivial⟩ ⟨H, by omega⟩ ?_
  rintro ⟨k, q⟩ w ⟨H, hk⟩
  have hcl := cntL_len dg J s att k
  have holk := hol ((k : Nat) : Int)
  refine c_seq (c_reg (s_val rfl rfl (r_lt rfl rfl rfl) (s_nil (q_then (c_seq ?_)))))
  refine c_dec rfl (fun h2 => ?_) (fun h2 => ?_)
  ·refine c_skip (q_then (c_seq (c_block (c_seq (c_reg (s_k 2 rfl (s_nil (q_then (c_reg (s_k 3 rfl ?_))))))))))
   replace H := H.p1
   replace H : Hd _ _ _ [blk cb [.int .u32 1, .int .i32 0, .int .u32 0, .int .u32 1, .func (.func 96) #[] #[.pointer (some ⟨ba, 0, none⟩), .pointer (some ⟨bb, 0, none⟩), .pointer (some ⟨bc, 0, none⟩)], .string (packS (splitM dg J s).1)] 234, osl (kInt .i64) q (cntL dg J s att k), blk b [vS, .int .i64 J.parts, vM, vC, vR, .int .i64 J.chunk, .int .i64 J.window, .int .i64 J.fuel, vK, .int .i64 cw, .int .i64 ct, .int .i64 co, .int .i64 ((s : Nat) : Int), .int .i64 att, .int .i64 ((splitM dg J s).2), .pointer (some ⟨cb, 0, none⟩), .slice none 0 0] 164] [blk ba [vS, .int .i64 J.parts, vM, vC, vR, .int .i64 J.chunk, .int .i64 J.window, .int .i64 J.fuel, vK, .int .i64 cw, .int .i64 ct, .int .i64 co] 28, blk bb [.int .i64 ((s : Nat) : Int)] 3, blk bc [.pointer (some ⟨b, 0, none⟩)] 44, rsl (kHd kPair) vS J.us, rsl kIns vM J.map, rsl kIns vC J.comb, rsl kIns vR J.red, rsl (kInt .i64) vK J.marks, gl] := H
   refine sc (mPairs_ok b vS vM vC vR vK J cw ct co s att cb (.func (.func 96) #[] #[.pointer (some ⟨ba, 0, none⟩), .pointer (some ⟨bb, 0, none⟩), .pointer (some ⟨bc, 0, none⟩)]) (.slice none 0 0) ((k : Nat) : Int) (by first | assumption | omega | exact hlen | exact hszs)) H (lA 1 rfl (fun _ h => h) l0) rfl rfl (e_fn kn106 rfl rfl) ?_
   rintro v3 _ w rfl H
   obtain ⟨A4, c5, rfl, hc6, hm7, hp8⟩ := H.fA 0 rfl
   refine s_val rfl rfl (r_lenL rfl un35 rfl) (s_1 rfl ?_)
   replace H : Hd _ _ _ [osl kPair (.slice A4 ((onlyM dg J s ((k : Nat) : Int)).length) c5) (onlyM dg J s ((k : Nat) : Int)), blk cb [.int .u32 1, .int .i32 0, .int .u32 0, .int .u32 1, .func (.func 96) #[] #[.pointer (some ⟨ba, 0, none⟩), .pointer (some ⟨bb, 0, none⟩), .pointer (some ⟨bc, 0, none⟩)], .string (packS (splitM dg J s).1)] 234, osl (kInt .i64) q (cntL dg J s att k), blk b [vS, .int .i64 J.parts, vM, vC, vR, .int .i64 J.chunk, .int .i64 J.window, .int .i64 J.fuel, vK, .int .i64 cw, .int .i64 ct, .int .i64 co, .int .i64 ((s : Nat) : Int), .int .i64 att, .int .i64 ((splitM dg J s).2), .pointer (some ⟨cb, 0, none⟩), .slice none 0 0] 164] [blk ba [vS, .int .i64 J.parts, vM, vC, vR, .int .i64 J.chunk, .int .i64 J.window, .int .i64 J.fuel, vK, .int .i64 cw, .int .i64 ct, .int .i64 co] 28, blk bb [.int .i64 ((s : Nat) : Int)] 3, blk bc [.pointer (some ⟨b, 0, none⟩)] 44, rsl (kHd kPair) vS J.us, rsl kIns vM J.map, rsl kIns vC J.comb, rsl kIns vR J.red, rsl (kInt .i64) vK J.marks, gl] := H
   refine sc (mSize_ok b vS vM vC vR vK J cw ct co s att cb (.slice none 0 0) (by first | assumption | omega | exact hlen | exact hszs)) H (lA 3 rfl (fun _ h => h) l0) rfl rfl (e_fn kn107 rfl rfl) ?_
   rintro _ _ w ⟨rfl, rfl⟩ H
   refine sc (cutChunks_ok (((onlyM dg J s ((k : Nat) : Int)).length : Nat) : Int) (cutSz J.chunk att) (by first | assumption | omega | exact hlen | exact hszs)) H l0 rfl rfl (e_fn kn105 rfl rfl) ?_
   rintro _ _ w ⟨rfl, rfl⟩ H
   refine s_bsl (parts := [(0, .tmp 28)]) (vs := [.int .i64 (chunksN (((onlyM dg J s ((k : Nat) : Int)).length : Nat) : Int) (cutSz J.chunk att))]) (cs := [.int .i64 (chunksN (((onlyM dg J s ((k : Nat) : Int)).length : Nat) : Int) (cutSz J.chunk att))]) rfl rfl rfl sl24 zr3 rfl (by decide) (by decide) rfl rfl H (fun b9 w H => ?_)
   replace H := H.p3
   refine s_appF (xs := cntL dg J s att k) (ys := [chunksN (((onlyM dg J s ((k : Nat) : Int)).length : Nat) : Int) (cutSz J.chunk att)]) rfl rfl rfl sl24 zr3 rfl (by decide) rfl rfl H (by first | omega | (simp only [List.length_append, List.length_cons, List.length_nil]; omega)) (fun F hA hR => blk_rsl (hA _ (List.mem_of_getElem? (i := 0) rfl)) rfl (by decide) (RepsR.flat_eq.2 rfl)) (fun v10 w H => (s_1 rfl (s_nil (q_blockN (q_then ?_)))))
   replace H : Hd _ _ _ [osl (kInt .i64) v10 ((cntL dg J s att k) ++ [chunksN (((onlyM dg J s ((k : Nat) : Int)).length : Nat) : Int) (cutSz J.chunk att)]), blk b9 [.int .i64 (chunksN (((onlyM dg J s ((k : Nat) : Int)).length : Nat) : Int) (cutSz J.chunk att))] 3, osl kPair (.slice A4 ((onlyM dg J s ((k : Nat) : Int)).length) c5) (onlyM dg J s ((k : Nat) : Int)), blk cb [.int .u32 1, .int .i32 0, .int .u32 0, .int .u32 1, .func (.func 96) #[] #[.pointer (some ⟨ba, 0, none⟩), .pointer (some ⟨bb, 0, none⟩), .pointer (some ⟨bc, 0, none⟩)], .string (packS (splitM dg J s).1)] 234, blk b [vS, .int .i64 J.parts, vM, vC, vR, .int .i64 J.chunk, .int .i64 J.window, .int .i64 J.fuel, vK, .int .i64 cw, .int .i64 ct, .int .i64 co, .int .i64 ((s : Nat) : Int), .int .i64 att, .int .i64 ((splitM dg J s).2), .pointer (some ⟨cb, 0, none⟩), .slice none 0 0] 164] [blk ba [vS, .int .i64 J.parts, vM, vC, vR, .int .i64 J.chunk, .int .i64 J.window, .int .i64 J.fuel, vK, .int .i64 cw, .int .i64 ct, .int .i64 co] 28, blk bb [.int .i64 ((s : Nat) : Int)] 3, blk bc [.pointer (some ⟨b, 0, none⟩)] 44, rsl (kHd kPair) vS J.us, rsl kIns vM J.map, rsl kIns vC J.comb, rsl kIns vR J.red, rsl (kInt .i64) vK J.marks, gl] := H
   refine c_reg (s_val rfl rfl (r_add (z := ((k + 1 : Nat) : Int)) rfl rfl rfl (by rw [w64 (by omega) (by omega)]; omega)) (s_1 rfl (s_nil ?_)))
   replace H := H.p4.p4.p2.k3.tellK (ys := cntL dg J s att (k + 1)) (by rw [cntL_succ])
   exact q_round (s := (k, undef)) (k + 1, v10) ⟨rfl, rfl, rfl, rfl, rfl, trivial⟩ ⟨H, by (try dsimp only); omega⟩ (by (try dsimp only); omega)
  ·refine c_exit (q_thenE (q_thenE (q_blockE (q_then (c_seq (c_reg (s_k 2 rfl (s_nil (q_then (c_ret (q_ret1 rfl rfl ?_)))))))))))
   have hkk : k = J.parts.toNat := by omega
   replace H := H.tellK (ys := countsM dg J s att) (by rw [counts_yes (Classical.not_not.1 h1), ← hkk])
   replace H : Hd _ _ _ [osl (kInt .i64) q (countsM dg J s att), blk cb [.int .u32 1, .int .i32 0, .int .u32 0, .int .u32 1, .func (.func 96) #[] #[.pointer (some ⟨ba, 0, none⟩), .pointer (some ⟨bb, 0, none⟩), .pointer (some ⟨bc, 0, none⟩)], .string (packS (splitM dg J s).1)] 234, blk b [vS, .int .i64 J.parts, vM, vC, vR, .int .i64 J.chunk, .int .i64 J.window, .int .i64 J.fuel, vK, .int .i64 cw, .int .i64 ct, .int .i64 co, .int .i64 ((s : Nat) : Int), .int .i64 att, .int .i64 ((splitM dg J s).2), .pointer (some ⟨cb, 0, none⟩), .slice none 0 0] 164] [blk ba [vS, .int .i64 J.parts, vM, vC, vR, .int .i64 J.chunk, .int .i64 J.window, .int .i64 J.fuel, vK, .int .i64 cw, .int .i64 ct, .int .i64 co] 28, blk bb [.int .i64 ((s : Nat) : Int)] 3, blk bc [.pointer (some ⟨b, 0, none⟩)] 44, rsl (kHd kPair) vS J.us, rsl kIns vM J.map, rsl kIns vC J.comb, rsl kIns vR J.red, rsl (kInt .i64) vK J.marks, gl] := H
   exact fin rfl H
set_option maxHeartbeats 1000000 in
theorem mLazyNew_ok (ba bb bc : Nat) :
    Cn Tryz.prog 95 [.func (.func 96) #[] #[.pointer (some ⟨ba, 0, none⟩), .pointer (some ⟨bb, 0, none⟩), .pointer (some ⟨bc, 0, none⟩)]] [] [] (fun v Bs => ∃ cb, v = .pointer (some ⟨cb, 0, none⟩) ∧ Bs = [blk cb [.int .u32 0, .int .i32 0, .int .u32 0, .int .u32 0, .func (.func 96) #[] #[.pointer (some ⟨ba, 0, none⟩), .pointer (some ⟨bb, 0, none⟩), .pointer (some ⟨bc, 0, none⟩)], .string ⟨#[]⟩] 234]) := by
 intro w0 F0 H
 refine enter Tryz.func95 rfl rfl (Nat.le_of_ble_eq_true rfl) (c_seq (c_reg (s_1 rfl (s_nil (q_then (c_seq (c_reg (s_1 rfl (s_val rfl rfl (r_bd (parts := [(2, .tmp 3)]) (vs := [.func (.func 96) #[] #[.pointer (some ⟨ba, 0, none⟩), .pointer (some ⟨bb, 0, none⟩), .pointer (some ⟨bc, 0, none⟩)]]) (cs := [.int .u32 0, .int .i32 0, .int .u32 0, .int .u32 0, .func (.func 96) #[] #[.pointer (some ⟨ba, 0, none⟩), .pointer (some ⟨bb, 0, none⟩), .pointer (some ⟨bc, 0, none⟩)], .string ⟨#[]⟩]) rfl bd234 rfl rfl) (s_box rfl rfl rfl rfl H (fun b1 w H => (s_1 rfl (s_nil (q_then ?_))))))))))))))
 replace H : Hd _ _ _ [blk b1 [.int .u32 0, .int .i32 0, .int .u32 0, .int .u32 0, .func (.func 96) #[] #[.pointer (some ⟨ba, 0, none⟩), .pointer (some ⟨bb, 0, none⟩), .pointer (some ⟨bc, 0, none⟩)], .string ⟨#[]⟩] 234] [] := H
 exact c_ret (q_ret1 rfl rfl (fin ⟨_, rfl, rfl⟩ H))

set_option maxHeartbeats 1000000 in
theorem wNew_ok (c : Int) (s : Int) (h : 0 ≤ c ∧ c ≤ 40 ∧ 1 ≤ s ∧ s ≤ 4) :
    Cn Tryz.prog 98 [.int .i64 c, .int .i64 s] [] [] (fun v Bs => ∃ b, v = .tuple #[.pointer (some ⟨b, 0, none⟩), .int .i64 0] ∧ Bs = [blk b [.int .i64 c, .int .i64 s, .int .i64 0, .int .i64 0] 239]) := by
 intro w0 F0 H
 refine enter Tryz.func98 rfl rfl (Nat.le_of_ble_eq_true rfl) (c_seq (c_reg (s_k 2 rfl (s_nil (q_then (c_seq (c_seq (c_reg (s_1 rfl (s_val rfl rfl (r_lt rfl rfl rfl) (s_1 rfl ?_)))))))))))
 refine s_dec (d := 8) rfl (fun h1 => ?_) (fun h1 => ?_)
 ·exact absurd h1 (by omega)
 ·refine s_1 rfl (s_val rfl rfl (r_gt rfl rfl rfl) (s_k 2 rfl ?_))
  refine s_dec (d := 12) rfl (fun h2 => ?_) (fun h2 => ?_)
  ·exact absurd h2 (by omega)
  ·refine s_1 rfl (s_val rfl rfl (r_lt rfl rfl rfl) (s_k 2 rfl ?_))
   refine s_dec (d := 16) rfl (fun h3 => ?_) (fun h3 => ?_)
   ·exact absurd h3 (by omega)
   ·refine s_1 rfl (s_val rfl rfl (r_gt rfl rfl rfl) (s_1 rfl (s_nil (q_then ?_))))
    refine c_dec rfl (fun h4 => ?_) (fun h4 => ?_)
    ·exact absurd h4 (by omega)
    ·refine c_skip (q_then (c_seq (c_reg (s_k 2 rfl (s_val rfl rfl (r_bd (parts := [(0, .tmp 20), (1, .tmp 21)]) (vs := [.int .i64 c, .int .i64 s]) (cs := [.int .i64 c, .int .i64 s, .int .i64 0, .int .i64 0]) rfl bd239 rfl rfl) (s_box rfl rfl rfl rfl H (fun b5 w H => (s_k 2 rfl (s_nil (q_then ?_))))))))))
     replace H : Hd _ _ _ [blk b5 [.int .i64 c, .int .i64 s, .int .i64 0, .int .i64 0] 239] [] := H
     exact c_ret (q_ret2 rfl rfl rfl (fin ⟨_, rfl, rfl⟩ H))
set_option maxHeartbeats 1000000 in
theorem wAck_ok (b : Nat) (c : Int) (s : Int) (e : Int) (x : Int) (ep : Int) (n : Int) :
    Cn Tryz.prog 115 [.pointer (some ⟨b, 0, none⟩), .int .i64 ep, .int .i64 n] [blk b [.int .i64 c, .int .i64 s, .int .i64 e, .int .i64 x] 239] [] (fun v Bs => v = .bool (ackB c e x ep n) ∧ Bs = [blk b [.int .i64 c, .int .i64 s, .int .i64 (ackE c e x ep n), .int .i64 (ackX c e x ep n)] 239]) := by
 intro w0 F0 H
 refine enter Tryz.func115 rfl rfl (Nat.le_of_ble_eq_true rfl) (c_seq (c_reg (s_1 rfl (s_nil (q_then (c_seq (c_seq (c_reg (s_1 rfl (s_val rfl rfl (r_peq rfl un168 rfl rfl) (s_k 3 rfl (s_val rfl rfl (r_nilP rfl rfl) (s_val rfl rfl (r_fa rfl fo239_2 rfl) (s_val rfl rfl (r_ld rfl ty3 rfl (H.cellI 0 rfl rfl)) (s_val rfl rfl (r_max (z := max e 1) rfl rfl rfl rfl) (s_val rfl rfl (r_lt rfl rfl rfl) (s_1 rfl (s_nil (q_then ?_)))))))))))))))))))
 refine c_dec rfl (fun h1 => ?_) (fun h1 => ?_)
 ·refine c_seq (c_reg (s_1 rfl (s_nil (q_then (c_ret (q_thenR (q_ret1 rfl rfl ?_)))))))
  obtain ⟨a1, a2, a3⟩ := ack_no (c := c) (e := e) (x := x) (ep := ep) (n := n) (by unfold ackN; omega)
  exact fin ⟨by rw [a1] <;> rfl, by rw [a2, a3]; first | done | rfl⟩ H
 ·refine c_skip (q_then (c_seq (c_reg (s_1 rfl (s_val rfl rfl (r_max (z := max n 0) rfl rfl rfl rfl) (s_1 rfl (s_val rfl rfl (r_nilP rfl rfl) (s_val rfl rfl (r_fa rfl fo239_0 rfl) (s_val rfl rfl (r_ld rfl ty3 rfl (H.cellI 0 rfl rfl)) (s_val rfl rfl (r_min (z := min (max n 0) c) rfl rfl rfl rfl) (s_1 rfl (s_nil (q_then (c_seq (c_seq (c_reg (s_k 2 rfl (s_val rfl rfl (r_nilP rfl rfl) (s_val rfl rfl (r_fa rfl fo239_2 rfl) (s_val rfl rfl (r_ld rfl ty3 rfl (H.cellI 0 rfl rfl)) (s_val rfl rfl (r_eq rfl rfl rfl) (s_1 rfl ?_))))))))))))))))))))))
  refine s_dec (d := 31) rfl (fun h2 => ?_) (fun h2 => ?_)
  ·refine s_k 2 rfl (s_val rfl rfl (r_nilP rfl rfl) (s_val rfl rfl (r_fa rfl fo239_3 rfl) (s_val rfl rfl (r_ld rfl ty3 rfl (H.cellI 0 rfl rfl)) (s_val rfl rfl (r_le rfl rfl rfl) (s_1 rfl (s_nil (q_then ?_)))))))
   refine c_dec rfl (fun h3 => ?_) (fun h3 => ?_)
   ·refine c_seq (c_reg (s_1 rfl (s_nil (q_then (c_ret (q_thenR (q_ret1 rfl rfl ?_)))))))
    obtain ⟨a1, a2, a3⟩ := ack_no (c := c) (e := e) (x := x) (ep := ep) (n := n) (by unfold ackN; omega)
    exact fin ⟨by rw [a1] <;> rfl, by rw [a2, a3]; first | done | rfl⟩ H
   ·refine c_skip (q_then (c_seq (c_reg (s_k 4 rfl (s_val rfl rfl (r_nilP rfl rfl) (s_val rfl rfl (r_fa rfl fo239_2 rfl) (s_st rfl rfl rfl ty3 rfl rfl H rfl (Nat.le_of_ble_eq_true rfl) (fun u hu => by simp [Value.cells] at hu; subst hu; rfl) (fun w H => ?_))))))))
    replace H : Hd _ _ _ [blk b [.int .i64 c, .int .i64 s, .int .i64 ep, .int .i64 x] 239] [] := H
    refine s_val rfl rfl (r_nilP rfl rfl) (s_val rfl rfl (r_fa rfl fo239_3 rfl) (s_st rfl rfl rfl ty3 rfl rfl H rfl (Nat.le_of_ble_eq_true rfl) (fun u hu => by simp [Value.cells] at hu; subst hu; rfl) (fun w H => ?_)))
    replace H := H.h1 (A := blk b [.int .i64 c, .int .i64 s, .int .i64 ep, .int .i64 (min (max n 0) c)] 239)
    refine s_nil (q_then (c_seq (c_reg (s_1 rfl (s_nil (q_then (c_ret (q_ret1 rfl rfl ?_))))))))
    obtain ⟨a1, a2, a3⟩ := ack_yes (c := c) (e := e) (x := x) (ep := ep) (n := n) (by unfold ackN; omega)
    exact fin ⟨by rw [a1] <;> rfl, by rw [a2, a3]; first | done | rfl⟩ H
  ·refine s_k 7 rfl (s_nil (q_then (c_no rfl (c_skip (q_then (c_seq (c_reg (s_k 4 rfl (s_val rfl rfl (r_nilP rfl rfl) (s_val rfl rfl (r_fa rfl fo239_2 rfl) (s_st rfl rfl rfl ty3 rfl rfl H rfl (Nat.le_of_ble_eq_true rfl) (fun u hu => by simp [Value.cells] at hu; subst hu; rfl) (fun w H => ?_))))))))))))
   replace H : Hd _ _ _ [blk b [.int .i64 c, .int .i64 s, .int .i64 ep, .int .i64 x] 239] [] := H
   refine s_val rfl rfl (r_nilP rfl rfl) (s_val rfl rfl (r_fa rfl fo239_3 rfl) (s_st rfl rfl rfl ty3 rfl rfl H rfl (Nat.le_of_ble_eq_true rfl) (fun u hu => by simp [Value.cells] at hu; subst hu; rfl) (fun w H => ?_)))
   replace H := H.h1 (A := blk b [.int .i64 c, .int .i64 s, .int .i64 ep, .int .i64 (min (max n 0) c)] 239)
   refine s_nil (q_then (c_seq (c_reg (s_1 rfl (s_nil (q_then (c_ret (q_ret1 rfl rfl ?_))))))))
   obtain ⟨a1, a2, a3⟩ := ack_yes (c := c) (e := e) (x := x) (ep := ep) (n := n) (by unfold ackN; omega)
   exact fin ⟨by rw [a1] <;> rfl, by rw [a2, a3]; first | done | rfl⟩ H
set_option maxHeartbeats 1000000 in
theorem wOpen_ok (b : Nat) (c : Int) (s : Int) (e : Int) (x : Int) (h : 0 ≤ c ∧ c ≤ 40 ∧ 1 ≤ s ∧ s ≤ 4) (hx : 0 ≤ x ∧ x ≤ c) :
    Cn Tryz.prog 108 [.pointer (some ⟨b, 0, none⟩)] [] [blk b [.int .i64 c, .int .i64 s, .int .i64 e, .int .i64 x] 239] (fun v Bs => Bs = [osl (kInt .i64) v (openL c s x)]) := by
 intro w0 F0 H
 refine enter Tryz.func108 rfl rfl (Nat.le_of_ble_eq_true rfl) (c_seq (c_reg (s_1 rfl (s_nil (q_then (c_seq (c_seq (c_reg (s_1 rfl (s_val rfl rfl (r_peq rfl un168 rfl rfl) (s_nil (q_then (c_no rfl (c_skip (q_then (c_seq (c_reg (s_1 rfl (s_nil (q_then (c_seq (c_seq (c_draw mo (by kernel_rfl) H (u_1 rfl (u_val rfl rfl (fun w H => r_nilP rfl rfl) (u_val rfl rfl (fun w H => r_fa rfl fo239_1 rfl) (u_val rfl rfl (fun w H => r_ld rfl ty3 rfl (H.cellRI 0 rfl rfl)) (u_1 rfl (u_val rfl rfl (fun w H => r_nilP rfl rfl) (u_val rfl rfl (fun w H => r_fa rfl fo239_0 rfl) (u_val rfl rfl (fun w H => r_ld rfl ty3 rfl (H.cellRI 0 rfl rfl)) (u_1 rfl (u_val rfl rfl (fun w H => r_nilP rfl rfl) (u_val rfl rfl (fun w H => r_fa rfl fo239_3 rfl) (u_val rfl rfl (fun w H => r_ld rfl ty3 rfl (H.cellRI 0 rfl rfl)) (u_val rfl rfl (fun w H => r_sub (z := c - x) rfl rfl rfl (w64 (by omega) (by omega))) ?_))))))))))))))))))))))))))))))))))))
 refine u_val rfl rfl (fun w H => r_min (z := min s (c - x)) rfl rfl rfl rfl) (u_1 rfl (u_end (fun w H => (q_then (c_block ?_)))))
 replace H := H.newnil (kInt .i64)
 refine c_loop (σ := Nat × Value) (fun (k, l) => [(0, .pointer (some ⟨b, 0, none⟩)), (2, .slice none 0 0), (3, l), (20, .int .i64 (min s (c - x))), (21, .int .i64 ((k : Nat) : Int))]) (fun (k, l) w => (Hd w0 F0 w [osl (kInt .i64) l (upL x k)] [blk b [.int .i64 c, .int .i64 s, .int .i64 e, .int .i64 x] 239]) ∧ (k ≤ (min s (c - x)).toNat)) (fun (k, l) => (min s (c - x)).toNat - k) (0, .slice none 0 0) ⟨rfl, rfl, rfl, rfl, rfl, trivial⟩ ⟨H, by omega⟩ ?_
 rintro ⟨k, l⟩ w ⟨H, hk⟩
 refine c_seq (c_reg (s_val rfl rfl (r_lt rfl rfl rfl) (s_nil (q_then (c_seq ?_)))))
 refine c_dec rfl (fun h1 => ?_) (fun h1 => ?_)
 ·refine c_skip (q_then (c_seq (c_block (c_seq (c_reg (s_k 2 rfl (s_nil (q_then (c_reg (s_k 2 rfl (s_val rfl rfl (r_nilP rfl rfl) (s_val rfl rfl (r_fa rfl fo239_3 rfl) (s_val rfl rfl (r_ld rfl ty3 rfl (H.cellRI 0 rfl rfl)) (s_1 rfl (s_val rfl rfl (r_add (z := x + ((k : Nat) : Int)) rfl rfl rfl (w64 (by omega) (by omega))) (s_bsl (parts := [(0, .tmp 30)]) (vs := [.int .i64 (x + ((k : Nat) : Int))]) (cs := [.int .i64 (x + ((k : Nat) : Int))]) rfl rfl rfl sl24 zr3 rfl (by decide) (by decide) rfl rfl H (fun b2 w H => ?_)))))))))))))))))
  replace H := H.p1
  refine s_appF (xs := upL x k) (ys := [x + ((k : Nat) : Int)]) rfl rfl rfl sl24 zr3 rfl (by decide) rfl rfl H (by simp only [upL_len, List.length_cons, List.length_nil]; omega) (fun F hA hR => blk_rsl (hA _ (List.mem_of_getElem? (i := 0) rfl)) rfl (by decide) (RepsR.flat_eq.2 rfl)) (fun v3 w H => (s_1 rfl (s_nil (q_blockN (q_then ?_)))))
  replace H : Hd _ _ _ [osl (kInt .i64) v3 ((upL x k) ++ [x + ((k : Nat) : Int)]), blk b2 [.int .i64 (x + ((k : Nat) : Int))] 3] [blk b [.int .i64 c, .int .i64 s, .int .i64 e, .int .i64 x] 239] := H
  refine c_reg (s_val rfl rfl (r_add (z := ((k + 1 : Nat) : Int)) rfl rfl rfl (by rw [w64 (by omega) (by omega)]; omega)) (s_1 rfl (s_nil ?_)))
  rw [← upL_succ] at H
  replace H := H.k1
  exact q_round (s := (k, undef)) (k + 1, v3) ⟨rfl, rfl, rfl, rfl, rfl, trivial⟩ ⟨H, by omega⟩ (by (try dsimp only); omega)
 ·refine c_exit (q_thenE (q_thenE (q_blockE (q_then (c_seq (c_reg (s_k 2 rfl (s_nil (q_then (c_ret (q_ret1 rfl rfl ?_)))))))))))
  obtain rfl : k = (min s (c - x)).toNat := by omega
  exact fin rfl H
set_option maxHeartbeats 1000000 in
theorem wDone_ok (b : Nat) (c : Int) (s : Int) (e : Int) (x : Int) :
    Cn Tryz.prog 111 [.pointer (some ⟨b, 0, none⟩)] [] [blk b [.int .i64 c, .int .i64 s, .int .i64 e, .int .i64 x] 239] (fun v Bs => v = .bool (decide (x = c)) ∧ Bs = []) := by
 intro w0 F0 H
 exact enter Tryz.func111 rfl rfl (Nat.le_of_ble_eq_true rfl) (c_seq (c_reg (s_1 rfl (s_nil (q_then (c_seq (c_draw mo (by kernel_rfl) H (u_1 rfl (u_val rfl rfl (fun w H => r_pne rfl un168 rfl rfl) (u_k 2 rfl (u_val rfl rfl (fun w H => r_nilP rfl rfl) (u_val rfl rfl (fun w H => r_fa rfl fo239_3 rfl) (u_val rfl rfl (fun w H => r_ld rfl ty3 rfl (H.cellRI 0 rfl rfl)) (u_1 rfl (u_val rfl rfl (fun w H => r_nilP rfl rfl) (u_val rfl rfl (fun w H => r_fa rfl fo239_0 rfl) (u_val rfl rfl (fun w H => r_ld rfl ty3 rfl (H.cellRI 0 rfl rfl)) (u_val rfl rfl (fun w H => r_eq rfl rfl rfl) (u_k 2 rfl (u_end (fun w H => (q_then (c_ret (q_ret1 rfl rfl (fin ⟨rfl, rfl⟩ H)))))))))))))))))))))))))

def mprI (b : Nat) (J : Job) (M : Mpr) : SP := ex fun vS : Value => ex fun vM : Value => ex fun vC : Value => ex fun vR : Value => ex fun vK : Value => ex fun J2 : Job => ex fun cw : Int => ex fun ct : Int => ex fun co : Int => ex fun cb : Nat => ex fun fv : Value => ex fun vw : Value => ex fun ws : List (Nat × WinD) => star [pure_ ((SameJ J2 J) ∧ (ws.map Prod.snd = M.ws)), blk b [vS, .int .i64 J2.parts, vM, vC, vR, .int .i64 J2.chunk, .int .i64 J2.window, .int .i64 J2.fuel, vK, .int .i64 cw, .int .i64 ct, .int .i64 co, .int .i64 ((M.sp : Nat) : Int), .int .i64 M.att, .int .i64 ((splitM dg J2 M.sp).2), .pointer (some ⟨cb, 0, none⟩), vw] 164, blk cb [.int .u32 1, .int .i32 0, .int .u32 0, .int .u32 1, fv, .string (packS (splitM dg J2 M.sp).1)] 234, osl (kHd kPair) vS J2.us, osl kIns vM J2.map, osl kIns vC J2.comb, osl kIns vR J2.red, osl (kInt .i64) vK J2.marks, osl kPtr vw (ws.map Prod.fst), bigS (winI 239) ws]
theorem mprI_open (b : Nat) (J : Job) (M : Mpr) {w0 w : World} {F0 : Foot} {As Rs : List SP} (H : Hd w0 F0 w (mprI b J M :: As) Rs) : ∃ vS : Value, ∃ vM : Value, ∃ vC : Value, ∃ vR : Value, ∃ vK : Value, ∃ J2 : Job, ∃ cw : Int, ∃ ct : Int, ∃ co : Int, ∃ cb : Nat, ∃ fv : Value, ∃ vw : Value, ∃ ws : List (Nat × WinD), ((SameJ J2 J) ∧ (ws.map Prod.snd = M.ws)) ∧ Hd w0 F0 w ([blk b [vS, .int .i64 J2.parts, vM, vC, vR, .int .i64 J2.chunk, .int .i64 J2.window, .int .i64 J2.fuel, vK, .int .i64 cw, .int .i64 ct, .int .i64 co, .int .i64 ((M.sp : Nat) : Int), .int .i64 M.att, .int .i64 ((splitM dg J2 M.sp).2), .pointer (some ⟨cb, 0, none⟩), vw] 164, blk cb [.int .u32 1, .int .i32 0, .int .u32 0, .int .u32 1, fv, .string (packS (splitM dg J2 M.sp).1)] 234, osl (kHd kPair) vS J2.us, osl kIns vM J2.map, osl kIns vC J2.comb, osl kIns vR J2.red, osl (kInt .i64) vK J2.marks, osl kPtr vw (ws.map Prod.fst), bigS (winI 239) ws] ++ As) Rs := by
 obtain ⟨vS, H⟩ := Hd.exA H
 obtain ⟨vM, H⟩ := Hd.exA H
 obtain ⟨vC, H⟩ := Hd.exA H
 obtain ⟨vR, H⟩ := Hd.exA H
 obtain ⟨vK, H⟩ := Hd.exA H
 obtain ⟨J2, H⟩ := Hd.exA H
 obtain ⟨cw, H⟩ := Hd.exA H
 obtain ⟨ct, H⟩ := Hd.exA H
 obtain ⟨co, H⟩ := Hd.exA H
 obtain ⟨cb, H⟩ := Hd.exA H
 obtain ⟨fv, H⟩ := Hd.exA H
 obtain ⟨vw, H⟩ := Hd.exA H
 obtain ⟨ws, H⟩ := Hd.exA H
 exact ⟨vS, vM, vC, vR, vK, J2, cw, ct, co, cb, fv, vw, ws, H.stA.puA⟩
theorem mprI_shut (b : Nat) (J : Job) (M : Mpr) (vS : Value) (vM : Value) (vC : Value) (vR : Value) (vK : Value) (J2 : Job) (cw : Int) (ct : Int) (co : Int) (cb : Nat) (fv : Value) (vw : Value) (ws : List (Nat × WinD)) {w0 w : World} {F0 : Foot} {As Rs : List SP} (hp : (SameJ J2 J) ∧ (ws.map Prod.snd = M.ws)) (H : Hd w0 F0 w ([blk b [vS, .int .i64 J2.parts, vM, vC, vR, .int .i64 J2.chunk, .int .i64 J2.window, .int .i64 J2.fuel, vK, .int .i64 cw, .int .i64 ct, .int .i64 co, .int .i64 ((M.sp : Nat) : Int), .int .i64 M.att, .int .i64 ((splitM dg J2 M.sp).2), .pointer (some ⟨cb, 0, none⟩), vw] 164, blk cb [.int .u32 1, .int .i32 0, .int .u32 0, .int .u32 1, fv, .string (packS (splitM dg J2 M.sp).1)] 234, osl (kHd kPair) vS J2.us, osl kIns vM J2.map, osl kIns vC J2.comb, osl kIns vR J2.red, osl (kInt .i64) vK J2.marks, osl kPtr vw (ws.map Prod.fst), bigS (winI 239) ws] ++ As) Rs) : Hd w0 F0 w (mprI b J M :: As) Rs := by
 have H1 := (show Hd w0 F0 w ([pure_ ((SameJ J2 J) ∧ (ws.map Prod.snd = M.ws)), blk b [vS, .int .i64 J2.parts, vM, vC, vR, .int .i64 J2.chunk, .int .i64 J2.window, .int .i64 J2.fuel, vK, .int .i64 cw, .int .i64 ct, .int .i64 co, .int .i64 ((M.sp : Nat) : Int), .int .i64 M.att, .int .i64 ((splitM dg J2 M.sp).2), .pointer (some ⟨cb, 0, none⟩), vw] 164, blk cb [.int .u32 1, .int .i32 0, .int .u32 0, .int .u32 1, fv, .string (packS (splitM dg J2 M.sp).1)] 234, osl (kHd kPair) vS J2.us, osl kIns vM J2.map, osl kIns vC J2.comb, osl kIns vR J2.red, osl (kInt .i64) vK J2.marks, osl kPtr vw (ws.map Prod.fst), bigS (winI 239) ws] ++ As) Rs from H.puI hp).stI
 replace H1 := Hd.exI (A := fun ws : List (Nat × WinD) => star [pure_ ((SameJ J2 J) ∧ (ws.map Prod.snd = M.ws)), blk b [vS, .int .i64 J2.parts, vM, vC, vR, .int .i64 J2.chunk, .int .i64 J2.window, .int .i64 J2.fuel, vK, .int .i64 cw, .int .i64 ct, .int .i64 co, .int .i64 ((M.sp : Nat) : Int), .int .i64 M.att, .int .i64 ((splitM dg J2 M.sp).2), .pointer (some ⟨cb, 0, none⟩), vw] 164, blk cb [.int .u32 1, .int .i32 0, .int .u32 0, .int .u32 1, fv, .string (packS (splitM dg J2 M.sp).1)] 234, osl (kHd kPair) vS J2.us, osl kIns vM J2.map, osl kIns vC J2.comb, osl kIns vR J2.red, osl (kInt .i64) vK J2.marks, osl kPtr vw (ws.map Prod.fst), bigS (winI 239) ws]) ws H1
 replace H1 := Hd.exI (A := fun vw : Value => ex fun ws : List (Nat × WinD) => star [pure_ ((SameJ J2 J) ∧ (ws.map Prod.snd = M.ws)), blk b [vS, .int .i64 J2.parts, vM, vC, vR, .int .i64 J2.chunk, .int .i64 J2.window, .int .i64 J2.fuel, vK, .int .i64 cw, .int .i64 ct, .int .i64 co, .int .i64 ((M.sp : Nat) : Int), .int .i64 M.att, .int .i64 ((splitM dg J2 M.sp).2), .pointer (some ⟨cb, 0, none⟩), vw] 164, blk cb [.int .u32 1, .int .i32 0, .int .u32 0, .int .u32 1, fv, .string (packS (splitM dg J2 M.sp).1)] 234, osl (kHd kPair) vS J2.us, osl kIns vM J2.map, osl kIns vC J2.comb, osl kIns vR J2.red, osl (kInt .i64) vK J2.marks, osl kPtr vw (ws.map Prod.fst), bigS (winI 239) ws]) vw H1
 replace H1 := Hd.exI (A := fun fv : Value => ex fun vw : Value => ex fun ws : List (Nat × WinD) => star [pure_ ((SameJ J2 J) ∧ (ws.map Prod.snd = M.ws)), blk b [vS, .int .i64 J2.parts, vM, vC, vR, .int .i64 J2.chunk, .int .i64 J2.window, .int .i64 J2.fuel, vK, .int .i64 cw, .int .i64 ct, .int .i64 co, .int .i64 ((M.sp : Nat) : Int), .int .i64 M.att, .int .i64 ((splitM dg J2 M.sp).2), .pointer (some ⟨cb, 0, none⟩), vw] 164, blk cb [.int .u32 1, .int .i32 0, .int .u32 0, .int .u32 1, fv, .string (packS (splitM dg J2 M.sp).1)] 234, osl (kHd kPair) vS J2.us, osl kIns vM J2.map, osl kIns vC J2.comb, osl kIns vR J2.red, osl (kInt .i64) vK J2.marks, osl kPtr vw (ws.map Prod.fst), bigS (winI 239) ws]) fv H1
 replace H1 := Hd.exI (A := fun cb : Nat => ex fun fv : Value => ex fun vw : Value => ex fun ws : List (Nat × WinD) => star [pure_ ((SameJ J2 J) ∧ (ws.map Prod.snd = M.ws)), blk b [vS, .int .i64 J2.parts, vM, vC, vR, .int .i64 J2.chunk, .int .i64 J2.window, .int .i64 J2.fuel, vK, .int .i64 cw, .int .i64 ct, .int .i64 co, .int .i64 ((M.sp : Nat) : Int), .int .i64 M.att, .int .i64 ((splitM dg J2 M.sp).2), .pointer (some ⟨cb, 0, none⟩), vw] 164, blk cb [.int .u32 1, .int .i32 0, .int .u32 0, .int .u32 1, fv, .string (packS (splitM dg J2 M.sp).1)] 234, osl (kHd kPair) vS J2.us, osl kIns vM J2.map, osl kIns vC J2.comb, osl kIns vR J2.red, osl (kInt .i64) vK J2.marks, osl kPtr vw (ws.map Prod.fst), bigS (winI 239) ws]) cb H1
 replace H1 := Hd.exI (A := fun co : Int => ex fun cb : Nat => ex fun fv : Value => ex fun vw : Value => ex fun ws : List (Nat × WinD) => star [pure_ ((SameJ J2 J) ∧ (ws.map Prod.snd = M.ws)), blk b [vS, .int .i64 J2.parts, vM, vC, vR, .int .i64 J2.chunk, .int .i64 J2.window, .int .i64 J2.fuel, vK, .int .i64 cw, .int .i64 ct, .int .i64 co, .int .i64 ((M.sp : Nat) : Int), .int .i64 M.att, .int .i64 ((splitM dg J2 M.sp).2), .pointer (some ⟨cb, 0, none⟩), vw] 164, blk cb [.int .u32 1, .int .i32 0, .int .u32 0, .int .u32 1, fv, .string (packS (splitM dg J2 M.sp).1)] 234, osl (kHd kPair) vS J2.us, osl kIns vM J2.map, osl kIns vC J2.comb, osl kIns vR J2.red, osl (kInt .i64) vK J2.marks, osl kPtr vw (ws.map Prod.fst), bigS (winI 239) ws]) co H1
 replace H1 := Hd.exI (A := fun ct : Int => ex fun co : Int => ex fun cb : Nat => ex fun fv : Value => ex fun vw : Value => ex fun ws : List (Nat × WinD) => star [pure_ ((SameJ J2 J) ∧ (ws.map Prod.snd = M.ws)), blk b [vS, .int .i64 J2.parts, vM, vC, vR, .int .i64 J2.chunk, .int .i64 J2.window, .int .i64 J2.fuel, vK, .int .i64 cw, .int .i64 ct, .int .i64 co, .int .i64 ((M.sp : Nat) : Int), .int .i64 M.att, .int .i64 ((splitM dg J2 M.sp).2), .pointer (some ⟨cb, 0, none⟩), vw] 164, blk cb [.int .u32 1, .int .i32 0, .int .u32 0, .int .u32 1, fv, .string (packS (splitM dg J2 M.sp).1)] 234, osl (kHd kPair) vS J2.us, osl kIns vM J2.map, osl kIns vC J2.comb, osl kIns vR J2.red, osl (kInt .i64) vK J2.marks, osl kPtr vw (ws.map Prod.fst), bigS (winI 239) ws]) ct H1
 replace H1 := Hd.exI (A := fun cw : Int => ex fun ct : Int => ex fun co : Int => ex fun cb : Nat => ex fun fv : Value => ex fun vw : Value => ex fun ws : List (Nat × WinD) => star [pure_ ((SameJ J2 J) ∧ (ws.map Prod.snd = M.ws)), blk b [vS, .int .i64 J2.parts, vM, vC, vR, .int .i64 J2.chunk, .int .i64 J2.window, .int .i64 J2.fuel, vK, .int .i64 cw, .int .i64 ct, .int .i64 co, .int .i64 ((M.sp : Nat) : Int), .int .i64 M.att, .int .i64 ((splitM dg J2 M.sp).2), .pointer (some ⟨cb, 0, none⟩), vw] 164, blk cb [.int .u32 1, .int .i32 0, .int .u32 0, .int .u32 1, fv, .string (packS (splitM dg J2 M.sp).1)] 234, osl (kHd kPair) vS J2.us, osl kIns vM J2.map, osl kIns vC J2.comb, osl kIns vR J2.red, osl (kInt .i64) vK J2.marks, osl kPtr vw (ws.map Prod.fst), bigS (winI 239) ws]) cw H1
 replace H1 := Hd.exI (A := fun J2 : Job => ex fun cw : Int => ex fun ct : Int => ex fun co : Int => ex fun cb : Nat => ex fun fv : Value => ex fun vw : Value => ex fun ws : List (Nat × WinD) => star [pure_ ((SameJ J2 J) ∧ (ws.map Prod.snd = M.ws)), blk b [vS, .int .i64 J2.parts, vM, vC, vR, .int .i64 J2.chunk, .int .i64 J2.window, .int .i64 J2.fuel, vK, .int .i64 cw, .int .i64 ct, .int .i64 co, .int .i64 ((M.sp : Nat) : Int), .int .i64 M.att, .int .i64 ((splitM dg J2 M.sp).2), .pointer (some ⟨cb, 0, none⟩), vw] 164, blk cb [.int .u32 1, .int .i32 0, .int .u32 0, .int .u32 1, fv, .string (packS (splitM dg J2 M.sp).1)] 234, osl (kHd kPair) vS J2.us, osl kIns vM J2.map, osl kIns vC J2.comb, osl kIns vR J2.red, osl (kInt .i64) vK J2.marks, osl kPtr vw (ws.map Prod.fst), bigS (winI 239) ws]) J2 H1
 replace H1 := Hd.exI (A := fun vK : Value => ex fun J2 : Job => ex fun cw : Int => ex fun ct : Int => ex fun co : Int => ex fun cb : Nat => ex fun fv : Value => ex fun vw : Value => ex fun ws : List (Nat × WinD) => star [pure_ ((SameJ J2 J) ∧ (ws.map Prod.snd = M.ws)), blk b [vS, .int .i64 J2.parts, vM, vC, vR, .int .i64 J2.chunk, .int .i64 J2.window, .int .i64 J2.fuel, vK, .int .i64 cw, .int .i64 ct, .int .i64 co, .int .i64 ((M.sp : Nat) : Int), .int .i64 M.att, .int .i64 ((splitM dg J2 M.sp).2), .pointer (some ⟨cb, 0, none⟩), vw] 164, blk cb [.int .u32 1, .int .i32 0, .int .u32 0, .int .u32 1, fv, .string (packS (splitM dg J2 M.sp).1)] 234, osl (kHd kPair) vS J2.us, osl kIns vM J2.map, osl kIns vC J2.comb, osl kIns vR J2.red, osl (kInt .i64) vK J2.marks, osl kPtr vw (ws.map Prod.fst), bigS (winI 239) ws]) vK H1
 replace H1 := Hd.exI (A := fun vR : Value => ex fun vK : Value => ex fun J2 : Job => ex fun cw : Int => ex fun ct : Int => ex fun co : Int => ex fun cb : Nat => ex fun fv : Value => ex fun vw : Value => ex fun ws : List (Nat × WinD) => star [pure_ ((SameJ J2 J) ∧ (ws.map Prod.snd = M.ws)), blk b [vS, .int .i64 J2.parts, vM, vC, vR, .int .i64 J2.chunk, .int .i64 J2.window, .int .i64 J2.fuel, vK, .int .i64 cw, .int .i64 ct, .int .i64 co, .int .i64 ((M.sp : Nat) : Int), .int .i64 M.att, .int .i64 ((splitM dg J2 M.sp).2), .pointer (some ⟨cb, 0, none⟩), vw] 164, blk cb [.int .u32 1, .int .i32 0, .int .u32 0, .int .u32 1, fv, .string (packS (splitM dg J2 M.sp).1)] 234, osl (kHd kPair) vS J2.us, osl kIns vM J2.map, osl kIns vC J2.comb, osl kIns vR J2.red, osl (kInt .i64) vK J2.marks, osl kPtr vw (ws.map Prod.fst), bigS (winI 239) ws]) vR H1
 replace H1 := Hd.exI (A := fun vC : Value => ex fun vR : Value => ex fun vK : Value => ex fun J2 : Job => ex fun cw : Int => ex fun ct : Int => ex fun co : Int => ex fun cb : Nat => ex fun fv : Value => ex fun vw : Value => ex fun ws : List (Nat × WinD) => star [pure_ ((SameJ J2 J) ∧ (ws.map Prod.snd = M.ws)), blk b [vS, .int .i64 J2.parts, vM, vC, vR, .int .i64 J2.chunk, .int .i64 J2.window, .int .i64 J2.fuel, vK, .int .i64 cw, .int .i64 ct, .int .i64 co, .int .i64 ((M.sp : Nat) : Int), .int .i64 M.att, .int .i64 ((splitM dg J2 M.sp).2), .pointer (some ⟨cb, 0, none⟩), vw] 164, blk cb [.int .u32 1, .int .i32 0, .int .u32 0, .int .u32 1, fv, .string (packS (splitM dg J2 M.sp).1)] 234, osl (kHd kPair) vS J2.us, osl kIns vM J2.map, osl kIns vC J2.comb, osl kIns vR J2.red, osl (kInt .i64) vK J2.marks, osl kPtr vw (ws.map Prod.fst), bigS (winI 239) ws]) vC H1
 replace H1 := Hd.exI (A := fun vM : Value => ex fun vC : Value => ex fun vR : Value => ex fun vK : Value => ex fun J2 : Job => ex fun cw : Int => ex fun ct : Int => ex fun co : Int => ex fun cb : Nat => ex fun fv : Value => ex fun vw : Value => ex fun ws : List (Nat × WinD) => star [pure_ ((SameJ J2 J) ∧ (ws.map Prod.snd = M.ws)), blk b [vS, .int .i64 J2.parts, vM, vC, vR, .int .i64 J2.chunk, .int .i64 J2.window, .int .i64 J2.fuel, vK, .int .i64 cw, .int .i64 ct, .int .i64 co, .int .i64 ((M.sp : Nat) : Int), .int .i64 M.att, .int .i64 ((splitM dg J2 M.sp).2), .pointer (some ⟨cb, 0, none⟩), vw] 164, blk cb [.int .u32 1, .int .i32 0, .int .u32 0, .int .u32 1, fv, .string (packS (splitM dg J2 M.sp).1)] 234, osl (kHd kPair) vS J2.us, osl kIns vM J2.map, osl kIns vC J2.comb, osl kIns vR J2.red, osl (kInt .i64) vK J2.marks, osl kPtr vw (ws.map Prod.fst), bigS (winI 239) ws]) vM H1
 replace H1 := Hd.exI (A := fun vS : Value => ex fun vM : Value => ex fun vC : Value => ex fun vR : Value => ex fun vK : Value => ex fun J2 : Job => ex fun cw : Int => ex fun ct : Int => ex fun co : Int => ex fun cb : Nat => ex fun fv : Value => ex fun vw : Value => ex fun ws : List (Nat × WinD) => star [pure_ ((SameJ J2 J) ∧ (ws.map Prod.snd = M.ws)), blk b [vS, .int .i64 J2.parts, vM, vC, vR, .int .i64 J2.chunk, .int .i64 J2.window, .int .i64 J2.fuel, vK, .int .i64 cw, .int .i64 ct, .int .i64 co, .int .i64 ((M.sp : Nat) : Int), .int .i64 M.att, .int .i64 ((splitM dg J2 M.sp).2), .pointer (some ⟨cb, 0, none⟩), vw] 164, blk cb [.int .u32 1, .int .i32 0, .int .u32 0, .int .u32 1, fv, .string (packS (splitM dg J2 M.sp).1)] 234, osl (kHd kPair) vS J2.us, osl kIns vM J2.map, osl kIns vC J2.comb, osl kIns vR J2.red, osl (kInt .i64) vK J2.marks, osl kPtr vw (ws.map Prod.fst), bigS (winI 239) ws]) vS H1
 exact H1
set_option maxHeartbeats 4000000 in
theorem mapNew_ok (vS : Value) (vM : Value) (vC : Value) (vR : Value) (vK : Value) (C : Cf) (s : Nat) (att : Int) (hC : mayC C) (hO : OkJ C.J) (hgo : s < C.J.us.length ∧ 1 ≤ att ∧ att ≤ C.t) :
    Cn Tryz.prog 27 [.agg #[vS, .int .i64 C.J.parts, vM, vC, vR, .int .i64 C.J.chunk, .int .i64 C.J.window, .int .i64 C.J.fuel, vK, .int .i64 C.w, .int .i64 C.t, .int .i64 C.o], .int .i64 ((s : Nat) : Int), .int .i64 att] [] [rsl (kHd kPair) vS C.J.us, rsl kIns vM C.J.map, rsl kIns vC C.J.comb, rsl kIns vR C.J.red, rsl (kInt .i64) vK C.J.marks, gl] (fun v Bs => ∃ b : Nat, v = .tuple #[.pointer (some ⟨b, 0, none⟩), .int .i64 0] ∧ Bs = [mprI b C.J (newMpr dg C.J s att)]) := by
 intro w0 F0 H
 obtain ⟨A1, c2, rfl, hc3, hm4, hp5⟩ := H.fR 0 rfl
 obtain ⟨A6, c7, rfl, hc8, hm9, hp10⟩ := H.fR 1 rfl
 obtain ⟨A11, c12, rfl, hc13, hm14, hp15⟩ := H.fR 2 rfl
 obtain ⟨A16, c17, rfl, hc18, hm19, hp20⟩ := H.fR 3 rfl
 obtain ⟨A21, c22, rfl, hc23, hm24, hp25⟩ := H.fR 4 rfl
 refine enter Tryz.func27 rfl rfl (Nat.le_of_ble_eq_true rfl) (c_seq (c_reg (s_box rfl rfl rfl rfl H (fun b26 w H => (s_box rfl rfl rfl rfl H (fun b27 w H => (s_k 2 rfl (s_nil (q_then ?_)))))))))
 replace H : Hd _ _ _ [blk b27 [.int .i64 ((s : Nat) : Int)] 3, blk b26 [.slice A1 C.J.us.length c2, .int .i64 C.J.parts, .slice A6 C.J.map.length c7, .slice A11 C.J.comb.length c12, .slice A16 C.J.red.length c17, .int .i64 C.J.chunk, .int .i64 C.J.window, .int .i64 C.J.fuel, .slice A21 C.J.marks.length c22, .int .i64 C.w, .int .i64 C.t, .int .i64 C.o] 28] [rsl (kHd kPair) (.slice A1 C.J.us.length c2) C.J.us, rsl kIns (.slice A6 C.J.map.length c7) C.J.map, rsl kIns (.slice A11 C.J.comb.length c12) C.J.comb, rsl kIns (.slice A16 C.J.red.length c17) C.J.red, rsl (kInt .i64) (.slice A21 C.J.marks.length c22) C.J.marks, gl] := H
 refine c_seq (c_seq (c_reg (s_val rfl rfl (r_ldA (cs := [.slice A1 C.J.us.length c2, .int .i64 C.J.parts, .slice A6 C.J.map.length c7, .slice A11 C.J.comb.length c12, .slice A16 C.J.red.length c17, .int .i64 C.J.chunk, .int .i64 C.J.window, .int .i64 C.J.fuel, .slice A21 C.J.marks.length c22, .int .i64 C.w, .int .i64 C.t, .int .i64 C.o]) rfl ty28 rfl rfl (H.cellsI 1 rfl rfl)) (sc (mayC_ok (.slice A1 C.J.us.length c2) (.slice A6 C.J.map.length c7) (.slice A11 C.J.comb.length c12) (.slice A16 C.J.red.length c17) (.slice A21 C.J.marks.length c22) C) H (lR 0 rfl (lR 1 rfl (lR 2 rfl (lR 3 rfl (lR 4 rfl l0))))) rfl rfl (e_fn kn19 rfl rfl) ?_))))
 rintro _ _ w ⟨rfl, rfl⟩ H
 refine s_val rfl rfl (r_notP rfl rfl) (s_1 rfl ?_)
 refine s_dec (d := 16) rfl (fun h28 => ?_) (fun h28 => ?_)
 ·first | exact (h28 hC).elim | (exfalso; omega)
 ·refine s_val rfl rfl (r_ld rfl ty3 rfl (H.cellI 0 rfl rfl)) (s_val rfl rfl (r_lt rfl rfl rfl) (s_k 2 rfl ?_))
  refine s_dec (d := 20) rfl (fun h29 => ?_) (fun h29 => ?_)
  ·first | exact (h29 hC).elim | (exfalso; omega)
  ·refine s_val rfl rfl (r_ld rfl ty3 rfl (H.cellI 0 rfl rfl)) (s_val rfl rfl (r_fa rfl fo28_0 rfl) (s_val rfl rfl (r_fa rfl fo26_0 rfl) (s_val rfl rfl (r_ld rfl ty22 rfl (H.cellI 1 rfl rfl)) (s_val rfl rfl (r_lenL rfl un22 rfl) (s_val rfl rfl (r_ge rfl rfl rfl) (s_k 2 rfl ?_))))))
   refine s_dec (d := 28) rfl (fun h30 => ?_) (fun h30 => ?_)
   ·first | exact (h30 hC).elim | (exfalso; omega)
   ·refine s_1 rfl (s_val rfl rfl (r_lt rfl rfl rfl) (s_k 2 rfl ?_))
    refine s_dec (d := 32) rfl (fun h31 => ?_) (fun h31 => ?_)
    ·first | exact (h31 hC).elim | (exfalso; omega)
    ·refine s_1 rfl (s_val rfl rfl (r_fa rfl fo28_2 rfl) (s_val rfl rfl (r_ld rfl ty3 rfl (H.cellI 1 rfl rfl)) (s_val rfl rfl (r_gt rfl rfl rfl) (s_1 rfl (s_nil (q_then ?_))))))
     replace H : Hd _ _ _ [blk b27 [.int .i64 ((s : Nat) : Int)] 3, blk b26 [.slice A1 C.J.us.length c2, .int .i64 C.J.parts, .slice A6 C.J.map.length c7, .slice A11 C.J.comb.length c12, .slice A16 C.J.red.length c17, .int .i64 C.J.chunk, .int .i64 C.J.window, .int .i64 C.J.fuel, .slice A21 C.J.marks.length c22, .int .i64 C.w, .int .i64 C.t, .int .i64 C.o] 28] [rsl (kHd kPair) (.slice A1 C.J.us.length c2) C.J.us, rsl kIns (.slice A6 C.J.map.length c7) C.J.map, rsl kIns (.slice A11 C.J.comb.length c12) C.J.comb, rsl kIns (.slice A16 C.J.red.length c17) C.J.red, rsl (kInt .i64) (.slice A21 C.J.marks.length c22) C.J.marks, gl] := H
     refine c_dec rfl (fun h32 => ?_) (fun h32 => ?_)
     ·first | exact (h32 hC).elim | (exfalso; omega)
     ·refine c_skip (q_then (c_seq (c_reg (s_val rfl rfl (r_ldA (cs := [.slice A1 C.J.us.length c2, .int .i64 C.J.parts, .slice A6 C.J.map.length c7, .slice A11 C.J.comb.length c12, .slice A16 C.J.red.length c17, .int .i64 C.J.chunk, .int .i64 C.J.window, .int .i64 C.J.fuel, .slice A21 C.J.marks.length c22, .int .i64 C.w, .int .i64 C.t, .int .i64 C.o]) rfl ty28 rfl rfl (H.cellsI 1 rfl rfl)) (sc (own_ok (.slice A1 C.J.us.length c2) (.slice A6 C.J.map.length c7) (.slice A11 C.J.comb.length c12) (.slice A16 C.J.red.length c17) (.slice A21 C.J.marks.length c22) C (by first | assumption | omega)) H (lR 0 rfl (lR 1 rfl (lR 2 rfl (lR 3 rfl (lR 4 rfl l0))))) rfl rfl (e_fn kn94 rfl rfl) ?_)))))
      rintro _ _ w ⟨J33, vS34, vM35, vC36, vR37, vK38, rfl, rfl, hf39⟩ H
      have hsj := hf39
      have hJ : OkJ J33 := hsj.symm.ok hO
      have hs : s < J33.us.length := by have := hsj.len; omega
      have hpt := hJ.parts
      have hwi := hJ.window1
      have hcl : (countsM dg J33 s att).length ≤ 1000 := by rw [counts_len]; split <;> omega
      obtain ⟨A40, c41, rfl, hc42, hm43, hp44⟩ := H.fA 0 rfl
      obtain ⟨A45, c46, rfl, hc47, hm48, hp49⟩ := H.fA 1 rfl
      obtain ⟨A50, c51, rfl, hc52, hm53, hp54⟩ := H.fA 2 rfl
      obtain ⟨A55, c56, rfl, hc57, hm58, hp59⟩ := H.fA 3 rfl
      obtain ⟨A60, c61, rfl, hc62, hm63, hp64⟩ := H.fA 4 rfl
      replace H := H.p6
      refine s_st rfl rfl rfl ty28 rfl rfl H rfl (Nat.le_of_ble_eq_true rfl) (fun u hu => by simp [Value.cells] at hu; rcases hu with rfl | rfl | rfl | rfl | rfl | rfl | rfl | rfl | rfl | rfl | rfl | rfl <;> rfl) (fun w H => ?_)
      replace H : Hd _ _ _ [blk b26 [.slice A40 J33.us.length c41, .int .i64 J33.parts, .slice A45 J33.map.length c46, .slice A50 J33.comb.length c51, .slice A55 J33.red.length c56, .int .i64 J33.chunk, .int .i64 J33.window, .int .i64 J33.fuel, .slice A60 J33.marks.length c61, .int .i64 C.w, .int .i64 C.t, .int .i64 C.o] 28, osl (kHd kPair) (.slice A40 J33.us.length c41) J33.us, osl kIns (.slice A45 J33.map.length c46) J33.map, osl kIns (.slice A50 J33.comb.length c51) J33.comb, osl kIns (.slice A55 J33.red.length c56) J33.red, osl (kInt .i64) (.slice A60 J33.marks.length c61) J33.marks, blk b27 [.int .i64 ((s : Nat) : Int)] 3] [rsl (kHd kPair) (.slice A1 C.J.us.length c2) C.J.us, rsl kIns (.slice A6 C.J.map.length c7) C.J.map, rsl kIns (.slice A11 C.J.comb.length c12) C.J.comb, rsl kIns (.slice A16 C.J.red.length c17) C.J.red, rsl (kInt .i64) (.slice A21 C.J.marks.length c22) C.J.marks, gl] := H
      refine s_nil (q_then (c_seq (c_reg (s_val rfl rfl (r_ldA (cs := [.slice A40 J33.us.length c41, .int .i64 J33.parts, .slice A45 J33.map.length c46, .slice A50 J33.comb.length c51, .slice A55 J33.red.length c56, .int .i64 J33.chunk, .int .i64 J33.window, .int .i64 J33.fuel, .slice A60 J33.marks.length c61, .int .i64 C.w, .int .i64 C.t, .int .i64 C.o]) rfl ty28 rfl rfl (H.cellsI 0 rfl rfl)) (s_val rfl rfl (r_ld rfl ty3 rfl (H.cellI 6 rfl rfl)) (s_1 rfl (s_val rfl rfl (r_bd (parts := [(0, .tmp 40), (1, .tmp 41), (2, .tmp 42)]) (vs := [.agg #[.slice A40 J33.us.length c41, .int .i64 J33.parts, .slice A45 J33.map.length c46, .slice A50 J33.comb.length c51, .slice A55 J33.red.length c56, .int .i64 J33.chunk, .int .i64 J33.window, .int .i64 J33.fuel, .slice A60 J33.marks.length c61, .int .i64 C.w, .int .i64 C.t, .int .i64 C.o], .int .i64 ((s : Nat) : Int), .int .i64 att]) (cs := [.slice A40 J33.us.length c41, .int .i64 J33.parts, .slice A45 J33.map.length c46, .slice A50 J33.comb.length c51, .slice A55 J33.red.length c56, .int .i64 J33.chunk, .int .i64 J33.window, .int .i64 J33.fuel, .slice A60 J33.marks.length c61, .int .i64 C.w, .int .i64 C.t, .int .i64 C.o, .int .i64 ((s : Nat) : Int), .int .i64 att, .int .i64 0, .pointer none, .slice none 0 0]) rfl bd164 rfl rfl) ?_)))))))
      refine s_box rfl rfl rfl rfl H (fun b65 w H => (s_alloc rfl rfl rfl zr44 H (fun b66 w H => (s_st rfl rfl rfl ty44 rfl rfl H rfl (Nat.le_of_ble_eq_true rfl) (fun u hu => by simp [Value.cells] at hu; subst hu; rfl) (fun w H => ?_)))))
      replace H := H.h2 (A := blk b66 [.pointer (some ⟨b65, 0, none⟩)] 44) (B := blk b65 [.slice A40 J33.us.length c41, .int .i64 J33.parts, .slice A45 J33.map.length c46, .slice A50 J33.comb.length c51, .slice A55 J33.red.length c56, .int .i64 J33.chunk, .int .i64 J33.window, .int .i64 J33.fuel, .slice A60 J33.marks.length c61, .int .i64 C.w, .int .i64 C.t, .int .i64 C.o, .int .i64 ((s : Nat) : Int), .int .i64 att, .int .i64 0, .pointer none, .slice none 0 0] 164)
      refine s_nil (q_then (c_seq ?_))
      replace H := H.p8.p8.p8.p8.p8.p8.p8.p7
      refine c_ord (.e 0 (.e 1 (.m 2 (.e 3 (.e 4 (.m 5 .z)))))) (fun w => ∃ Ar, Hd w0 F0 w (blk b66 [.pointer (some ⟨b65, 0, none⟩)] 44 :: blk b26 [.slice A40 J33.us.length c41, .int .i64 J33.parts, .slice A45 J33.map.length c46, .slice A50 J33.comb.length c51, .slice A55 J33.red.length c56, .int .i64 J33.chunk, .int .i64 J33.window, .int .i64 J33.fuel, .slice A60 J33.marks.length c61, .int .i64 C.w, .int .i64 C.t, .int .i64 C.o] 28 :: osl (kHd kPair) (.slice A40 J33.us.length c41) J33.us :: osl kIns (.slice A45 J33.map.length c46) J33.map :: osl kIns (.slice A50 J33.comb.length c51) J33.comb :: osl kIns (.slice A55 J33.red.length c56) J33.red :: osl (kInt .i64) (.slice A60 J33.marks.length c61) J33.marks :: blk b27 [.int .i64 ((s : Nat) : Int)] 3 :: Ar) [rsl (kHd kPair) (.slice A1 C.J.us.length c2) C.J.us, rsl kIns (.slice A6 C.J.map.length c7) C.J.map, rsl kIns (.slice A11 C.J.comb.length c12) C.J.comb, rsl kIns (.slice A16 C.J.red.length c17) C.J.red, rsl (kInt .i64) (.slice A21 C.J.marks.length c22) C.J.marks, gl]) mo (by kernel_rfl) (fun w H => ⟨_, H⟩) H (fun w H => ?_)
      refine d_val rfl rfl rfl (fun w ⟨Ar, H⟩ => r_ld rfl ty44 rfl (H.cellI 0 rfl rfl)) (d_val rfl rfl rfl (fun w ⟨Ar, H⟩ => r_fn (fs := #[]) (cs := #[.pointer (some ⟨b26, 0, none⟩), .pointer (some ⟨b27, 0, none⟩), .pointer (some ⟨b66, 0, none⟩)]) rfl rfl rfl) (d_main rfl (sc (mLazyNew_ok b26 b27 b66) H l0 rfl rfl (e_fn kn95 rfl rfl) ?_)))
      rintro _ _ w ⟨cb67, rfl, rfl⟩ H
      replace H := H.h1 (A := blk cb67 [.int .u32 0, .int .i32 0, .int .u32 0, .int .u32 0, .func (.func 96) #[] #[.pointer (some ⟨b26, 0, none⟩), .pointer (some ⟨b27, 0, none⟩), .pointer (some ⟨b66, 0, none⟩)], .string ⟨#[]⟩] 234) |>.p8 |>.p8 |>.p8 |>.p8 |>.p8 |>.p8 |>.p8 |>.p8
      refine d_back ⟨_, H⟩ (d_val rfl rfl rfl (fun w ⟨Ar, H⟩ => r_nilP rfl rfl) (d_val rfl rfl rfl (fun w ⟨Ar, H⟩ => r_fa rfl fo164_4 rfl) (d_main rfl ?_)))
      replace H := H.p9
      refine s_st rfl rfl rfl ty161 rfl rfl H rfl (Nat.le_of_ble_eq_true rfl) (fun u hu => by simp [Value.cells] at hu; subst hu; rfl) (fun w H => ?_)
      replace H := H.h1 (A := blk b65 [.slice A40 J33.us.length c41, .int .i64 J33.parts, .slice A45 J33.map.length c46, .slice A50 J33.comb.length c51, .slice A55 J33.red.length c56, .int .i64 J33.chunk, .int .i64 J33.window, .int .i64 J33.fuel, .slice A60 J33.marks.length c61, .int .i64 C.w, .int .i64 C.t, .int .i64 C.o, .int .i64 ((s : Nat) : Int), .int .i64 att, .int .i64 0, .pointer (some ⟨cb67, 0, none⟩), .slice none 0 0] 164) |>.p8 |>.p8 |>.p8 |>.p8 |>.p8 |>.p8 |>.p8 |>.p8
      refine d_back ⟨_, H⟩ (d_nil (q_then (c_seq (c_seq (c_reg (s_val rfl rfl (r_ld rfl ty44 rfl (H.cellI 0 rfl rfl)) ?_))))))
      replace H := H.p8.p9
      refine sc (mCountsN_ok b65 b26 b27 b66 cb67 (.slice A40 J33.us.length c41) (.slice A45 J33.map.length c46) (.slice A50 J33.comb.length c51) (.slice A55 J33.red.length c56) (.slice A60 J33.marks.length c61) J33 C.w C.t C.o s att hJ hs) H (lA 1 rfl (fun _ h => h) (lA 7 rfl (fun _ h => h) (lA 0 rfl (fun _ h => h) (lA 2 rfl own_rd (lA 3 rfl own_rd (lA 4 rfl own_rd (lA 5 rfl own_rd (lA 6 rfl own_rd (lR 5 rfl l0))))))))) rfl rfl (e_fn kn30 rfl rfl) ?_
      rintro v68 _ w rfl H
      obtain ⟨A69, c70, rfl, hc71, hm72, hp73⟩ := H.fA 0 rfl
      refine s_val rfl rfl (r_lenL rfl un24 rfl) (s_1 rfl (s_nil (q_then ?_)))
      replace H : Hd _ _ _ [osl (kInt .i64) (.slice A69 ((countsM dg J33 s att).length) c70) (countsM dg J33 s att), blk cb67 [.int .u32 1, .int .i32 0, .int .u32 0, .int .u32 1, .func (.func 96) #[] #[.pointer (some ⟨b26, 0, none⟩), .pointer (some ⟨b27, 0, none⟩), .pointer (some ⟨b66, 0, none⟩)], .string (packS (splitM dg J33 s).1)] 234, blk b65 [.slice A40 J33.us.length c41, .int .i64 J33.parts, .slice A45 J33.map.length c46, .slice A50 J33.comb.length c51, .slice A55 J33.red.length c56, .int .i64 J33.chunk, .int .i64 J33.window, .int .i64 J33.fuel, .slice A60 J33.marks.length c61, .int .i64 C.w, .int .i64 C.t, .int .i64 C.o, .int .i64 ((s : Nat) : Int), .int .i64 att, .int .i64 ((splitM dg J33 s).2), .pointer (some ⟨cb67, 0, none⟩), .slice none 0 0] 164, blk b66 [.pointer (some ⟨b65, 0, none⟩)] 44, blk b26 [.slice A40 J33.us.length c41, .int .i64 J33.parts, .slice A45 J33.map.length c46, .slice A50 J33.comb.length c51, .slice A55 J33.red.length c56, .int .i64 J33.chunk, .int .i64 J33.window, .int .i64 J33.fuel, .slice A60 J33.marks.length c61, .int .i64 C.w, .int .i64 C.t, .int .i64 C.o] 28, osl (kHd kPair) (.slice A40 J33.us.length c41) J33.us, osl kIns (.slice A45 J33.map.length c46) J33.map, osl kIns (.slice A50 J33.comb.length c51) J33.comb, osl kIns (.slice A55 J33.red.length c56) J33.red, osl (kInt .i64) (.slice A60 J33.marks.length c61) J33.marks, blk b27 [.int .i64 ((s : Nat) : Int)] 3] [rsl (kHd kPair) (.slice A1 C.J.us.length c2) C.J.us, rsl kIns (.slice A6 C.J.map.length c7) C.J.map, rsl kIns (.slice A11 C.J.comb.length c12) C.J.comb, rsl kIns (.slice A16 C.J.red.length c17) C.J.red, rsl (kInt .i64) (.slice A21 C.J.marks.length c22) C.J.marks, gl] := H
      refine c_block ?_
      replace H := H.p4.p9.p9.p9.p9.p9.p8.p8.p8.k10.newnil kPtr
      replace H := Hd.tellK (ys := ([] : List (Nat × WinD)).map Prod.fst) H rfl
      replace H := Hd.big0 (winI 239) H
      replace H := H.h2 (A := bigS (winI 239) ([] : List (Nat × WinD))) (B := osl kPtr (.slice none 0 0) (([] : List (Nat × WinD)).map Prod.fst))
      refine c_loop (σ := Nat × Value × List (Nat × WinD)) (fun (k, vw, ws) => [(3, .pointer (some ⟨b26, 0, none⟩)), (6, .pointer none), (7, .int .i64 0), (8, .pointer (some ⟨b66, 0, none⟩)), (51, .slice A69 ((countsM dg J33 s att).length) c70), (52, .int .i64 (((countsM dg J33 s att).length : Nat) : Int)), (53, .int .i64 ((k : Nat) : Int))]) (fun (k, vw, ws) w => (Hd w0 F0 w [bigS (winI 239) ws, osl kPtr vw (ws.map Prod.fst), osl (kInt .i64) (.slice A69 ((countsM dg J33 s att).length) c70) (countsM dg J33 s att), blk cb67 [.int .u32 1, .int .i32 0, .int .u32 0, .int .u32 1, .func (.func 96) #[] #[.pointer (some ⟨b26, 0, none⟩), .pointer (some ⟨b27, 0, none⟩), .pointer (some ⟨b66, 0, none⟩)], .string (packS (splitM dg J33 s).1)] 234, blk b65 [.slice A40 J33.us.length c41, .int .i64 J33.parts, .slice A45 J33.map.length c46, .slice A50 J33.comb.length c51, .slice A55 J33.red.length c56, .int .i64 J33.chunk, .int .i64 J33.window, .int .i64 J33.fuel, .slice A60 J33.marks.length c61, .int .i64 C.w, .int .i64 C.t, .int .i64 C.o, .int .i64 ((s : Nat) : Int), .int .i64 att, .int .i64 ((splitM dg J33 s).2), .pointer (some ⟨cb67, 0, none⟩), vw] 164, osl (kHd kPair) (.slice A40 J33.us.length c41) J33.us, osl kIns (.slice A45 J33.map.length c46) J33.map, osl kIns (.slice A50 J33.comb.length c51) J33.comb, osl kIns (.slice A55 J33.red.length c56) J33.red, osl (kInt .i64) (.slice A60 J33.marks.length c61) J33.marks, blk b26 [.slice A40 J33.us.length c41, .int .i64 J33.parts, .slice A45 J33.map.length c46, .slice A50 J33.comb.length c51, .slice A55 J33.red.length c56, .int .i64 J33.chunk, .int .i64 J33.window, .int .i64 J33.fuel, .slice A60 J33.marks.length c61, .int .i64 C.w, .int .i64 C.t, .int .i64 C.o] 28, blk b66 [.pointer (some ⟨b65, 0, none⟩)] 44] [rsl (kHd kPair) (.slice A1 C.J.us.length c2) C.J.us, rsl kIns (.slice A6 C.J.map.length c7) C.J.map, rsl kIns (.slice A11 C.J.comb.length c12) C.J.comb, rsl kIns (.slice A16 C.J.red.length c17) C.J.red, rsl (kInt .i64) (.slice A21 C.J.marks.length c22) C.J.marks, gl]) ∧ (k ≤ (countsM dg J33 s att).length) ∧ (ws.map Prod.snd = ((countsM dg J33 s att).take k).map (win0 J33))) (fun (k, vw, ws) => (countsM dg J33 s att).length - k) (0, .slice none 0 0, []) ⟨rfl, rfl, rfl, rfl, rfl, rfl, rfl, trivial⟩ ⟨H, Nat.zero_le _, rfl⟩ ?_
      rintro ⟨k, vw, ws⟩ w ⟨H, hk, hws⟩
      have hwl := congrArg List.length hws
      rw [List.length_map, List.length_map, List.length_take] at hwl
      have hwf : (ws.map Prod.fst).length = ws.length := List.length_map ..
      refine c_seq (c_reg (s_val rfl rfl (r_lt rfl rfl rfl) (s_nil (q_then (c_seq ?_)))))
      refine c_dec rfl (fun h74 => ?_) (fun h74 => ?_)
      ·refine c_skip (q_then (c_seq (c_block (c_seq (c_reg ?_)))))
       obtain ⟨x75, hx76⟩ : ∃ z9, (countsM dg J33 s att)[k]? = some z9 := ⟨_, List.getElem?_eq_getElem (show k < (countsM dg J33 s att).length by omega)⟩
       have th77 := H.thA 2 rfl hx76
       refine s_val rfl rfl (r_iaE (p := oOf A69 + k * 1) rfl sl24 rfl rfl (by omega) (by omega) th77 rfl) (s_val rfl rfl (r_ld rfl ty3 rfl (H.elA 2 rfl hx76 (q := 0) rfl rfl)) (s_1 rfl (s_nil (q_then (c_seq ?_)))))
       have hci := counts_in (at_mem hx76)
       refine c_reg (s_1 rfl (s_val rfl rfl (r_fa rfl fo28_0 rfl) (s_val rfl rfl (r_fa rfl fo26_6 rfl) (s_val rfl rfl (r_ld rfl ty3 rfl (H.cellI 10 rfl rfl)) (sc (wNew_ok x75 J33.window (by omega)) H l0 rfl rfl (e_fn kn98 rfl rfl) ?_)))))
       rintro _ _ w ⟨b78, rfl, rfl⟩ H
       refine s_k 5 rfl (s_nil (q_then ?_))
       replace H : Hd _ _ _ [blk b78 [.int .i64 x75, .int .i64 J33.window, .int .i64 0, .int .i64 0] 239, bigS (winI 239) ws, osl kPtr vw (ws.map Prod.fst), osl (kInt .i64) (.slice A69 ((countsM dg J33 s att).length) c70) (countsM dg J33 s att), blk cb67 [.int .u32 1, .int .i32 0, .int .u32 0, .int .u32 1, .func (.func 96) #[] #[.pointer (some ⟨b26, 0, none⟩), .pointer (some ⟨b27, 0, none⟩), .pointer (some ⟨b66, 0, none⟩)], .string (packS (splitM dg J33 s).1)] 234, blk b65 [.slice A40 J33.us.length c41, .int .i64 J33.parts, .slice A45 J33.map.length c46, .slice A50 J33.comb.length c51, .slice A55 J33.red.length c56, .int .i64 J33.chunk, .int .i64 J33.window, .int .i64 J33.fuel, .slice A60 J33.marks.length c61, .int .i64 C.w, .int .i64 C.t, .int .i64 C.o, .int .i64 ((s : Nat) : Int), .int .i64 att, .int .i64 ((splitM dg J33 s).2), .pointer (some ⟨cb67, 0, none⟩), vw] 164, osl (kHd kPair) (.slice A40 J33.us.length c41) J33.us, osl kIns (.slice A45 J33.map.length c46) J33.map, osl kIns (.slice A50 J33.comb.length c51) J33.comb, osl kIns (.slice A55 J33.red.length c56) J33.red, osl (kInt .i64) (.slice A60 J33.marks.length c61) J33.marks, blk b26 [.slice A40 J33.us.length c41, .int .i64 J33.parts, .slice A45 J33.map.length c46, .slice A50 J33.comb.length c51, .slice A55 J33.red.length c56, .int .i64 J33.chunk, .int .i64 J33.window, .int .i64 J33.fuel, .slice A60 J33.marks.length c61, .int .i64 C.w, .int .i64 C.t, .int .i64 C.o] 28, blk b66 [.pointer (some ⟨b65, 0, none⟩)] 44] [rsl (kHd kPair) (.slice A1 C.J.us.length c2) C.J.us, rsl kIns (.slice A6 C.J.map.length c7) C.J.map, rsl kIns (.slice A11 C.J.comb.length c12) C.J.comb, rsl kIns (.slice A16 C.J.red.length c17) C.J.red, rsl (kInt .i64) (.slice A21 C.J.marks.length c22) C.J.marks, gl] := H
       replace H := H.pick 12 rfl |>.pick 12 rfl |>.pick 12 rfl |>.pick 12 rfl |>.pick 12 rfl |>.pick 12 rfl |>.pick 12 rfl |>.pick 11 rfl |>.pick 11 rfl |>.pick 10 rfl |>.pick 10 rfl
       refine c_ord (.e 0 (.e 1 (.e 2 (.e 3 (.e 5 (.b 4 6 (.m 6 (.m 7 (.e 8 (.e 9 (.m 10 .z))))) (.m 4 (.m 7 (.e 8 (.e 9 (.m 10 .z))))))))))) (fun w => ∃ Ar, Hd w0 F0 w (blk b78 [.int .i64 x75, .int .i64 J33.window, .int .i64 0, .int .i64 0] 239 :: bigS (winI 239) ws :: osl (kInt .i64) (.slice A69 ((countsM dg J33 s att).length) c70) (countsM dg J33 s att) :: blk cb67 [.int .u32 1, .int .i32 0, .int .u32 0, .int .u32 1, .func (.func 96) #[] #[.pointer (some ⟨b26, 0, none⟩), .pointer (some ⟨b27, 0, none⟩), .pointer (some ⟨b66, 0, none⟩)], .string (packS (splitM dg J33 s).1)] 234 :: osl (kHd kPair) (.slice A40 J33.us.length c41) J33.us :: osl kIns (.slice A45 J33.map.length c46) J33.map :: osl kIns (.slice A50 J33.comb.length c51) J33.comb :: osl kIns (.slice A55 J33.red.length c56) J33.red :: osl (kInt .i64) (.slice A60 J33.marks.length c61) J33.marks :: blk b26 [.slice A40 J33.us.length c41, .int .i64 J33.parts, .slice A45 J33.map.length c46, .slice A50 J33.comb.length c51, .slice A55 J33.red.length c56, .int .i64 J33.chunk, .int .i64 J33.window, .int .i64 J33.fuel, .slice A60 J33.marks.length c61, .int .i64 C.w, .int .i64 C.t, .int .i64 C.o] 28 :: blk b66 [.pointer (some ⟨b65, 0, none⟩)] 44 :: Ar) [rsl (kHd kPair) (.slice A1 C.J.us.length c2) C.J.us, rsl kIns (.slice A6 C.J.map.length c7) C.J.map, rsl kIns (.slice A11 C.J.comb.length c12) C.J.comb, rsl kIns (.slice A16 C.J.red.length c17) C.J.red, rsl (kInt .i64) (.slice A21 C.J.marks.length c22) C.J.marks, gl]) mo (by kernel_rfl) (fun w H => ⟨_, H⟩) H (fun w H => ?_)
       refine d_val rfl rfl rfl (fun w ⟨Ar, H⟩ => r_ld rfl ty44 rfl (H.cellI 10 rfl rfl)) (d_val rfl rfl rfl (fun w ⟨Ar, H⟩ => r_ld rfl ty44 rfl (H.cellI 10 rfl rfl)) (d_val rfl rfl rfl (fun w ⟨Ar, H⟩ => r_nilP rfl rfl) (d_val rfl rfl rfl (fun w ⟨Ar, H⟩ => r_fa rfl fo164_5 rfl) (d_1 rfl ?_))))
       refine d_both rfl rfl ?_ ?_
       ·refine s_val rfl rfl (r_ld rfl ty162 rfl (H.cellI 12 rfl rfl)) (d_back ⟨_, H⟩ (d_main rfl (s_bsl (parts := [(0, .tmp 70)]) (vs := [.pointer (some ⟨b78, 0, none⟩)]) (cs := [.pointer (some ⟨b78, 0, none⟩)]) rfl rfl rfl sl162 zr168 rfl (by decide) (by decide) rfl rfl H (fun b79 w H => ?_))))
        replace H := H.h1 (A := blk b79 [.pointer (some ⟨b78, 0, none⟩)] 168) |>.pick 11 rfl |>.pick 11 rfl |>.pick 11 rfl |>.pick 11 rfl |>.pick 11 rfl |>.pick 11 rfl |>.pick 11 rfl |>.pick 11 rfl |>.pick 11 rfl |>.pick 11 rfl |>.pick 11 rfl
        refine d_back ⟨_, H⟩ (d_main rfl ?_)
        replace H := H.pick 12 rfl
        refine s_appF (xs := ws.map Prod.fst) (ys := [b78]) rfl rfl rfl sl162 zr168 rfl (by decide) rfl rfl H (by first | omega | (simp only [List.length_append, List.length_cons, List.length_nil]; omega)) (fun F hA hR => blk_rsl (hA _ (List.mem_of_getElem? (i := 11) rfl)) rfl (by decide) (RepsR.flat_eq.2 rfl)) (fun v80 w H => ?_)
        replace H := H.h1 (A := osl kPtr v80 ((ws.map Prod.fst) ++ [b78])) |>.pick 11 rfl |>.pick 11 rfl |>.pick 11 rfl |>.pick 11 rfl |>.pick 11 rfl |>.pick 11 rfl |>.pick 11 rfl |>.pick 11 rfl |>.pick 11 rfl |>.pick 11 rfl |>.pick 11 rfl
        refine d_back ⟨_, H⟩ (d_val rfl rfl rfl (fun w ⟨Ar, H⟩ => r_nilP rfl rfl) (d_val rfl rfl rfl (fun w ⟨Ar, H⟩ => r_fa rfl fo164_5 rfl) (d_main rfl ?_)))
        obtain ⟨A81, c82, rfl, hc83, hm84, hp85⟩ := H.fA 11 rfl
        replace H := H.pick 13 rfl
        refine s_st rfl rfl rfl ty162 rfl rfl H rfl (Nat.le_of_ble_eq_true rfl) (fun u hu => by simp [Value.cells] at hu; subst hu; rfl) (fun w H => ?_)
        replace H : Hd _ _ _ [blk b65 [.slice A40 J33.us.length c41, .int .i64 J33.parts, .slice A45 J33.map.length c46, .slice A50 J33.comb.length c51, .slice A55 J33.red.length c56, .int .i64 J33.chunk, .int .i64 J33.window, .int .i64 J33.fuel, .slice A60 J33.marks.length c61, .int .i64 C.w, .int .i64 C.t, .int .i64 C.o, .int .i64 ((s : Nat) : Int), .int .i64 att, .int .i64 ((splitM dg J33 s).2), .pointer (some ⟨cb67, 0, none⟩), .slice A81 (((ws.map Prod.fst) ++ [b78]).length) c82] 164, blk b78 [.int .i64 x75, .int .i64 J33.window, .int .i64 0, .int .i64 0] 239, bigS (winI 239) ws, osl (kInt .i64) (.slice A69 ((countsM dg J33 s att).length) c70) (countsM dg J33 s att), blk cb67 [.int .u32 1, .int .i32 0, .int .u32 0, .int .u32 1, .func (.func 96) #[] #[.pointer (some ⟨b26, 0, none⟩), .pointer (some ⟨b27, 0, none⟩), .pointer (some ⟨b66, 0, none⟩)], .string (packS (splitM dg J33 s).1)] 234, osl (kHd kPair) (.slice A40 J33.us.length c41) J33.us, osl kIns (.slice A45 J33.map.length c46) J33.map, osl kIns (.slice A50 J33.comb.length c51) J33.comb, osl kIns (.slice A55 J33.red.length c56) J33.red, osl (kInt .i64) (.slice A60 J33.marks.length c61) J33.marks, blk b26 [.slice A40 J33.us.length c41, .int .i64 J33.parts, .slice A45 J33.map.length c46, .slice A50 J33.comb.length c51, .slice A55 J33.red.length c56, .int .i64 J33.chunk, .int .i64 J33.window, .int .i64 J33.fuel, .slice A60 J33.marks.length c61, .int .i64 C.w, .int .i64 C.t, .int .i64 C.o] 28, blk b66 [.pointer (some ⟨b65, 0, none⟩)] 44, osl kPtr (.slice A81 (((ws.map Prod.fst) ++ [b78]).length) c82) ((ws.map Prod.fst) ++ [b78]), blk b79 [.pointer (some ⟨b78, 0, none⟩)] 168] [rsl (kHd kPair) (.slice A1 C.J.us.length c2) C.J.us, rsl kIns (.slice A6 C.J.map.length c7) C.J.map, rsl kIns (.slice A11 C.J.comb.length c12) C.J.comb, rsl kIns (.slice A16 C.J.red.length c17) C.J.red, rsl (kInt .i64) (.slice A21 C.J.marks.length c22) C.J.marks, gl] := H
        replace H := H.pick 11 rfl |>.pick 11 rfl |>.pick 11 rfl |>.pick 11 rfl |>.pick 11 rfl |>.pick 11 rfl |>.pick 11 rfl |>.pick 11 rfl |>.pick 11 rfl |>.pick 11 rfl |>.pick 11 rfl
        refine d_back ⟨_, H⟩ (d_nil (q_blockN (q_then (c_reg (s_val rfl rfl (r_add (z := ((k + 1 : Nat) : Int)) rfl rfl rfl (by rw [w64 (by omega) (by omega)]; omega)) (s_1 rfl (s_nil ?_)))))))
        replace H := H.pick 11 rfl |>.p4 |>.p4 |>.pick 12 rfl |>.p5 |>.p5 |>.keep 13
        replace H := Hd.bigN (f := winI 239) (x := (b78, (⟨x75, J33.window, 0, 0⟩ : WinD))) H
        replace H : Hd w0 F0 w [bigS (winI 239) (ws ++ [(b78, (⟨x75, J33.window, 0, 0⟩ : WinD))]), osl kPtr (.slice A81 (((ws.map Prod.fst) ++ [b78]).length) c82) ((ws ++ [(b78, (⟨x75, J33.window, 0, 0⟩ : WinD))]).map Prod.fst), osl (kInt .i64) (.slice A69 ((countsM dg J33 s att).length) c70) (countsM dg J33 s att), blk cb67 [.int .u32 1, .int .i32 0, .int .u32 0, .int .u32 1, .func (.func 96) #[] #[.pointer (some ⟨b26, 0, none⟩), .pointer (some ⟨b27, 0, none⟩), .pointer (some ⟨b66, 0, none⟩)], .string (packS (splitM dg J33 s).1)] 234, blk b65 [.slice A40 J33.us.length c41, .int .i64 J33.parts, .slice A45 J33.map.length c46, .slice A50 J33.comb.length c51, .slice A55 J33.red.length c56, .int .i64 J33.chunk, .int .i64 J33.window, .int .i64 J33.fuel, .slice A60 J33.marks.length c61, .int .i64 C.w, .int .i64 C.t, .int .i64 C.o, .int .i64 ((s : Nat) : Int), .int .i64 att, .int .i64 ((splitM dg J33 s).2), .pointer (some ⟨cb67, 0, none⟩), .slice A81 (((ws.map Prod.fst) ++ [b78]).length) c82] 164, osl (kHd kPair) (.slice A40 J33.us.length c41) J33.us, osl kIns (.slice A45 J33.map.length c46) J33.map, osl kIns (.slice A50 J33.comb.length c51) J33.comb, osl kIns (.slice A55 J33.red.length c56) J33.red, osl (kInt .i64) (.slice A60 J33.marks.length c61) J33.marks, blk b26 [.slice A40 J33.us.length c41, .int .i64 J33.parts, .slice A45 J33.map.length c46, .slice A50 J33.comb.length c51, .slice A55 J33.red.length c56, .int .i64 J33.chunk, .int .i64 J33.window, .int .i64 J33.fuel, .slice A60 J33.marks.length c61, .int .i64 C.w, .int .i64 C.t, .int .i64 C.o] 28, blk b66 [.pointer (some ⟨b65, 0, none⟩)] 44] [rsl (kHd kPair) (.slice A1 C.J.us.length c2) C.J.us, rsl kIns (.slice A6 C.J.map.length c7) C.J.map, rsl kIns (.slice A11 C.J.comb.length c12) C.J.comb, rsl kIns (.slice A16 C.J.red.length c17) C.J.red, rsl (kInt .i64) (.slice A21 C.J.marks.length c22) C.J.marks, gl] := by rw [List.map_append]; exact H
        exact q_round (s := (k, undef, ws)) (k + 1, .slice A81 (((ws.map Prod.fst) ++ [b78]).length) c82, ws ++ [(b78, (⟨x75, J33.window, 0, 0⟩ : WinD))]) ⟨rfl, rfl, rfl, rfl, rfl, rfl, rfl, trivial⟩ ⟨H, by (try dsimp only); omega, by (try dsimp only); rw [List.map_append, hws, take_snoc hx76, List.map_append]; rfl⟩ (by (try dsimp only); omega)
       ·refine s_bsl (parts := [(0, .tmp 70)]) (vs := [.pointer (some ⟨b78, 0, none⟩)]) (cs := [.pointer (some ⟨b78, 0, none⟩)]) rfl rfl rfl sl162 zr168 rfl (by decide) (by decide) rfl rfl H (fun b86 w H => ?_)
        replace H := H.h1 (A := blk b86 [.pointer (some ⟨b78, 0, none⟩)] 168) |>.pick 11 rfl |>.pick 11 rfl |>.pick 11 rfl |>.pick 11 rfl |>.pick 11 rfl |>.pick 11 rfl |>.pick 11 rfl |>.pick 11 rfl |>.pick 11 rfl |>.pick 11 rfl |>.pick 11 rfl
        refine d_back ⟨_, H⟩ (d_main rfl (s_val rfl rfl (r_ld rfl ty162 rfl (H.cellI 13 rfl rfl)) (d_back ⟨_, H⟩ (d_main rfl ?_))))
        replace H := H.pick 12 rfl
        refine s_appF (xs := ws.map Prod.fst) (ys := [b78]) rfl rfl rfl sl162 zr168 rfl (by decide) rfl rfl H (by first | omega | (simp only [List.length_append, List.length_cons, List.length_nil]; omega)) (fun F hA hR => blk_rsl (hA _ (List.mem_of_getElem? (i := 11) rfl)) rfl (by decide) (RepsR.flat_eq.2 rfl)) (fun v87 w H => ?_)
        replace H := H.h1 (A := osl kPtr v87 ((ws.map Prod.fst) ++ [b78])) |>.pick 11 rfl |>.pick 11 rfl |>.pick 11 rfl |>.pick 11 rfl |>.pick 11 rfl |>.pick 11 rfl |>.pick 11 rfl |>.pick 11 rfl |>.pick 11 rfl |>.pick 11 rfl |>.pick 11 rfl
        refine d_back ⟨_, H⟩ (d_val rfl rfl rfl (fun w ⟨Ar, H⟩ => r_nilP rfl rfl) (d_val rfl rfl rfl (fun w ⟨Ar, H⟩ => r_fa rfl fo164_5 rfl) (d_main rfl ?_)))
        obtain ⟨A88, c89, rfl, hc90, hm91, hp92⟩ := H.fA 11 rfl
        replace H := H.pick 13 rfl
        refine s_st rfl rfl rfl ty162 rfl rfl H rfl (Nat.le_of_ble_eq_true rfl) (fun u hu => by simp [Value.cells] at hu; subst hu; rfl) (fun w H => ?_)
        replace H : Hd _ _ _ [blk b65 [.slice A40 J33.us.length c41, .int .i64 J33.parts, .slice A45 J33.map.length c46, .slice A50 J33.comb.length c51, .slice A55 J33.red.length c56, .int .i64 J33.chunk, .int .i64 J33.window, .int .i64 J33.fuel, .slice A60 J33.marks.length c61, .int .i64 C.w, .int .i64 C.t, .int .i64 C.o, .int .i64 ((s : Nat) : Int), .int .i64 att, .int .i64 ((splitM dg J33 s).2), .pointer (some ⟨cb67, 0, none⟩), .slice A88 (((ws.map Prod.fst) ++ [b78]).length) c89] 164, blk b78 [.int .i64 x75, .int .i64 J33.window, .int .i64 0, .int .i64 0] 239, bigS (winI 239) ws, osl (kInt .i64) (.slice A69 ((countsM dg J33 s att).length) c70) (countsM dg J33 s att), blk cb67 [.int .u32 1, .int .i32 0, .int .u32 0, .int .u32 1, .func (.func 96) #[] #[.pointer (some ⟨b26, 0, none⟩), .pointer (some ⟨b27, 0, none⟩), .pointer (some ⟨b66, 0, none⟩)], .string (packS (splitM dg J33 s).1)] 234, osl (kHd kPair) (.slice A40 J33.us.length c41) J33.us, osl kIns (.slice A45 J33.map.length c46) J33.map, osl kIns (.slice A50 J33.comb.length c51) J33.comb, osl kIns (.slice A55 J33.red.length c56) J33.red, osl (kInt .i64) (.slice A60 J33.marks.length c61) J33.marks, blk b26 [.slice A40 J33.us.length c41, .int .i64 J33.parts, .slice A45 J33.map.length c46, .slice A50 J33.comb.length c51, .slice A55 J33.red.length c56, .int .i64 J33.chunk, .int .i64 J33.window, .int .i64 J33.fuel, .slice A60 J33.marks.length c61, .int .i64 C.w, .int .i64 C.t, .int .i64 C.o] 28, blk b66 [.pointer (some ⟨b65, 0, none⟩)] 44, osl kPtr (.slice A88 (((ws.map Prod.fst) ++ [b78]).length) c89) ((ws.map Prod.fst) ++ [b78]), blk b86 [.pointer (some ⟨b78, 0, none⟩)] 168] [rsl (kHd kPair) (.slice A1 C.J.us.length c2) C.J.us, rsl kIns (.slice A6 C.J.map.length c7) C.J.map, rsl kIns (.slice A11 C.J.comb.length c12) C.J.comb, rsl kIns (.slice A16 C.J.red.length c17) C.J.red, rsl (kInt .i64) (.slice A21 C.J.marks.length c22) C.J.marks, gl] := H
        replace H := H.pick 11 rfl |>.pick 11 rfl |>.pick 11 rfl |>.pick 11 rfl |>.pick 11 rfl |>.pick 11 rfl |>.pick 11 rfl |>.pick 11 rfl |>.pick 11 rfl |>.pick 11 rfl |>.pick 11 rfl
        refine d_back ⟨_, H⟩ (d_nil (q_blockN (q_then (c_reg (s_val rfl rfl (r_add (z := ((k + 1 : Nat) : Int)) rfl rfl rfl (by rw [w64 (by omega) (by omega)]; omega)) (s_1 rfl (s_nil ?_)))))))
        replace H := H.pick 11 rfl |>.p4 |>.p4 |>.pick 12 rfl |>.p5 |>.p5 |>.keep 13
        replace H := Hd.bigN (f := winI 239) (x := (b78, (⟨x75, J33.window, 0, 0⟩ : WinD))) H
        replace H : Hd w0 F0 w [bigS (winI 239) (ws ++ [(b78, (⟨x75, J33.window, 0, 0⟩ : WinD))]), osl kPtr (.slice A88 (((ws.map Prod.fst) ++ [b78]).length) c89) ((ws ++ [(b78, (⟨x75, J33.window, 0, 0⟩ : WinD))]).map Prod.fst), osl (kInt .i64) (.slice A69 ((countsM dg J33 s att).length) c70) (countsM dg J33 s att), blk cb67 [.int .u32 1, .int .i32 0, .int .u32 0, .int .u32 1, .func (.func 96) #[] #[.pointer (some ⟨b26, 0, none⟩), .pointer (some ⟨b27, 0, none⟩), .pointer (some ⟨b66, 0, none⟩)], .string (packS (splitM dg J33 s).1)] 234, blk b65 [.slice A40 J33.us.length c41, .int .i64 J33.parts, .slice A45 J33.map.length c46, .slice A50 J33.comb.length c51, .slice A55 J33.red.length c56, .int .i64 J33.chunk, .int .i64 J33.window, .int .i64 J33.fuel, .slice A60 J33.marks.length c61, .int .i64 C.w, .int .i64 C.t, .int .i64 C.o, .int .i64 ((s : Nat) : Int), .int .i64 att, .int .i64 ((splitM dg J33 s).2), .pointer (some ⟨cb67, 0, none⟩), .slice A88 (((ws.map Prod.fst) ++ [b78]).length) c89] 164, osl (kHd kPair) (.slice A40 J33.us.length c41) J33.us, osl kIns (.slice A45 J33.map.length c46) J33.map, osl kIns (.slice A50 J33.comb.length c51) J33.comb, osl kIns (.slice A55 J33.red.length c56) J33.red, osl (kInt .i64) (.slice A60 J33.marks.length c61) J33.marks, blk b26 [.slice A40 J33.us.length c41, .int .i64 J33.parts, .slice A45 J33.map.length c46, .slice A50 J33.comb.length c51, .slice A55 J33.red.length c56, .int .i64 J33.chunk, .int .i64 J33.window, .int .i64 J33.fuel, .slice A60 J33.marks.length c61, .int .i64 C.w, .int .i64 C.t, .int .i64 C.o] 28, blk b66 [.pointer (some ⟨b65, 0, none⟩)] 44] [rsl (kHd kPair) (.slice A1 C.J.us.length c2) C.J.us, rsl kIns (.slice A6 C.J.map.length c7) C.J.map, rsl kIns (.slice A11 C.J.comb.length c12) C.J.comb, rsl kIns (.slice A16 C.J.red.length c17) C.J.red, rsl (kInt .i64) (.slice A21 C.J.marks.length c22) C.J.marks, gl] := by rw [List.map_append]; exact H
        exact q_round (s := (k, undef, ws)) (k + 1, .slice A88 (((ws.map Prod.fst) ++ [b78]).length) c89, ws ++ [(b78, (⟨x75, J33.window, 0, 0⟩ : WinD))]) ⟨rfl, rfl, rfl, rfl, rfl, rfl, rfl, trivial⟩ ⟨H, by (try dsimp only); omega, by (try dsimp only); rw [List.map_append, hws, take_snoc hx76, List.map_append]; rfl⟩ (by (try dsimp only); omega)
      ·refine c_exit (q_thenE (q_thenE (q_blockE (q_then (c_seq (c_reg (s_val rfl rfl (r_ld rfl ty44 rfl (H.cellI 11 rfl rfl)) (s_k 2 rfl (s_nil (q_then (c_ret (q_ret2 rfl rfl rfl ?_))))))))))))
       replace H := H.p1.p9.p9.p9.p9.p9.p8.p9.k9
       replace H : Hd _ _ _ [blk b65 [.slice A40 J33.us.length c41, .int .i64 J33.parts, .slice A45 J33.map.length c46, .slice A50 J33.comb.length c51, .slice A55 J33.red.length c56, .int .i64 J33.chunk, .int .i64 J33.window, .int .i64 J33.fuel, .slice A60 J33.marks.length c61, .int .i64 C.w, .int .i64 C.t, .int .i64 C.o, .int .i64 ((s : Nat) : Int), .int .i64 att, .int .i64 ((splitM dg J33 s).2), .pointer (some ⟨cb67, 0, none⟩), vw] 164, blk cb67 [.int .u32 1, .int .i32 0, .int .u32 0, .int .u32 1, .func (.func 96) #[] #[.pointer (some ⟨b26, 0, none⟩), .pointer (some ⟨b27, 0, none⟩), .pointer (some ⟨b66, 0, none⟩)], .string (packS (splitM dg J33 s).1)] 234, osl (kHd kPair) (.slice A40 J33.us.length c41) J33.us, osl kIns (.slice A45 J33.map.length c46) J33.map, osl kIns (.slice A50 J33.comb.length c51) J33.comb, osl kIns (.slice A55 J33.red.length c56) J33.red, osl (kInt .i64) (.slice A60 J33.marks.length c61) J33.marks, osl kPtr vw (ws.map Prod.fst), bigS (winI 239) ws] [rsl (kHd kPair) (.slice A1 C.J.us.length c2) C.J.us, rsl kIns (.slice A6 C.J.map.length c7) C.J.map, rsl kIns (.slice A11 C.J.comb.length c12) C.J.comb, rsl kIns (.slice A16 C.J.red.length c17) C.J.red, rsl (kInt .i64) (.slice A21 C.J.marks.length c22) C.J.marks, gl] := H
       replace H := mprI_shut b65 C.J (newMpr dg C.J s att) (.slice A40 J33.us.length c41) (.slice A45 J33.map.length c46) (.slice A50 J33.comb.length c51) (.slice A55 J33.red.length c56) (.slice A60 J33.marks.length c61) J33 C.w C.t C.o cb67 (.func (.func 96) #[] #[.pointer (some ⟨b26, 0, none⟩), .pointer (some ⟨b27, 0, none⟩), .pointer (some ⟨b66, 0, none⟩)]) vw ws ⟨hsj, new_ws hsj hws (by omega)⟩ H
       replace H := H.h1 (A := mprI b65 C.J (newMpr dg C.J s att))
       exact fin ⟨_, rfl, rfl⟩ H

def twoR : List Pair := [⟨⟨#[98]⟩, ⟨#[49]⟩⟩, ⟨⟨#[97]⟩, ⟨#[50]⟩⟩]
def small19 (u : Value) : Cf := ⟨⟨[(u, twoR)], 1, firstP, [], firstP, 1, 1, 9, []⟩, 1, 2, 1⟩
theorem small19_may (u : Value) : mayC (small19 u) := by
 refine ⟨⟨(show 1 ≤ ((1 : Nat) : Int) ∧ ((1 : Nat) : Int) ≤ 6 by decide), (show (1 : Int) ≤ 1 ∧ (1 : Int) ≤ 4 by decide), (show 0 ≤ 4 by decide), ?_, ?_, (show 0 < firstP.length ∧ badI firstP < 0 by decide +kernel), (show 0 < firstP.length ∧ badI firstP < 0 by decide +kernel), (show badI [] < 0 by decide +kernel),
  (show (1 : Int) ≤ 1 ∧ (1 : Int) ≤ 7 by decide), (show (1 : Int) ≤ 1 ∧ (1 : Int) ≤ 4 by decide), (show (1 : Int) ≤ 9 ∧ (9 : Int) ≤ 2000 by decide)⟩, (show (1 : Int) ≤ 1 ∧ (1 : Int) ≤ 4 by decide), (show (1 : Int) ≤ 2 ∧ (2 : Int) ≤ 3 by decide), (show (1 : Int) ≤ 1 ∧ (1 : Int) ≤ 50 by decide)⟩
 ·intro x hx
  rw [List.mem_singleton.1 hx]
  show okSplit twoR
  decide
 ·show marksUp ((1 : Nat) : Int) 0 []
  decide
theorem small19_ok (u : Value) : OkJ (small19 u).J := ⟨(small19_may u).1, in64_first, (fun i h => by cases h), in64_first⟩
theorem s19_job {J : Job} {u : Value} (h : SameJ J (small19 u).J) : ∃ a, J = ⟨[(a, twoR)], 1, firstP, [], firstP, 1, 1, 9, []⟩ := by
 obtain ⟨h1, h2⟩ := h
 have hl : J.us.length = 1 := by have := congrArg List.length h1; simpa [small19] using this
 match hu : J.us, hl with
 | [(a, x)], _ =>
  rw [hu] at h1
  have h3 : [x] = [twoR] := h1
  simp only [List.cons.injEq, and_true] at h3
  obtain rfl := h3
  refine ⟨a, h2.trans ?_⟩
  rw [hu]
  rfl
theorem s19_map (D : Dig) (a : Value) : mapM D ⟨[(a, twoR)], 1, firstP, [], firstP, 1, 1, 9, []⟩ 0 = (twoR, 0) := by kernel_rfl
theorem s19_split (D : Dig) (a : Value) : splitM D ⟨[(a, twoR)], 1, firstP, [], firstP, 1, 1, 9, []⟩ 0 = ([⟨⟨#[97]⟩, ⟨#[50]⟩⟩, ⟨⟨#[98]⟩, ⟨#[49]⟩⟩], 0) := by
 unfold splitM
 rw [s19_map]
 show (srt twoR, (0 : Int)) = _
 rw [show srt twoR = [⟨⟨#[97]⟩, ⟨#[50]⟩⟩, ⟨⟨#[98]⟩, ⟨#[49]⟩⟩] by decide]
theorem s19_only (D : Dig) (a : Value) : (onlyM D ⟨[(a, twoR)], 1, firstP, [], firstP, 1, 1, 9, []⟩ 0 0).length = 2 := by
 unfold onlyM
 rw [s19_split]
 kernel_rfl
theorem s19_counts {D : Dig} {u : Value} (att : Int) : countsM D (small19 u).J 0 att = [chunksN 2 (cutSz 1 att)] := by
 obtain ⟨a, e⟩ := s19_job (SameJ.refl (small19 u).J)
 rw [e]
 unfold countsM
 rw [s19_split]
 show [chunksN ((onlyM D ⟨[(a, twoR)], 1, firstP, [], firstP, 1, 1, 9, []⟩ 0 0).length : Nat) (cutSz 1 att)] = _
 rw [s19_only]
 rfl
theorem s19_new2 {D : Dig} {u : Value} : newMpr D (small19 u).J 0 2 = ⟨0, 2, [⟨2, 1, 0, 0⟩]⟩ := by
 unfold newMpr
 rw [s19_counts]
 rfl
theorem s19_new1 {D : Dig} {u : Value} : newMpr D (small19 u).J 0 1 = ⟨0, 1, [⟨1, 1, 0, 0⟩]⟩ := by
 unfold newMpr
 rw [s19_counts]
 rfl
theorem s19_a2 {D : Dig} {u : Value} {M : Mpr} (h : M = newMpr D (small19 u).J 0 2) : okMp M ∧ countsM D (small19 u).J M.sp M.att = [2] ∧ (pushMpr D (small19 u).J M).length = 1 ∧ (ackMpr M 0 1 2).2 = true ∧ doneMpr (ackMpr M 0 1 2).1 = true := by
 refine ⟨by rw [h]; exact okMp_new (small19_ok u) _ _, ?_⟩
 rw [h, s19_new2]
 refine ⟨s19_counts 2, rfl, rfl, rfl⟩
theorem s19_a1 {D : Dig} {u : Value} {M : Mpr} (h : M = newMpr D (small19 u).J 0 1) : okMp M ∧ countsM D (small19 u).J M.sp M.att = [1] ∧ doneMpr M = false := by
 refine ⟨by rw [h]; exact okMp_new (small19_ok u) _ _, ?_⟩
 rw [h, s19_new1]
 refine ⟨s19_counts 1, rfl⟩
theorem small19_go2 (u : Value) : 0 < (small19 u).J.us.length ∧ (1 : Int) ≤ 2 ∧ 2 ≤ (small19 u).t := ⟨Nat.zero_lt_one, by decide, show (2 : Int) ≤ 2 by decide⟩
theorem small19_go1 (u : Value) : 0 < (small19 u).J.us.length ∧ (1 : Int) ≤ 1 ∧ 1 ≤ (small19 u).t := ⟨Nat.zero_lt_one, by decide, show (1 : Int) ≤ 2 by decide⟩

set_option maxHeartbeats 4000000 in
theorem smallW19_ok  :
    Cn Tryz.prog 93 [] [] [] (fun v Bs => ∃ vS : Value, ∃ vP : Value, ∃ u : Value, v = .agg #[vS, .int .i64 1, vP, .slice none 0 0, vP, .int .i64 1, .int .i64 1, .int .i64 9, .slice none 0 0, .int .i64 1, .int .i64 2, .int .i64 1] ∧ Bs = [osl (kHd kPair) vS [(u, twoR)], osl kIns vP firstP]) := by
 intro w0 F0 H
 refine enter Tryz.func93 rfl rfl (Nat.le_of_ble_eq_true rfl) (c_seq (c_reg (s_alloc rfl rfl rfl zr28 H (fun b1 w H => (s_nil (q_then ?_))))))
 replace H : Hd _ _ _ [blk b1 [.slice none 0 0, .int .i64 0, .slice none 0 0, .slice none 0 0, .slice none 0 0, .int .i64 0, .int .i64 0, .int .i64 0, .slice none 0 0, .int .i64 0, .int .i64 0, .int .i64 0] 28] [] := H
 refine c_seq (c_reg (s_val rfl rfl (r_bd (parts := [(0, .const (.int .i64 6))]) (vs := [.int .i64 6]) (cs := [.int .i64 6, .int .i64 0, .string ⟨#[]⟩]) rfl bd223 rfl rfl) (s_val rfl rfl (r_bd (parts := [(0, .const (.int .i64 7))]) (vs := [.int .i64 7]) (cs := [.int .i64 7, .int .i64 0, .string ⟨#[]⟩]) rfl bd223 rfl rfl) (s_val rfl rfl (r_bd (parts := [(0, .const (.int .i64 4))]) (vs := [.int .i64 4]) (cs := [.int .i64 4, .int .i64 0, .string ⟨#[]⟩]) rfl bd223 rfl rfl) (s_val rfl rfl (r_bd (parts := [(0, .const (.int .i64 23))]) (vs := [.int .i64 23]) (cs := [.int .i64 23, .int .i64 0, .string ⟨#[]⟩]) rfl bd223 rfl rfl) (s_bsl (parts := [(0, .tmp 2), (1, .tmp 3), (2, .tmp 4), (3, .tmp 5)]) (vs := [.agg #[.int .i64 6, .int .i64 0, .string ⟨#[]⟩], .agg #[.int .i64 7, .int .i64 0, .string ⟨#[]⟩], .agg #[.int .i64 4, .int .i64 0, .string ⟨#[]⟩], .agg #[.int .i64 23, .int .i64 0, .string ⟨#[]⟩]]) (cs := [.int .i64 6, .int .i64 0, .string ⟨#[]⟩, .int .i64 7, .int .i64 0, .string ⟨#[]⟩, .int .i64 4, .int .i64 0, .string ⟨#[]⟩, .int .i64 23, .int .i64 0, .string ⟨#[]⟩]) rfl rfl rfl sl23 zr223 rfl (by decide) (by decide) rfl rfl H (fun b2 w H => ?_)))))))
 replace H := H.h1 (A := blk b2 [.int .i64 6, .int .i64 0, .string ⟨#[]⟩, .int .i64 7, .int .i64 0, .string ⟨#[]⟩, .int .i64 4, .int .i64 0, .string ⟨#[]⟩, .int .i64 23, .int .i64 0, .string ⟨#[]⟩] 223)
 refine s_1 rfl (s_nil (q_then (c_seq (c_reg (s_val rfl rfl (r_bd (parts := [(0, .const (.string ⟨#[98]⟩)), (1, .const (.string ⟨#[49]⟩))]) (vs := [.string ⟨#[98]⟩, .string ⟨#[49]⟩]) (cs := [.string ⟨#[98]⟩, .string ⟨#[49]⟩]) rfl bd106 rfl rfl) (s_val rfl rfl (r_bd (parts := [(0, .const (.string ⟨#[97]⟩)), (1, .const (.string ⟨#[50]⟩))]) (vs := [.string ⟨#[97]⟩, .string ⟨#[50]⟩]) (cs := [.string ⟨#[97]⟩, .string ⟨#[50]⟩]) rfl bd106 rfl rfl) (s_bsl (parts := [(0, .tmp 7), (1, .tmp 8)]) (vs := [.agg #[.string ⟨#[98]⟩, .string ⟨#[49]⟩], .agg #[.string ⟨#[97]⟩, .string ⟨#[50]⟩]]) (cs := [.string ⟨#[98]⟩, .string ⟨#[49]⟩, .string ⟨#[97]⟩, .string ⟨#[50]⟩]) rfl rfl rfl sl35 zr106 rfl (by decide) (by decide) rfl rfl H (fun b3 w H => (s_bsl (parts := [(0, .tmp 9)]) (vs := [.slice (some ⟨b3, 0, none⟩) 2 2]) (cs := [.slice (some ⟨b3, 0, none⟩) 2 2]) rfl rfl rfl sl22 zr35 rfl (by decide) (by decide) rfl rfl H (fun b4 w H => ?_))))))))))
 refine s_k 2 rfl (s_val rfl rfl (r_bd (parts := [(0, .tmp 10), (1, .const (.int .i64 1)), (2, .tmp 11), (4, .tmp 12), (5, .const (.int .i64 1)), (6, .const (.int .i64 1)), (7, .const (.int .i64 9))]) (vs := [.slice (some ⟨b4, 0, none⟩) 1 1, .int .i64 1, .slice (some ⟨b2, 0, none⟩) 4 4, .slice (some ⟨b2, 0, none⟩) 4 4, .int .i64 1, .int .i64 1, .int .i64 9]) (cs := [.slice (some ⟨b4, 0, none⟩) 1 1, .int .i64 1, .slice (some ⟨b2, 0, none⟩) 4 4, .slice none 0 0, .slice (some ⟨b2, 0, none⟩) 4 4, .int .i64 1, .int .i64 1, .int .i64 9, .slice none 0 0]) rfl bd26 rfl rfl) (s_val rfl rfl (r_bd (parts := [(0, .tmp 13), (1, .const (.int .i64 1)), (2, .const (.int .i64 2)), (3, .const (.int .i64 1))]) (vs := [.agg #[.slice (some ⟨b4, 0, none⟩) 1 1, .int .i64 1, .slice (some ⟨b2, 0, none⟩) 4 4, .slice none 0 0, .slice (some ⟨b2, 0, none⟩) 4 4, .int .i64 1, .int .i64 1, .int .i64 9, .slice none 0 0], .int .i64 1, .int .i64 2, .int .i64 1]) (cs := [.slice (some ⟨b4, 0, none⟩) 1 1, .int .i64 1, .slice (some ⟨b2, 0, none⟩) 4 4, .slice none 0 0, .slice (some ⟨b2, 0, none⟩) 4 4, .int .i64 1, .int .i64 1, .int .i64 9, .slice none 0 0, .int .i64 1, .int .i64 2, .int .i64 1]) rfl bd28 rfl rfl) ?_))
 replace H := H.p3
 refine s_st rfl rfl rfl ty28 rfl rfl H rfl (Nat.le_of_ble_eq_true rfl) (fun u hu => by simp [Value.cells] at hu; rcases hu with rfl | rfl | rfl | rfl | rfl | rfl | rfl | rfl | rfl | rfl | rfl | rfl <;> rfl) (fun w H => ?_)
 replace H : Hd _ _ _ [blk b1 [.slice (some ⟨b4, 0, none⟩) 1 1, .int .i64 1, .slice (some ⟨b2, 0, none⟩) 4 4, .slice none 0 0, .slice (some ⟨b2, 0, none⟩) 4 4, .int .i64 1, .int .i64 1, .int .i64 9, .slice none 0 0, .int .i64 1, .int .i64 2, .int .i64 1] 28, blk b4 [.slice (some ⟨b3, 0, none⟩) 2 2] 35, blk b3 [.string ⟨#[98]⟩, .string ⟨#[49]⟩, .string ⟨#[97]⟩, .string ⟨#[50]⟩] 106, blk b2 [.int .i64 6, .int .i64 0, .string ⟨#[]⟩, .int .i64 7, .int .i64 0, .string ⟨#[]⟩, .int .i64 4, .int .i64 0, .string ⟨#[]⟩, .int .i64 23, .int .i64 0, .string ⟨#[]⟩] 223] [] := H
 refine s_nil (q_then (c_ret (q_retC (cs := [.slice (some ⟨b4, 0, none⟩) 1 1, .int .i64 1, .slice (some ⟨b2, 0, none⟩) 4 4, .slice none 0 0, .slice (some ⟨b2, 0, none⟩) 4 4, .int .i64 1, .int .i64 1, .int .i64 9, .slice none 0 0, .int .i64 1, .int .i64 2, .int .i64 1]) rfl rfl ty28 rfl (H.cellsI 0 rfl rfl) ?_)))
 replace H := H.p2
 replace H : Hd w0 F0 w [osl kPair (.slice (some ⟨b3, 0, none⟩) 2 2) twoR, blk b1 [.slice (some ⟨b4, 0, none⟩) 1 1, .int .i64 1, .slice (some ⟨b2, 0, none⟩) 4 4, .slice none 0 0, .slice (some ⟨b2, 0, none⟩) 4 4, .int .i64 1, .int .i64 1, .int .i64 9, .slice none 0 0, .int .i64 1, .int .i64 2, .int .i64 1] 28, blk b4 [.slice (some ⟨b3, 0, none⟩) 2 2] 35, blk b2 [.int .i64 6, .int .i64 0, .string ⟨#[]⟩, .int .i64 7, .int .i64 0, .string ⟨#[]⟩, .int .i64 4, .int .i64 0, .string ⟨#[]⟩, .int .i64 23, .int .i64 0, .string ⟨#[]⟩] 223] [] := H.turn (fun F h => blk_osl h rfl (by decide) rfl)
 replace H := H.p3
 replace H : Hd w0 F0 w [osl kIns (.slice (some ⟨b2, 0, none⟩) 4 4) firstP, osl kPair (.slice (some ⟨b3, 0, none⟩) 2 2) twoR, blk b1 [.slice (some ⟨b4, 0, none⟩) 1 1, .int .i64 1, .slice (some ⟨b2, 0, none⟩) 4 4, .slice none 0 0, .slice (some ⟨b2, 0, none⟩) 4 4, .int .i64 1, .int .i64 1, .int .i64 9, .slice none 0 0, .int .i64 1, .int .i64 2, .int .i64 1] 28, blk b4 [.slice (some ⟨b3, 0, none⟩) 2 2] 35] [] := H.turn (fun F h => blk_osl h rfl (by decide) rfl)
 replace H := H.p1.p3.k3
 replace H : Hd w0 F0 w [osl kHdr (.slice (some ⟨b4, 0, none⟩) 1 1) (hdr1 ([(.slice (some ⟨b3, 0, none⟩) 2 2, twoR)] : List (Value × List Pair))), osl kPair (.slice (some ⟨b3, 0, none⟩) 2 2) twoR, osl kIns (.slice (some ⟨b2, 0, none⟩) 4 4) firstP] [] := H.turn (fun F h => blk_osl h rfl (by decide) rfl)
 replace H := H.p1
 replace H := Hd.stI (Bs := [osl kPair (.slice (some ⟨b3, 0, none⟩) 2 2) twoR]) H
 replace H := H.h1 (A := inS kPair ([(.slice (some ⟨b3, 0, none⟩) 2 2, twoR)] : List (Value × List Pair))) |>.p1 |>.hdI |>.h1 (A := osl (kHd kPair) (.slice (some ⟨b4, 0, none⟩) 1 1) [(.slice (some ⟨b3, 0, none⟩) 2 2, twoR)])
 exact fin ⟨(.slice (some ⟨b4, 0, none⟩) 1 1), (.slice (some ⟨b2, 0, none⟩) 4 4), (.slice (some ⟨b3, 0, none⟩) 2 2), rfl, rfl⟩ H

theorem oCounts_ok (b : Nat) (J : Job) (M : Mpr) (hJ : OkJ J) : Cn Tryz.prog 30 [.pointer (some ⟨b, 0, none⟩)] [mprI b J M] [] (fun v Bs => Bs = [osl (kInt .i64) v (countsM dg J M.sp M.att), mprI b J M]) := by
 intro w0 F0 H
 obtain ⟨vS, vM, vC, vR, vK, J2, cw, ct, co, cb, fv, vw, ws, ⟨hsj, hws⟩, H⟩ := mprI_open b J M H
 have H1 : Hd w0 F0 w0 ([blk cb [.int .u32 1, .int .i32 0, .int .u32 0, .int .u32 1, fv, .string (packS (splitM dg J2 M.sp).1)] 234] ++ [blk b [vS, .int .i64 J2.parts, vM, vC, vR, .int .i64 J2.chunk, .int .i64 J2.window, .int .i64 J2.fuel, vK, .int .i64 cw, .int .i64 ct, .int .i64 co, .int .i64 ((M.sp : Nat) : Int), .int .i64 M.att, .int .i64 ((splitM dg J2 M.sp).2), .pointer (some ⟨cb, 0, none⟩), vw] 164, osl (kHd kPair) vS J2.us, osl kIns vM J2.map, osl kIns vC J2.comb, osl kIns vR J2.red, osl (kInt .i64) vK J2.marks, osl kPtr vw (ws.map Prod.fst), bigS (winI 239) ws]) [] := H.pick 1 rfl
 refine (call_frame (mCounts_ok b vS vM vC vR vK J2 cw ct co M.sp M.att cb fv vw  (hsj.symm.ok hJ)) H1 (lA 0 rfl (fun _ h => h) l0)).mono ?_
 rintro e w ⟨v, rfl, Bs, rfl, H⟩
 replace H : Hd w0 F0 w [osl (kInt .i64) v (countsM dg J2 M.sp M.att), blk cb [.int .u32 1, .int .i32 0, .int .u32 0, .int .u32 1, fv, .string (packS (splitM dg J2 M.sp).1)] 234, blk b [vS, .int .i64 J2.parts, vM, vC, vR, .int .i64 J2.chunk, .int .i64 J2.window, .int .i64 J2.fuel, vK, .int .i64 cw, .int .i64 ct, .int .i64 co, .int .i64 ((M.sp : Nat) : Int), .int .i64 M.att, .int .i64 ((splitM dg J2 M.sp).2), .pointer (some ⟨cb, 0, none⟩), vw] 164, osl (kHd kPair) vS J2.us, osl kIns vM J2.map, osl kIns vC J2.comb, osl kIns vR J2.red, osl (kInt .i64) vK J2.marks, osl kPtr vw (ws.map Prod.fst), bigS (winI 239) ws] [] := H
 replace H := H.p9.p9.p9.p9.p9.p9.p9.p8.p9
 replace H := mprI_shut b J M vS vM vC vR vK J2 cw ct co cb fv vw ws ⟨hsj, hws⟩ (As := [osl (kInt .i64) v (countsM dg J2 M.sp M.att)]) H
 refine ⟨v, rfl, _, rfl, ?_⟩
 have e := counts_same hsj dg M.sp M.att
 rw [e] at H
 exact H.pick 1 rfl
theorem oChunk_ok (b : Nat) (J : Job) (M : Mpr) (p : Int) (q : Int) (hJ : OkJ J) : Cn Tryz.prog 41 [.pointer (some ⟨b, 0, none⟩), .int .i64 p, .int .i64 q] [mprI b J M] [] (fun v Bs => Bs = [osl kPair v (chunkM dg J M.sp M.att p q), mprI b J M]) := by
 intro w0 F0 H
 obtain ⟨vS, vM, vC, vR, vK, J2, cw, ct, co, cb, fv, vw, ws, ⟨hsj, hws⟩, H⟩ := mprI_open b J M H
 have H1 : Hd w0 F0 w0 ([blk cb [.int .u32 1, .int .i32 0, .int .u32 0, .int .u32 1, fv, .string (packS (splitM dg J2 M.sp).1)] 234] ++ [blk b [vS, .int .i64 J2.parts, vM, vC, vR, .int .i64 J2.chunk, .int .i64 J2.window, .int .i64 J2.fuel, vK, .int .i64 cw, .int .i64 ct, .int .i64 co, .int .i64 ((M.sp : Nat) : Int), .int .i64 M.att, .int .i64 ((splitM dg J2 M.sp).2), .pointer (some ⟨cb, 0, none⟩), vw] 164, osl (kHd kPair) vS J2.us, osl kIns vM J2.map, osl kIns vC J2.comb, osl kIns vR J2.red, osl (kInt .i64) vK J2.marks, osl kPtr vw (ws.map Prod.fst), bigS (winI 239) ws]) [] := H.pick 1 rfl
 refine (call_frame (mChunk_ok b vS vM vC vR vK J2 cw ct co M.sp M.att cb fv vw p q (hsj.symm.ok hJ)) H1 (lA 0 rfl (fun _ h => h) l0)).mono ?_
 rintro e w ⟨v, rfl, Bs, rfl, H⟩
 replace H : Hd w0 F0 w [osl kPair v (chunkM dg J2 M.sp M.att p q), blk cb [.int .u32 1, .int .i32 0, .int .u32 0, .int .u32 1, fv, .string (packS (splitM dg J2 M.sp).1)] 234, blk b [vS, .int .i64 J2.parts, vM, vC, vR, .int .i64 J2.chunk, .int .i64 J2.window, .int .i64 J2.fuel, vK, .int .i64 cw, .int .i64 ct, .int .i64 co, .int .i64 ((M.sp : Nat) : Int), .int .i64 M.att, .int .i64 ((splitM dg J2 M.sp).2), .pointer (some ⟨cb, 0, none⟩), vw] 164, osl (kHd kPair) vS J2.us, osl kIns vM J2.map, osl kIns vC J2.comb, osl kIns vR J2.red, osl (kInt .i64) vK J2.marks, osl kPtr vw (ws.map Prod.fst), bigS (winI 239) ws] [] := H
 replace H := H.p9.p9.p9.p9.p9.p9.p9.p8.p9
 replace H := mprI_shut b J M vS vM vC vR vK J2 cw ct co cb fv vw ws ⟨hsj, hws⟩ (As := [osl kPair v (chunkM dg J2 M.sp M.att p q)]) H
 refine ⟨v, rfl, _, rfl, ?_⟩
 have e := chunk_same hsj dg M.sp M.att p q
 rw [e] at H
 exact H.pick 1 rfl

abbrev StE := (Int × Int) × Value × List (Value × List Pair)
section
variable {kvs : List StE} {k : Int × Int} {x : Value × List (Value × List Pair)}
end
section
variable {w0 w : World} {F0 : Foot} {As Rs : List SP} {t sb mb : Nat} {st : Stg} {kvs : List StE} {k : Int × Int} {v : Value} {us : List (Value × List Pair)}
end

set_option maxHeartbeats 4000000 in
theorem oDone_ok (b : Nat) (J : Job) (M : Mpr) (hM : okMp M) :
    Cn Tryz.prog 37 [.pointer (some ⟨b, 0, none⟩)] [mprI b J M] [] (fun v Bs => v = .bool (doneMpr M) ∧ Bs = [mprI b J M]) := by
 intro w0 F0 H
 obtain ⟨vS1, vM2, vC3, vR4, vK5, J6, cw7, ct8, co9, cb10, fv11, vw12, ws13, ⟨hsj14, hws15⟩, H⟩ := mprI_open b J M H
 replace H : Hd _ _ _ [blk b [vS1, .int .i64 J6.parts, vM2, vC3, vR4, .int .i64 J6.chunk, .int .i64 J6.window, .int .i64 J6.fuel, vK5, .int .i64 cw7, .int .i64 ct8, .int .i64 co9, .int .i64 ((M.sp : Nat) : Int), .int .i64 M.att, .int .i64 ((splitM dg J6 M.sp).2), .pointer (some ⟨cb10, 0, none⟩), vw12] 164, blk cb10 [.int .u32 1, .int .i32 0, .int .u32 0, .int .u32 1, fv11, .string (packS (splitM dg J6 M.sp).1)] 234, osl (kHd kPair) vS1 J6.us, osl kIns vM2 J6.map, osl kIns vC3 J6.comb, osl kIns vR4 J6.red, osl (kInt .i64) vK5 J6.marks, osl kPtr vw12 (ws13.map Prod.fst), bigS (winI 239) ws13] [] := H
 have hwf : (ws13.map Prod.fst).length = ws13.length := List.length_map ..
 have hwl : M.ws.length = ws13.length := by rw [← hws15]; exact List.length_map ..
 obtain ⟨A16, c17, rfl, hc18, hm19, hp20⟩ := H.fA 7 rfl
 refine enter Tryz.func37 rfl rfl (Nat.le_of_ble_eq_true rfl) (c_seq (c_reg (s_1 rfl (s_nil (q_then (c_seq (c_seq (c_reg (s_1 rfl (s_val rfl rfl (r_peq rfl un44 rfl rfl) (s_nil (q_then (c_no rfl (c_skip (q_then (c_seq (c_seq (c_reg (s_1 rfl (s_val rfl rfl (r_nilP rfl rfl) (s_val rfl rfl (r_fa rfl fo164_5 rfl) (s_val rfl rfl (r_ld rfl ty162 rfl (H.cellI 0 rfl rfl)) (s_val rfl rfl (r_lenL rfl un162 rfl) (s_1 rfl (s_nil (q_then (c_block (c_loop (σ := Nat) (fun k => [(10, .slice A16 ((ws13.map Prod.fst).length) c17), (11, .int .i64 (((ws13.map Prod.fst).length : Nat) : Int)), (12, .int .i64 ((k : Nat) : Int))]) (fun k w => (Hd w0 F0 w [blk b [vS1, .int .i64 J6.parts, vM2, vC3, vR4, .int .i64 J6.chunk, .int .i64 J6.window, .int .i64 J6.fuel, vK5, .int .i64 cw7, .int .i64 ct8, .int .i64 co9, .int .i64 ((M.sp : Nat) : Int), .int .i64 M.att, .int .i64 ((splitM dg J6 M.sp).2), .pointer (some ⟨cb10, 0, none⟩), .slice A16 ((ws13.map Prod.fst).length) c17] 164, blk cb10 [.int .u32 1, .int .i32 0, .int .u32 0, .int .u32 1, fv11, .string (packS (splitM dg J6 M.sp).1)] 234, osl (kHd kPair) vS1 J6.us, osl kIns vM2 J6.map, osl kIns vC3 J6.comb, osl kIns vR4 J6.red, osl (kInt .i64) vK5 J6.marks, osl kPtr (.slice A16 ((ws13.map Prod.fst).length) c17) (ws13.map Prod.fst), bigS (winI 239) ws13] []) ∧ (k ≤ ws13.length) ∧ ((M.ws.take k).all (fun w => decide (w.x = w.c)) = true)) (fun k => ws13.length - k) 0 ⟨rfl, rfl, rfl, trivial⟩ ⟨H, Nat.zero_le _, rfl⟩ ?_))))))))))))))))))))))))))))
 rintro k w ⟨H, hk, hd⟩
 refine c_seq (c_reg (s_val rfl rfl (r_lt rfl rfl rfl) (s_nil (q_then (c_seq ?_)))))
 refine c_dec rfl (fun h21 => ?_) (fun h21 => ?_)
 ·refine c_skip (q_then (c_seq (c_block (c_seq (c_reg ?_)))))
  obtain ⟨x22, hx23⟩ : ∃ z9, (ws13.map Prod.fst)[k]? = some z9 := ⟨_, List.getElem?_eq_getElem (show k < (ws13.map Prod.fst).length by omega)⟩
  have th24 := H.thA 7 rfl hx23
  refine s_val rfl rfl (r_iaE (p := oOf A16 + k * 1) rfl sl162 rfl rfl (by omega) (by omega) th24 rfl) (s_val rfl rfl (r_ld rfl ty168 rfl (H.elA 7 rfl hx23 (q := 0) rfl rfl)) (s_1 rfl (s_nil (q_then (c_seq (c_reg (s_1 rfl ?_)))))))
  obtain ⟨wd25, he26⟩ := win_at hx23
  have hm27 : M.ws[k]? = some wd25 := by rw [← hws15]; exact win_snd he26
  have hok_wd25 := hM.1 _ (at_mem hm27)
  unfold okW at hok_wd25
  replace H := H.p8
  replace H := Hd.bigO k he26 H
  replace H := H.h2 (A := blk x22 [.int .i64 wd25.c, .int .i64 wd25.s, .int .i64 wd25.e, .int .i64 wd25.x] 239) (B := bigS (winI 239) (ws13.eraseIdx k))
  refine sc (wDone_ok x22 wd25.c wd25.s wd25.e wd25.x) H (lA 0 rfl (fun _ h => h) l0) rfl rfl (e_fn kn111 rfl rfl) ?_
  rintro _ _ w ⟨rfl, rfl⟩ H
  replace H := Hd.bigI (f := winI 239) (x := (x22, wd25)) k (lt_of_some he26) H
  rw [win_same he26] at H
  refine s_val rfl rfl (r_notP rfl rfl) (s_nil (q_then ?_))
  replace H : Hd _ _ _ [bigS (winI 239) ws13, blk b [vS1, .int .i64 J6.parts, vM2, vC3, vR4, .int .i64 J6.chunk, .int .i64 J6.window, .int .i64 J6.fuel, vK5, .int .i64 cw7, .int .i64 ct8, .int .i64 co9, .int .i64 ((M.sp : Nat) : Int), .int .i64 M.att, .int .i64 ((splitM dg J6 M.sp).2), .pointer (some ⟨cb10, 0, none⟩), .slice A16 ((ws13.map Prod.fst).length) c17] 164, blk cb10 [.int .u32 1, .int .i32 0, .int .u32 0, .int .u32 1, fv11, .string (packS (splitM dg J6 M.sp).1)] 234, osl (kHd kPair) vS1 J6.us, osl kIns vM2 J6.map, osl kIns vC3 J6.comb, osl kIns vR4 J6.red, osl (kInt .i64) vK5 J6.marks, osl kPtr (.slice A16 ((ws13.map Prod.fst).length) c17) (ws13.map Prod.fst)] [] := H
  refine c_dec rfl (fun h28 => ?_) (fun h28 => ?_)
  ·refine c_seq (c_reg (s_1 rfl (s_nil (q_then (c_ret (q_blockR (q_thenR (q_thenR (q_blockR (q_thenR (q_ret1 rfl rfl ?_)))))))))))
   have e : doneMpr M = false := all_not hm27 (by simpa using h28)
   replace H := H.p8.p8.p8.p8.p8.p8.p8.p8
   replace H := mprI_shut b J M vS1 vM2 vC3 vR4 vK5 J6 cw7 ct8 co9 cb10 fv11 (.slice A16 ((ws13.map Prod.fst).length) c17) ws13 ⟨hsj14, hws15⟩ H
   replace H := H.h1 (A := mprI b J M)
   exact fin ⟨by rw [e] <;> rfl, rfl⟩ H
  ·refine c_skip (q_blockN (q_then (c_reg (s_val rfl rfl (r_add (z := ((k + 1 : Nat) : Int)) rfl rfl rfl (by rw [w64 (by omega) (by omega)]; omega)) (s_1 rfl (s_nil ?_))))))
   replace H := H.p8.p8.p8.p8.p8.p8.p8.p8
   exact q_round (s := k) (k + 1) ⟨rfl, rfl, rfl, trivial⟩ ⟨H, by (try dsimp only); omega, all_takeB hd hm27 (by simpa using h28)⟩ (by (try dsimp only); omega)
 ·refine c_exit (q_thenE (q_thenE (q_blockE (q_then (c_seq (c_reg (s_1 rfl (s_nil (q_then (c_ret (q_ret1 rfl rfl ?_)))))))))))
  have e : doneMpr M = true := by unfold doneMpr; rw [← List.take_of_length_le (show M.ws.length ≤ k by omega)]; exact hd
  replace H := mprI_shut b J M vS1 vM2 vC3 vR4 vK5 J6 cw7 ct8 co9 cb10 fv11 (.slice A16 ((ws13.map Prod.fst).length) c17) ws13 ⟨hsj14, hws15⟩ H
  replace H := H.h1 (A := mprI b J M)
  exact fin ⟨by rw [e] <;> rfl, rfl⟩ H
set_option maxHeartbeats 4000000 in
theorem oAck_ok (b : Nat) (J : Job) (M : Mpr) (p : Int) (ep : Int) (n : Int) (hM : okMp M) :
    Cn Tryz.prog 44 [.pointer (some ⟨b, 0, none⟩), .int .i64 p, .int .i64 ep, .int .i64 n] [mprI b J M] [] (fun v Bs => v = .bool ((ackMpr M p ep n).2) ∧ Bs = [mprI b J ((ackMpr M p ep n).1)]) := by
 intro w0 F0 H
 obtain ⟨vS1, vM2, vC3, vR4, vK5, J6, cw7, ct8, co9, cb10, fv11, vw12, ws13, ⟨hsj14, hws15⟩, H⟩ := mprI_open b J M H
 replace H : Hd _ _ _ [blk b [vS1, .int .i64 J6.parts, vM2, vC3, vR4, .int .i64 J6.chunk, .int .i64 J6.window, .int .i64 J6.fuel, vK5, .int .i64 cw7, .int .i64 ct8, .int .i64 co9, .int .i64 ((M.sp : Nat) : Int), .int .i64 M.att, .int .i64 ((splitM dg J6 M.sp).2), .pointer (some ⟨cb10, 0, none⟩), vw12] 164, blk cb10 [.int .u32 1, .int .i32 0, .int .u32 0, .int .u32 1, fv11, .string (packS (splitM dg J6 M.sp).1)] 234, osl (kHd kPair) vS1 J6.us, osl kIns vM2 J6.map, osl kIns vC3 J6.comb, osl kIns vR4 J6.red, osl (kInt .i64) vK5 J6.marks, osl kPtr vw12 (ws13.map Prod.fst), bigS (winI 239) ws13] [] := H
 have hwf : (ws13.map Prod.fst).length = ws13.length := List.length_map ..
 have hwl : M.ws.length = ws13.length := by rw [← hws15]; exact List.length_map ..
 obtain ⟨A16, c17, rfl, hc18, hm19, hp20⟩ := H.fA 7 rfl
 refine enter Tryz.func44 rfl rfl (Nat.le_of_ble_eq_true rfl) (c_seq (c_reg (s_1 rfl (s_nil (q_then (c_seq ?_))))))
 by_cases hin21 : 0 ≤ p ∧ p < ((M.ws.length : Nat) : Int)
 ·refine c_reg (s_1 rfl (s_val rfl rfl (r_pne rfl un44 rfl rfl) (s_k 2 rfl (s_val rfl rfl (r_ge rfl rfl rfl) (s_k 2 rfl ?_)))))
  refine s_dec (d := 15) rfl (fun h22 => ?_) (fun h22 => ?_)
  ·refine s_k 2 rfl (s_val rfl rfl (r_nilP rfl rfl) (s_val rfl rfl (r_fa rfl fo164_5 rfl) (s_val rfl rfl (r_ld rfl ty162 rfl (H.cellI 0 rfl rfl)) (s_val rfl rfl (r_lenL rfl un162 rfl) (s_val rfl rfl (r_lt rfl rfl rfl) (s_k 2 rfl ?_))))))
   refine s_dec (d := 24) rfl (fun h23 => ?_) (fun h23 => ?_)
   ·refine s_1 rfl (s_val rfl rfl (r_nilP rfl rfl) (s_val rfl rfl (r_fa rfl fo164_5 rfl) (s_val rfl rfl (r_ld rfl ty162 rfl (H.cellI 0 rfl rfl)) (s_1 rfl ?_))))
    obtain ⟨x24, hx25⟩ : ∃ z9, (ws13.map Prod.fst)[(p).toNat]? = some z9 := ⟨_, List.getElem?_eq_getElem (show (p).toNat < (ws13.map Prod.fst).length by omega)⟩
    have th26 := H.thA 7 rfl hx25
    refine s_val rfl rfl (r_iaE (p := oOf A16 + ((p).toNat) * 1) rfl sl162 rfl rfl (by omega) (by omega) th26 (by omega)) (s_val rfl rfl (r_ld rfl ty168 rfl (H.elA 7 rfl hx25 (q := 0) rfl rfl)) (s_k 2 rfl ?_))
    obtain ⟨wd27, he28⟩ := win_at hx25
    have hm29 : M.ws[(p).toNat]? = some wd27 := by rw [← hws15]; exact win_snd he28
    have hok_wd27 := hM.1 _ (at_mem hm29)
    unfold okW at hok_wd27
    replace H := H.p8
    replace H := Hd.bigO ((p).toNat) he28 H
    replace H := H.h2 (A := blk x24 [.int .i64 wd27.c, .int .i64 wd27.s, .int .i64 wd27.e, .int .i64 wd27.x] 239) (B := bigS (winI 239) (ws13.eraseIdx ((p).toNat)))
    refine sc (wAck_ok x24 wd27.c wd27.s wd27.e wd27.x ep n) H l0 rfl rfl (e_fn kn115 rfl rfl) ?_
    rintro _ _ w ⟨rfl, rfl⟩ H
    replace H := H.h1 (A := blk x24 [.int .i64 wd27.c, .int .i64 wd27.s, .int .i64 (ackE wd27.c wd27.e wd27.x ep n), .int .i64 (ackX wd27.c wd27.e wd27.x ep n)] 239)
    replace H := Hd.bigI (f := winI 239) (x := (x24, ackW wd27 ep n)) ((p).toNat) (lt_of_some he28) H
    replace H := H.h1 (A := bigS (winI 239) (ws13.set ((p).toNat) (x24, ackW wd27 ep n))) |>.p8
    replace H := Hd.tellK (ys := (ws13.set ((p).toNat) (x24, ackW wd27 ep n)).map Prod.fst) H (win_set he28).1
    replace H := H.h1 (A := osl kPtr (.slice A16 ((ws13.map Prod.fst).length) c17) ((ws13.set ((p).toNat) (x24, ackW wd27 ep n)).map Prod.fst))
    refine s_k 2 rfl (s_nil (q_then (c_ret (q_ret1 rfl rfl ?_))))
    have e := ackMpr_yes (m := M) (p := p) (ep := ep) (n := n) (by omega) hm29
    replace H := H.p8.p8.p8.p8.p8.p8.p8
    replace H := mprI_shut b J ({ M with ws := M.ws.set (p).toNat (ackW wd27 ep n) } : Mpr) vS1 vM2 vC3 vR4 vK5 J6 cw7 ct8 co9 cb10 fv11 (.slice A16 ((ws13.map Prod.fst).length) c17) (ws13.set ((p).toNat) (x24, ackW wd27 ep n)) ⟨hsj14, (by rw [(win_set he28).2, hws15])⟩ H
    replace H := H.h1 (A := mprI b J ({ M with ws := M.ws.set (p).toNat (ackW wd27 ep n) } : Mpr))
    exact fin ⟨by rw [e] <;> rfl, by rw [e] <;> rfl⟩ H
   ·exfalso; omega
  ·exfalso; omega
 ·refine c_reg (s_1 rfl (s_val rfl rfl (r_pne rfl un44 rfl rfl) (s_k 2 rfl (s_val rfl rfl (r_ge rfl rfl rfl) (s_k 2 rfl ?_)))))
  refine s_dec (d := 15) rfl (fun h30 => ?_) (fun h30 => ?_)
  ·refine s_k 2 rfl (s_val rfl rfl (r_nilP rfl rfl) (s_val rfl rfl (r_fa rfl fo164_5 rfl) (s_val rfl rfl (r_ld rfl ty162 rfl (H.cellI 0 rfl rfl)) (s_val rfl rfl (r_lenL rfl un162 rfl) (s_val rfl rfl (r_lt rfl rfl rfl) (s_k 2 rfl ?_))))))
   refine s_dec (d := 24) rfl (fun h31 => ?_) (fun h31 => ?_)
   ·exfalso; omega
   ·refine s_k 12 rfl (s_nil (q_then (c_ret (q_ret1 rfl rfl ?_))))
    have e := ackMpr_no (m := M) (p := p) (ep := ep) (n := n) (by omega)
    replace H := mprI_shut b J M vS1 vM2 vC3 vR4 vK5 J6 cw7 ct8 co9 cb10 fv11 (.slice A16 ((ws13.map Prod.fst).length) c17) ws13 ⟨hsj14, hws15⟩ H
    replace H := H.h1 (A := mprI b J M)
    exact fin ⟨by rw [e] <;> rfl, by rw [e] <;> rfl⟩ H
  ·refine s_k 12 rfl (s_k 9 rfl (s_nil (q_then (c_ret (q_ret1 rfl rfl ?_)))))
   have e := ackMpr_no (m := M) (p := p) (ep := ep) (n := n) (by omega)
   replace H := mprI_shut b J M vS1 vM2 vC3 vR4 vK5 J6 cw7 ct8 co9 cb10 fv11 (.slice A16 ((ws13.map Prod.fst).length) c17) ws13 ⟨hsj14, hws15⟩ H
   replace H := H.h1 (A := mprI b J M)
   exact fin ⟨by rw [e] <;> rfl, by rw [e] <;> rfl⟩ H

section
variable {w0 w : World} {F F0 : Foot} {As Rs : List SP} {v : Value} {us : List Rec}
end

section
variable {w : World} {F : Foot}
end
theorem SameJ.out {A B : Job} (h : SameJ A B) (D : Dig) (R : Red) : outR D A R = outR D B R := by
 unfold outR ofR
 rw [h.len, h.red, h.fuel]
theorem opens_config {P : Program} {t j i : TypeId}
  (hs : stOf P t = some [(j, 0, 9), (i, 9, 1), (i, 10, 1), (i, 11, 1)]) (hc : P.cellsOf t = 12) (hi : P.underlying i = some (.int .i64))
  {H : Type} (enc : TypeId × Value → H) (w : World) (fuel : Nat) (cs : List Value) (x : DataW H × List MemPlace) (h : DataW.trod enc P w 0 (fun _ => true) true fuel t cs = some x) :
  ∃ (js : List Value) (m : Nat) (y : DataW H × List MemPlace) (n1 n2 n3 : Int), cs = js ++ [.int .i64 n1, .int .i64 n2, .int .i64 n3] ∧ DataW.trod enc P w 0 (fun _ => true) true m j js = some y ∧ js.length = 9 ∧ (In64 n1 ∧ In64 n2 ∧ In64 n3) := by
 obtain ⟨hl, n, hf⟩ := open_st hs h
 rw [hc] at hl
 match cs, hl with
 | [c0, c1, c2, c3, c4, c5, c6, c7, c8, c9, c10, c11], _ =>
  obtain ⟨y0, g0⟩ := hf 0 _ _ _ rfl
  obtain ⟨y1, g1⟩ := hf 1 _ _ _ rfl
  obtain ⟨y2, g2⟩ := hf 2 _ _ _ rfl
  obtain ⟨y3, g3⟩ := hf 3 _ _ _ rfl
  obtain ⟨a1, r1, w1⟩ := opens_int hi enc w n _ _ g1
  obtain ⟨a2, r2, w2⟩ := opens_int hi enc w n _ _ g2
  obtain ⟨a3, r3, w3⟩ := opens_int hi enc w n _ _ g3
  have q1 : [c9] = [Value.int .i64 a1] := r1
  have q2 : [c10] = [Value.int .i64 a2] := r2
  have q3 : [c11] = [Value.int .i64 a3] := r3
  simp only [List.cons.injEq, and_true] at q1 q2 q3
  subst q1 q2 q3
  exact ⟨[c0, c1, c2, c3, c4, c5, c6, c7, c8], n, y0, a1, a2, a3, rfl, g0, rfl, w1, w2, w3⟩

structure Shp (α : Type) where
 sz : Nat
 enc : α → Value → Value → List Value
 len : ∀ a s p, (enc a s p).length = sz
 one : ∀ a s p, ∀ c ∈ enc a s p, c = s ∨ c = p ∨ c.oneCell' = true
 pos : 0 < sz
structure Two (α : Type) where
 h : α
 sv : Value
 set : List Int
 pv : Value
 pairs : List Pair
structure TwoF (α : Type) where
 h : α
 hs : Hdr
 hp : Hdr
section
variable {α : Type}
def Shp.e (S : Shp α) (x : Two α) : List Value := S.enc x.h x.sv x.pv
def Shp.f (S : Shp α) (x : TwoF α) : List Value := S.enc x.h (.slice x.hs.A x.hs.n x.hs.c) (.slice x.hp.A x.hp.n x.hp.c)
def kTwo (S : Shp α) : Kd (Two α) where
 sz := S.sz
 O w F x cs := cs = S.e x ∧ ∃ F1 F2 : Foot, (∀ k, F1 k → F k) ∧ (∀ k, F2 k → F k) ∧ (∀ k, F1 k → ¬ F2 k) ∧ (kSl (kInt .i64)).O w F1 x.set [x.sv] ∧ (kSl kPair).O w F2 x.pairs [x.pv]
 R w F x cs := cs = S.e x ∧ (kSl (kInt .i64)).R w F x.set [x.sv] ∧ (kSl kPair).R w F x.pairs [x.pv]
 O_loc := fun ⟨e, F1, F2, s1, s2, dj, h1, h2⟩ hk => ⟨e, F1, F2, s1, s2, dj, (kSl _).O_loc h1 (fun k x => hk k (s1 k x)), (kSl _).O_loc h2 (fun k x => hk k (s2 k x))⟩
 O_mono := fun ⟨e, F1, F2, s1, s2, dj, h1, h2⟩ hk => ⟨e, F1, F2, fun k x => hk k (s1 k x), fun k x => hk k (s2 k x), dj, h1, h2⟩
 R_loc := fun ⟨e, h1, h2⟩ hk => ⟨e, (kSl _).R_loc h1 hk, (kSl _).R_loc h2 hk⟩
 R_mono := fun ⟨e, h1, h2⟩ hk => ⟨e, (kSl _).R_mono h1 hk, (kSl _).R_mono h2 hk⟩
 O_R := fun ⟨e, F1, F2, s1, s2, dj, h1, h2⟩ => ⟨e, (kSl _).R_mono ((kSl _).O_R h1) s1, (kSl _).R_mono ((kSl _).O_R h2) s2⟩
 len h := by rw [h.1]; exact S.len _ _ _
 one := fun ⟨e, h1, h2⟩ c hc => by
  have g1 := (kSl _).one h1
  have g2 := (kSl _).one h2
  subst e
  rcases S.one _ _ _ c hc with rfl | rfl | h
  ·exact g1 _ (List.mem_cons_self ..)
  ·exact g2 _ (List.mem_cons_self ..)
  ·exact h
 pos := S.pos
def kTwoF (S : Shp α) : Kd (TwoF α) := flat S.f S.sz S.pos (fun x => S.len _ _ _) (fun x c hc => by
 rcases S.one _ _ _ c hc with rfl | rfl | h
 ·rfl
 ·rfl
 ·exact h)
def twF (r : Two α) : TwoF α := ⟨r.h, hdrOf r.sv, hdrOf r.pv⟩
variable {S : Shp α} {w w0 : World} {F F0 : Foot} {As Rs : List SP} {A : Option Addr} {m c : Nat}
theorem tw_at {us : List (Two α)} (h : (rsl (kTwo S) (.slice A m c) us).P w F) {i : Nat} {x : Two α} (hx : us[i]? = some x) :
  There A ∧ (∀ q u, (S.e x)[q]? = some u → w.cell? ⟨bOf A, oOf A + i * S.sz + q, none⟩ = some u) ∧ (rsl (kInt .i64) x.sv x.set).P w F ∧ (rsl kPair x.pv x.pairs).P w F := by
 obtain ⟨b, off, cs, e, hl, hc, h1, h2, h3⟩ := rsl_at h hx
 subst h1 e
 exact ⟨rfl, hc, h2, h3⟩
theorem tw_set {us : List (Two α)} (h : (rsl (kTwo S) (.slice A m c) us).P w F) {i : Nat} {a : α} {sv pv : Value} {set : List Int} {pairs : List Pair} (hx : us[i]? = some ⟨a, sv, set, pv, pairs⟩) : (rsl (kInt .i64) sv set).P w F := (tw_at h hx).2.2.1
theorem tw_pairs {us : List (Two α)} (h : (rsl (kTwo S) (.slice A m c) us).P w F) {i : Nat} {a : α} {sv pv : Value} {set : List Int} {pairs : List Pair} (hx : us[i]? = some ⟨a, sv, set, pv, pairs⟩) : (rsl kPair pv pairs).P w F := (tw_at h hx).2.2.2
theorem Hd.thAt {us : List (Two α)} (H : Hd w0 F0 w As Rs) (j : Nat) (hj : As[j]? = some (osl (kTwo S) (.slice A m c) us)) {i : Nat} {x : Two α} (hx : us[i]? = some x) : There A := H.fact (List.mem_of_getElem? hj) fun F h => (tw_at (own_rd F h) hx).1
theorem part_at {l cs : List Value} {d n q : Nat} {v : Value} (h : (l.drop d).take n = cs) (hq : cs[q]? = some v) : l[d + q]? = some v := by
 subst h
 rw [List.getElem?_take] at hq
 split at hq
 ·rwa [List.getElem?_drop] at hq
 ·cases hq
theorem Hd.elsAt {us : List (Two α)} (H : Hd w0 F0 w As Rs) (j : Nat) (hj : As[j]? = some (osl (kTwo S) (.slice A m c) us)) {i : Nat} {x : Two α} (hx : us[i]? = some x) {p : Nat} (d n : Nat) {cs : List Value} (hc : ((S.e x).drop d).take n = cs) (hpj : oOf A + i * S.sz + d = p) : ∀ q v, cs[q]? = some v → w.cell? ((⟨bOf A, p, none⟩ : Addr).add q) = some v := by
 intro q v hq
 rw [add_of, ← hpj, Nat.add_assoc]
 exact H.fact (List.mem_of_getElem? hj) fun F h => (tw_at (own_rd F h) hx).2.1 _ v (part_at hc hq)
theorem Hd.nestAt {us : List (Two α)} (H : Hd w0 F0 w As Rs) (j : Nat) (hj : As[j]? = some (osl (kTwo S) (.slice A m c) us)) {i : Nat} {a : α} {sv pv : Value} {set : List Int} {pairs : List Pair} (hx : us[i]? = some ⟨a, sv, set, pv, pairs⟩) :
  ∃ A1 c1 A2 c2, sv = .slice A1 set.length c1 ∧ pv = .slice A2 pairs.length c2 ∧ set.length ≤ c1 ∧ c1 ≤ 9223372036854775807 ∧ pairs.length ≤ c2 ∧ c2 ≤ 9223372036854775807 := by
 refine H.fact (List.mem_of_getElem? hj) fun F h => ?_
 obtain ⟨A1, c1, e1, g1, g2, _⟩ := rsl_form (tw_set (own_rd F h) hx)
 obtain ⟨A2, c2, e2, g3, g4, _⟩ := rsl_form (tw_pairs (own_rd F h) hx)
 exact ⟨A1, c1, A2, c2, e1, e2, g1, g2, g3, g4⟩
/-! ### Held: the cells in one row, the slices apart -/
theorem tw_cells {r : Two α} {A1 A2 : Option Addr} {n1 c1 n2 c2 : Nat} (e1 : r.sv = .slice A1 n1 c1) (e2 : r.pv = .slice A2 n2 c2) : S.e r = S.f (twF r) := by
 simp [Shp.e, Shp.f, twF, hdrOf, e1, e2]
def twT (r : Two α) : SP := star [osl (kInt .i64) r.sv r.set, osl kPair r.pv r.pairs]
def twS (us : List (Two α)) : SP := bigS twT us
theorem twT_cells {r : Two α} (h : (twT r).P w F) : S.e r = S.f (twF r) := by
 obtain ⟨F1, F2, _, _, _, a, F3, F4, _, _, _, b, _⟩ := h
 obtain ⟨A1, c1, e1, _⟩ := rsl_form (own_rd _ a)
 obtain ⟨A2, c2, e2, _⟩ := rsl_form (own_rd _ b)
 exact tw_cells e1 e2
theorem twT_O {r : Two α} (h : (twT r).P w F) : (kTwo S).O w F r (S.f (twF r)) := by
 have e := twT_cells (S := S) h
 obtain ⟨F1, F2, h1, h2, h3, a, F3, F4, g1, g2, g3, b, _⟩ := h
 exact ⟨e.symm, F1, F3, h1, fun k hk => h2 k (g1 k hk), fun k hk hk2 => h3 k hk (g1 k hk2), a, b⟩
theorem reps_twI : ∀ {us : List (Two α)} {F : Foot}, (twS us).P w F → RepsO (kTwo S) w F us ((us.map twF).flatMap S.f)
 | [], _, _ => rfl
 | u :: us, F, ⟨F1, F2, h1, h2, h3, a, s⟩ => ⟨F1, F2, S.f (twF u), (us.map twF).flatMap S.f, h1, h2, h3, rfl, twT_O a, reps_twI (us := us) s⟩
variable {v : Value} {us : List (Two α)}
theorem Hd.twI (H : Hd w0 F0 w (osl (kTwoF S) v (us.map twF) :: twS us :: As) Rs) : Hd w0 F0 w (osl (kTwo S) v us :: As) Rs := by
 refine H.turn2 fun F1 F2 hd h1 h2 => ?_
 obtain ⟨A, n, c, e, hl, cs, G1, G2, s1, s2, dj, row, reps⟩ := h1
 have hcs : cs = (us.map twF).flatMap S.f := RepsR.flat_eq.1 reps.toR
 subst hcs
 exact ⟨A, n, c, e, by simpa using hl, _, G1, F2, fun k hk => .inl (s1 k hk), fun k hk => .inr hk, fun k hk hg => hd k (s1 k hk) hg, row, reps_twI h2⟩
theorem Hd.twN {r : Two α} (H : Hd w0 F0 w (osl (kInt .i64) r.sv r.set :: osl kPair r.pv r.pairs :: twS us :: As) Rs) : Hd w0 F0 w (twS (us ++ [r]) :: As) Rs :=
 Hd.bigN (f := twT) (x := r) (Hd.stI (Bs := [osl (kInt .i64) r.sv r.set, osl kPair r.pv r.pairs]) H)
theorem Hd.tw0 (H : Hd w0 F0 w As Rs) : Hd w0 F0 w (twS ([] : List (Two α)) :: As) Rs := H.big0 twT
end
/-! ### Messages, letters, acts, snapshots -/
structure MesH where
 kind : Int
 sp : Int
 att : Int
 part : Int
 seq : Int
 next : Int
 ep : Int
 why : Int
def shMes : Shp MesH where
 sz := 10
 enc m s p := [.int .i64 m.kind, .int .i64 m.sp, .int .i64 m.att, .int .i64 m.part, .int .i64 m.seq, .int .i64 m.next, .int .i64 m.ep, .int .i64 m.why, s, p]
 len _ _ _ := rfl
 one _ _ _ c h := by
  simp only [List.mem_cons, List.not_mem_nil, or_false] at h
  rcases h with rfl | rfl | rfl | rfl | rfl | rfl | rfl | rfl | rfl | rfl <;> first | exact .inr (.inr rfl) | exact .inl rfl | exact .inr (.inl rfl)
 pos := by omega
structure A21H where
 won : Bool
 m : MesH
 n : Int
structure A23H where
 hear : Bool
 fr : Int
 m : MesH
structure LetH where
 fr : Int
 to : Int
 m : MesH
abbrev kMes := kTwo shMes
abbrev kMesF := kTwoF shMes
def MesH.p (m : MesH) (set : List Int) (ps : List Pair) : Msg := ⟨m.kind, m.sp, m.att, m.part, m.seq, m.next, m.ep, m.why, set, ps⟩
def mesP (x : Two MesH) : Msg := x.h.p x.set x.pairs
theorem msg_ext {a b : Msg} : a = b ↔ a.kind = b.kind ∧ a.sp = b.sp ∧ a.att = b.att ∧ a.part = b.part ∧ a.seq = b.seq ∧ a.next = b.next ∧ a.ep = b.ep ∧ a.why = b.why ∧ a.set = b.set ∧ a.pairs = b.pairs := by
 constructor
 ·rintro rfl; exact ⟨rfl, rfl, rfl, rfl, rfl, rfl, rfl, rfl, rfl, rfl⟩
 ·rintro ⟨h1, h2, h3, h4, h5, h6, h7, h8, h9, h10⟩
  cases a; cases b
  simp only at h1 h2 h3 h4 h5 h6 h7 h8 h9 h10
  subst h1 h2 h3 h4 h5 h6 h7 h8 h9 h10
  rfl
instance msgD (a b : Msg) : Decidable (a = b) := decidable_of_iff _ msg_ext.symm
/-! ### How they come in -/
section
variable {P : Program} {t : TypeId}
end
/-! ### A result in cells, and another one -/
section
variable {P : Program} {fn : Func} {R : Ending → World → Prop} {n : Nat} {l : Env} {w : World} {t : TypeId} {a : Act}
end

set_option maxHeartbeats 4000000 in
theorem oPush_ok (b : Nat) (J : Job) (M : Mpr) (hJ : OkJ J) (hM : okMp M) :
    Cn Tryz.prog 31 [.pointer (some ⟨b, 0, none⟩)] [mprI b J M] [] (fun v Bs => ∃ zs : List (Two MesH), Bs = [osl kMes v zs, mprI b J M] ∧ (zs.map mesP = pushMpr dg J M)) := by
 intro w0 F0 H
 obtain ⟨vS1, vM2, vC3, vR4, vK5, J6, cw7, ct8, co9, cb10, fv11, vw12, ws13, ⟨hsj14, hws15⟩, H⟩ := mprI_open b J M H
 replace H : Hd _ _ _ [blk b [vS1, .int .i64 J6.parts, vM2, vC3, vR4, .int .i64 J6.chunk, .int .i64 J6.window, .int .i64 J6.fuel, vK5, .int .i64 cw7, .int .i64 ct8, .int .i64 co9, .int .i64 ((M.sp : Nat) : Int), .int .i64 M.att, .int .i64 ((splitM dg J6 M.sp).2), .pointer (some ⟨cb10, 0, none⟩), vw12] 164, blk cb10 [.int .u32 1, .int .i32 0, .int .u32 0, .int .u32 1, fv11, .string (packS (splitM dg J6 M.sp).1)] 234, osl (kHd kPair) vS1 J6.us, osl kIns vM2 J6.map, osl kIns vC3 J6.comb, osl kIns vR4 J6.red, osl (kInt .i64) vK5 J6.marks, osl kPtr vw12 (ws13.map Prod.fst), bigS (winI 239) ws13] [] := H
 have hwf : (ws13.map Prod.fst).length = ws13.length := List.length_map ..
 have hwl : M.ws.length = ws13.length := by rw [← hws15]; exact List.length_map ..
 obtain ⟨A16, c17, rfl, hc18, hm19, hp20⟩ := H.fA 7 rfl
 have hJ2 : OkJ J6 := hsj14.symm.ok hJ
 have hml := hM.2
 refine enter Tryz.func31 rfl rfl (Nat.le_of_ble_eq_true rfl) (c_seq (c_reg (s_1 rfl (s_nil (q_then (c_seq (c_seq (c_reg (s_1 rfl (s_val rfl rfl (r_peq rfl un44 rfl rfl) (s_nil (q_then (c_no rfl (c_skip (q_then (c_seq (c_reg (s_1 rfl (s_nil (q_then (c_seq (c_seq (c_reg (s_1 rfl (s_val rfl rfl (r_nilP rfl rfl) (s_val rfl rfl (r_fa rfl fo164_5 rfl) (s_val rfl rfl (r_ld rfl ty162 rfl (H.cellI 0 rfl rfl)) (s_val rfl rfl (r_lenL rfl un162 rfl) (s_1 rfl (s_nil (q_then (c_block ?_))))))))))))))))))))))))))))))))
 replace H := H.newnil kMesF
 replace H := Hd.tw0 (α := MesH) H
 replace H := H.h1 (A := twS ([] : List (Two MesH))) |>.h2 (A := twS ([] : List (Two MesH))) (B := osl kMesF (.slice none 0 0) (([] : List (Two MesH)).map twF)) |>.p1
 refine c_loop (σ := Nat × Value × List (Two MesH)) (fun (k, q, zs) => [(0, .pointer (some ⟨b, 0, none⟩)), (2, .slice none 0 0), (3, q), (13, .slice A16 ((ws13.map Prod.fst).length) c17), (14, .int .i64 (((ws13.map Prod.fst).length : Nat) : Int)), (15, .int .i64 ((k : Nat) : Int))]) (fun (k, q, zs) w => (Hd w0 F0 w [osl kMesF q (zs.map twF), twS zs, blk b [vS1, .int .i64 J6.parts, vM2, vC3, vR4, .int .i64 J6.chunk, .int .i64 J6.window, .int .i64 J6.fuel, vK5, .int .i64 cw7, .int .i64 ct8, .int .i64 co9, .int .i64 ((M.sp : Nat) : Int), .int .i64 M.att, .int .i64 ((splitM dg J6 M.sp).2), .pointer (some ⟨cb10, 0, none⟩), .slice A16 ((ws13.map Prod.fst).length) c17] 164, blk cb10 [.int .u32 1, .int .i32 0, .int .u32 0, .int .u32 1, fv11, .string (packS (splitM dg J6 M.sp).1)] 234, osl (kHd kPair) vS1 J6.us, osl kIns vM2 J6.map, osl kIns vC3 J6.comb, osl kIns vR4 J6.red, osl (kInt .i64) vK5 J6.marks, osl kPtr (.slice A16 ((ws13.map Prod.fst).length) c17) (ws13.map Prod.fst), bigS (winI 239) ws13] []) ∧ (k ≤ ws13.length) ∧ (zs.map mesP = pushGo dg J6 M.sp M.att (M.ws.take k) 0)) (fun (k, q, zs) => ws13.length - k) (0, .slice none 0 0, []) ⟨rfl, rfl, rfl, rfl, rfl, rfl, trivial⟩ ⟨H, Nat.zero_le _, rfl⟩ ?_
 rintro ⟨k, q, zs⟩ w ⟨H, hk, hz⟩
 have hzl := congrArg List.length hz
 rw [List.length_map] at hzl
 have hpl := pushGo_len (D := dg) (J := J6) (s := M.sp) (att := M.att) (ws := M.ws.take k) 0 (fun x hx => hM.1 x (List.mem_of_mem_take hx))
 rw [List.length_take] at hpl
 refine c_seq (c_reg (s_val rfl rfl (r_lt rfl rfl rfl) (s_nil (q_then (c_seq ?_)))))
 refine c_dec rfl (fun h21 => ?_) (fun h21 => ?_)
 ·refine c_skip (q_then (c_seq (c_block (c_seq (c_reg (s_1 rfl ?_))))))
  obtain ⟨x22, hx23⟩ : ∃ z9, (ws13.map Prod.fst)[k]? = some z9 := ⟨_, List.getElem?_eq_getElem (show k < (ws13.map Prod.fst).length by omega)⟩
  have th24 := H.thA 9 rfl hx23
  refine s_val rfl rfl (r_iaE (p := oOf A16 + k * 1) rfl sl162 rfl rfl (by omega) (by omega) th24 rfl) (s_val rfl rfl (r_ld rfl ty168 rfl (H.elA 9 rfl hx23 (q := 0) rfl rfl)) (s_k 2 rfl (s_nil (q_then (c_seq (c_reg (s_1 rfl ?_)))))))
  obtain ⟨wd25, he26⟩ := win_at hx23
  have hm27 : M.ws[k]? = some wd25 := by rw [← hws15]; exact win_snd he26
  have hok_wd25 := hM.1 _ (at_mem hm27)
  unfold okW at hok_wd25
  replace H := H.pick 10 rfl |>.h3 (A := bigS (winI 239) ws13) (B := osl kMesF q (zs.map twF)) (C := twS zs)
  replace H := Hd.bigO k he26 H
  replace H := H.h2 (A := blk x22 [.int .i64 wd25.c, .int .i64 wd25.s, .int .i64 wd25.e, .int .i64 wd25.x] 239) (B := bigS (winI 239) (ws13.eraseIdx k))
  refine sc (wOpen_ok x22 wd25.c wd25.s wd25.e wd25.x (by first | omega | decide) (by first | omega | decide)) H (lA 0 rfl (fun _ h => h) l0) rfl rfl (e_fn kn108 rfl rfl) ?_
  rintro v28 _ w rfl H
  replace H := H.h1 (A := osl (kInt .i64) v28 (openL wd25.c wd25.s wd25.x)) |>.p2 |>.p2
  replace H := Hd.bigI (f := winI 239) (x := (x22, wd25)) k (lt_of_some he26) H
  rw [win_same he26] at H
  obtain ⟨A29, c30, rfl, hc31, hm32, hp33⟩ := H.fA 1 rfl
  refine s_val rfl rfl (r_lenL rfl un24 rfl) (s_1 rfl (s_nil (q_then ?_)))
  replace H : Hd _ _ _ [bigS (winI 239) ws13, osl (kInt .i64) (.slice A29 ((openL wd25.c wd25.s wd25.x).length) c30) (openL wd25.c wd25.s wd25.x), osl kMesF q (zs.map twF), twS zs, blk b [vS1, .int .i64 J6.parts, vM2, vC3, vR4, .int .i64 J6.chunk, .int .i64 J6.window, .int .i64 J6.fuel, vK5, .int .i64 cw7, .int .i64 ct8, .int .i64 co9, .int .i64 ((M.sp : Nat) : Int), .int .i64 M.att, .int .i64 ((splitM dg J6 M.sp).2), .pointer (some ⟨cb10, 0, none⟩), .slice A16 ((ws13.map Prod.fst).length) c17] 164, blk cb10 [.int .u32 1, .int .i32 0, .int .u32 0, .int .u32 1, fv11, .string (packS (splitM dg J6 M.sp).1)] 234, osl (kHd kPair) vS1 J6.us, osl kIns vM2 J6.map, osl kIns vC3 J6.comb, osl kIns vR4 J6.red, osl (kInt .i64) vK5 J6.marks, osl kPtr (.slice A16 ((ws13.map Prod.fst).length) c17) (ws13.map Prod.fst)] [] := H
  refine c_block ?_
  replace H := H.pick 11 rfl |>.pick 11 rfl |>.pick 11 rfl |>.pick 11 rfl |>.pick 11 rfl |>.pick 11 rfl |>.pick 11 rfl |>.pick 11 rfl |>.p9 |>.pick 11 rfl |>.pick 11 rfl
  have hz0 : zs.map mesP = pushGo dg J6 M.sp M.att (M.ws.take k) 0 ++ (pushAt dg J6 M.sp M.att wd25 k).take 0 := by rw [List.take_zero, List.append_nil]; exact hz
  refine c_loop (σ := Nat × Value × List (Two MesH)) (fun (j, q2, zs2) => [(0, .pointer (some ⟨b, 0, none⟩)), (2, .slice none 0 0), (3, q2), (4, .int .i64 ((k : Nat) : Int)), (13, .slice A16 ((ws13.map Prod.fst).length) c17), (14, .int .i64 (((ws13.map Prod.fst).length : Nat) : Int)), (15, .int .i64 ((k : Nat) : Int)), (21, .slice A29 ((openL wd25.c wd25.s wd25.x).length) c30), (22, .int .i64 (((openL wd25.c wd25.s wd25.x).length : Nat) : Int)), (23, .int .i64 ((j : Nat) : Int))]) (fun (j, q2, zs2) w => (Hd w0 F0 w [osl kMesF q2 (zs2.map twF), twS zs2, osl (kInt .i64) (.slice A29 ((openL wd25.c wd25.s wd25.x).length) c30) (openL wd25.c wd25.s wd25.x), blk b [vS1, .int .i64 J6.parts, vM2, vC3, vR4, .int .i64 J6.chunk, .int .i64 J6.window, .int .i64 J6.fuel, vK5, .int .i64 cw7, .int .i64 ct8, .int .i64 co9, .int .i64 ((M.sp : Nat) : Int), .int .i64 M.att, .int .i64 ((splitM dg J6 M.sp).2), .pointer (some ⟨cb10, 0, none⟩), .slice A16 ((ws13.map Prod.fst).length) c17] 164, blk cb10 [.int .u32 1, .int .i32 0, .int .u32 0, .int .u32 1, fv11, .string (packS (splitM dg J6 M.sp).1)] 234, osl (kHd kPair) vS1 J6.us, osl kIns vM2 J6.map, osl kIns vC3 J6.comb, osl kIns vR4 J6.red, osl (kInt .i64) vK5 J6.marks, osl kPtr (.slice A16 ((ws13.map Prod.fst).length) c17) (ws13.map Prod.fst), bigS (winI 239) ws13] []) ∧ (j ≤ (openL wd25.c wd25.s wd25.x).length) ∧ (zs2.map mesP = pushGo dg J6 M.sp M.att (M.ws.take k) 0 ++ (pushAt dg J6 M.sp M.att wd25 k).take j)) (fun (j, q2, zs2) => (openL wd25.c wd25.s wd25.x).length - j) (0, q, zs) ⟨rfl, rfl, rfl, rfl, rfl, rfl, rfl, rfl, rfl, rfl, trivial⟩ ⟨H, Nat.zero_le _, hz0⟩ ?_
  rintro ⟨j, q2, zs2⟩ w ⟨H, hj, hz2⟩
  have hzl2 := congrArg List.length hz2
  rw [List.length_map, List.length_append, List.length_take, pushAt_len] at hzl2
  have hwl2 := open_le hok_wd25
  have htf : (zs2.map twF).length = zs2.length := List.length_map ..
  refine c_seq (c_reg (s_val rfl rfl (r_lt rfl rfl rfl) (s_nil (q_then (c_seq ?_)))))
  refine c_dec rfl (fun h34 => ?_) (fun h34 => ?_)
  ·refine c_skip (q_then (c_seq (c_block (c_seq (c_reg ?_)))))
   obtain ⟨x35, hx36⟩ : ∃ z9, (openL wd25.c wd25.s wd25.x)[j]? = some z9 := ⟨_, List.getElem?_eq_getElem (show j < (openL wd25.c wd25.s wd25.x).length by omega)⟩
   have th37 := H.thA 2 rfl hx36
   refine s_val rfl rfl (r_iaE (p := oOf A29 + j * 1) rfl sl24 rfl rfl (by omega) (by omega) th37 rfl) (s_val rfl rfl (r_ld rfl ty3 rfl (H.elA 2 rfl hx36 (q := 0) rfl rfl)) (s_1 rfl (s_nil (q_then ?_))))
   replace H := H.pick 11 rfl |>.pick 11 rfl |>.pick 11 rfl |>.pick 11 rfl |>.pick 11 rfl |>.pick 11 rfl |>.pick 11 rfl |>.pick 11 rfl |>.pick 11 rfl |>.pick 11 rfl |>.pick 11 rfl
   replace H : Hd _ _ _ [twS zs2, osl (kInt .i64) (.slice A29 ((openL wd25.c wd25.s wd25.x).length) c30) (openL wd25.c wd25.s wd25.x), blk b [vS1, .int .i64 J6.parts, vM2, vC3, vR4, .int .i64 J6.chunk, .int .i64 J6.window, .int .i64 J6.fuel, vK5, .int .i64 cw7, .int .i64 ct8, .int .i64 co9, .int .i64 ((M.sp : Nat) : Int), .int .i64 M.att, .int .i64 ((splitM dg J6 M.sp).2), .pointer (some ⟨cb10, 0, none⟩), .slice A16 ((ws13.map Prod.fst).length) c17] 164, blk cb10 [.int .u32 1, .int .i32 0, .int .u32 0, .int .u32 1, fv11, .string (packS (splitM dg J6 M.sp).1)] 234, osl (kHd kPair) vS1 J6.us, osl kIns vM2 J6.map, osl kIns vC3 J6.comb, osl kIns vR4 J6.red, osl (kInt .i64) vK5 J6.marks, osl kPtr (.slice A16 ((ws13.map Prod.fst).length) c17) (ws13.map Prod.fst), bigS (winI 239) ws13, osl kMesF q2 (zs2.map twF)] [] := H
   refine c_ord (.e 0 (.e 1 (.e 2 (.e 3 (.e 4 (.e 5 (.e 6 (.e 7 (.e 8 (.e 9 (.e 10 (.e 11 (.e 12 (.e 13 (.m 14 (.e 15 (.m 16 (.m 17 (.e 18 .z))))))))))))))))))) (fun w => ∃ Ar, Hd w0 F0 w (twS zs2 :: osl (kInt .i64) (.slice A29 ((openL wd25.c wd25.s wd25.x).length) c30) (openL wd25.c wd25.s wd25.x) :: blk b [vS1, .int .i64 J6.parts, vM2, vC3, vR4, .int .i64 J6.chunk, .int .i64 J6.window, .int .i64 J6.fuel, vK5, .int .i64 cw7, .int .i64 ct8, .int .i64 co9, .int .i64 ((M.sp : Nat) : Int), .int .i64 M.att, .int .i64 ((splitM dg J6 M.sp).2), .pointer (some ⟨cb10, 0, none⟩), .slice A16 ((ws13.map Prod.fst).length) c17] 164 :: blk cb10 [.int .u32 1, .int .i32 0, .int .u32 0, .int .u32 1, fv11, .string (packS (splitM dg J6 M.sp).1)] 234 :: osl (kHd kPair) vS1 J6.us :: osl kIns vM2 J6.map :: osl kIns vC3 J6.comb :: osl kIns vR4 J6.red :: osl (kInt .i64) vK5 J6.marks :: osl kPtr (.slice A16 ((ws13.map Prod.fst).length) c17) (ws13.map Prod.fst) :: bigS (winI 239) ws13 :: Ar) []) mo (by kernel_rfl) (fun w H => ⟨_, H⟩) H (fun w H => ?_)
   refine d_1 rfl (d_1 rfl (d_val rfl rfl rfl (fun w ⟨Ar, H⟩ => r_nilP rfl rfl) (d_val rfl rfl rfl (fun w ⟨Ar, H⟩ => r_fa rfl fo164_1 rfl) (d_val rfl rfl rfl (fun w ⟨Ar, H⟩ => r_ld rfl ty3 rfl (H.cellI 2 rfl rfl)) (d_1 rfl (d_val rfl rfl rfl (fun w ⟨Ar, H⟩ => r_nilP rfl rfl) (d_val rfl rfl rfl (fun w ⟨Ar, H⟩ => r_fa rfl fo164_2 rfl) (d_val rfl rfl rfl (fun w ⟨Ar, H⟩ => r_ld rfl ty3 rfl (H.cellI 2 rfl rfl)) (d_1 rfl (d_1 rfl (d_1 rfl (d_1 rfl (d_1 rfl (d_main rfl ?_))))))))))))))
   replace H := H.p3
   refine sc (mChunk_ok b vS1 vM2 vC3 vR4 vK5 J6 cw7 ct8 co9 M.sp M.att cb10 fv11 (.slice A16 ((ws13.map Prod.fst).length) c17) ((k : Nat) : Int) x35 (by first | assumption | omega)) H (lA 2 rfl (fun _ h => h) l0) rfl rfl (e_fn kn41 rfl rfl) ?_
   rintro v38 _ w rfl H
   obtain ⟨A39, c40, rfl, hc41, hm42, hp43⟩ := H.fA 0 rfl
   replace H : Hd _ _ _ [osl kPair (.slice A39 ((chunkM dg J6 M.sp M.att ((k : Nat) : Int) x35).length) c40) (chunkM dg J6 M.sp M.att ((k : Nat) : Int) x35), blk cb10 [.int .u32 1, .int .i32 0, .int .u32 0, .int .u32 1, fv11, .string (packS (splitM dg J6 M.sp).1)] 234, twS zs2, osl (kInt .i64) (.slice A29 ((openL wd25.c wd25.s wd25.x).length) c30) (openL wd25.c wd25.s wd25.x), blk b [vS1, .int .i64 J6.parts, vM2, vC3, vR4, .int .i64 J6.chunk, .int .i64 J6.window, .int .i64 J6.fuel, vK5, .int .i64 cw7, .int .i64 ct8, .int .i64 co9, .int .i64 ((M.sp : Nat) : Int), .int .i64 M.att, .int .i64 ((splitM dg J6 M.sp).2), .pointer (some ⟨cb10, 0, none⟩), .slice A16 ((ws13.map Prod.fst).length) c17] 164, osl (kHd kPair) vS1 J6.us, osl kIns vM2 J6.map, osl kIns vC3 J6.comb, osl kIns vR4 J6.red, osl (kInt .i64) vK5 J6.marks, osl kPtr (.slice A16 ((ws13.map Prod.fst).length) c17) (ws13.map Prod.fst), bigS (winI 239) ws13, osl kMesF q2 (zs2.map twF)] [] := H
   replace H := H.pick 11 rfl |>.pick 11 rfl |>.pick 11 rfl |>.pick 11 rfl |>.pick 11 rfl |>.pick 11 rfl |>.pick 11 rfl |>.p8 |>.pick 11 rfl |>.pick 11 rfl |>.pick 11 rfl
   refine d_back ⟨_, H⟩ (d_val rfl rfl rfl (fun w ⟨Ar, H⟩ => r_bd (parts := [(0, .const (.int .i64 2)), (1, .tmp 31), (2, .tmp 35), (3, .tmp 36), (4, .tmp 37), (9, .tmp 41)]) (vs := [.int .i64 2, .int .i64 ((M.sp : Nat) : Int), .int .i64 M.att, .int .i64 ((k : Nat) : Int), .int .i64 x35, .slice A39 ((chunkM dg J6 M.sp M.att ((k : Nat) : Int) x35).length) c40]) (cs := [.int .i64 2, .int .i64 ((M.sp : Nat) : Int), .int .i64 M.att, .int .i64 ((k : Nat) : Int), .int .i64 x35, .int .i64 0, .int .i64 0, .int .i64 0, .slice none 0 0, .slice A39 ((chunkM dg J6 M.sp M.att ((k : Nat) : Int) x35).length) c40]) rfl bd64 rfl rfl) (d_main rfl (s_bsl (parts := [(0, .tmp 42)]) (vs := [.agg #[.int .i64 2, .int .i64 ((M.sp : Nat) : Int), .int .i64 M.att, .int .i64 ((k : Nat) : Int), .int .i64 x35, .int .i64 0, .int .i64 0, .int .i64 0, .slice none 0 0, .slice A39 ((chunkM dg J6 M.sp M.att ((k : Nat) : Int) x35).length) c40]]) (cs := [.int .i64 2, .int .i64 ((M.sp : Nat) : Int), .int .i64 M.att, .int .i64 ((k : Nat) : Int), .int .i64 x35, .int .i64 0, .int .i64 0, .int .i64 0, .slice none 0 0, .slice A39 ((chunkM dg J6 M.sp M.att ((k : Nat) : Int) x35).length) c40]) rfl rfl rfl sl53 zr64 rfl (by decide) (by decide) rfl rfl H (fun b44 w H => ?_))))
   replace H := H.h1 (A := blk b44 [.int .i64 2, .int .i64 ((M.sp : Nat) : Int), .int .i64 M.att, .int .i64 ((k : Nat) : Int), .int .i64 x35, .int .i64 0, .int .i64 0, .int .i64 0, .slice none 0 0, .slice A39 ((chunkM dg J6 M.sp M.att ((k : Nat) : Int) x35).length) c40] 64) |>.pick 11 rfl |>.pick 11 rfl |>.pick 11 rfl |>.pick 11 rfl |>.pick 11 rfl |>.pick 11 rfl |>.pick 11 rfl |>.pick 11 rfl |>.pick 11 rfl |>.pick 11 rfl |>.pick 11 rfl
   refine d_back ⟨_, H⟩ (d_main rfl ?_)
   replace H := H.pick 13 rfl
   refine s_appF (xs := zs2.map twF) (ys := [(⟨⟨2, ((M.sp : Nat) : Int), M.att, ((k : Nat) : Int), x35, 0, 0, 0⟩, ⟨none, 0, 0⟩, ⟨A39, (chunkM dg J6 M.sp M.att ((k : Nat) : Int) x35).length, c40⟩⟩ : TwoF MesH)]) rfl rfl rfl sl53 zr64 rfl (by decide) rfl rfl H (by first | omega | (simp only [List.length_append, List.length_cons, List.length_nil, List.length_map]; omega)) (fun F hA hR => blk_rsl (hA _ (List.mem_of_getElem? (i := 11) rfl)) rfl (by decide) (RepsR.flat_eq.2 rfl)) (fun v45 w H => ?_)
   replace H := H.h1 (A := osl kMesF v45 ((zs2.map twF) ++ [(⟨⟨2, ((M.sp : Nat) : Int), M.att, ((k : Nat) : Int), x35, 0, 0, 0⟩, ⟨none, 0, 0⟩, ⟨A39, (chunkM dg J6 M.sp M.att ((k : Nat) : Int) x35).length, c40⟩⟩ : TwoF MesH)])) |>.pick 11 rfl |>.pick 11 rfl |>.pick 11 rfl |>.pick 11 rfl |>.pick 11 rfl |>.pick 11 rfl |>.pick 11 rfl |>.pick 11 rfl |>.pick 11 rfl |>.pick 11 rfl |>.pick 11 rfl
   refine d_back ⟨_, H⟩ (d_1 rfl (d_nil (q_blockN (q_then (c_reg (s_val rfl rfl (r_add (z := ((j + 1 : Nat) : Int)) rfl rfl rfl (by rw [w64 (by omega) (by omega)]; omega)) (s_1 rfl (s_nil ?_))))))))
   replace H := H.newnil (kInt .i64) |>.pick 12 rfl |>.p2 |>.pick 14 rfl |>.p3 |>.keep 14
   replace H := Hd.twN (r := (⟨(⟨2, M.sp, M.att, (k : Nat), x35, 0, 0, 0⟩ : MesH), .slice none 0 0, [], .slice A39 ((chunkM dg J6 M.sp M.att ((k : Nat) : Int) x35).length) c40, chunkM dg J6 M.sp M.att (k : Nat) x35⟩ : Two MesH)) H
   replace H : Hd w0 F0 w [twS (zs2 ++ [(⟨(⟨2, M.sp, M.att, (k : Nat), x35, 0, 0, 0⟩ : MesH), .slice none 0 0, [], .slice A39 ((chunkM dg J6 M.sp M.att ((k : Nat) : Int) x35).length) c40, chunkM dg J6 M.sp M.att (k : Nat) x35⟩ : Two MesH)]), osl kMesF v45 ((zs2 ++ [(⟨(⟨2, M.sp, M.att, (k : Nat), x35, 0, 0, 0⟩ : MesH), .slice none 0 0, [], .slice A39 ((chunkM dg J6 M.sp M.att ((k : Nat) : Int) x35).length) c40, chunkM dg J6 M.sp M.att (k : Nat) x35⟩ : Two MesH)]).map twF), osl (kInt .i64) (.slice A29 ((openL wd25.c wd25.s wd25.x).length) c30) (openL wd25.c wd25.s wd25.x), blk b [vS1, .int .i64 J6.parts, vM2, vC3, vR4, .int .i64 J6.chunk, .int .i64 J6.window, .int .i64 J6.fuel, vK5, .int .i64 cw7, .int .i64 ct8, .int .i64 co9, .int .i64 ((M.sp : Nat) : Int), .int .i64 M.att, .int .i64 ((splitM dg J6 M.sp).2), .pointer (some ⟨cb10, 0, none⟩), .slice A16 ((ws13.map Prod.fst).length) c17] 164, blk cb10 [.int .u32 1, .int .i32 0, .int .u32 0, .int .u32 1, fv11, .string (packS (splitM dg J6 M.sp).1)] 234, osl (kHd kPair) vS1 J6.us, osl kIns vM2 J6.map, osl kIns vC3 J6.comb, osl kIns vR4 J6.red, osl (kInt .i64) vK5 J6.marks, osl kPtr (.slice A16 ((ws13.map Prod.fst).length) c17) (ws13.map Prod.fst), bigS (winI 239) ws13] [] := by rw [List.map_append]; exact H
   replace H := H.p1
   have hz3 : (zs2 ++ [(⟨(⟨2, M.sp, M.att, (k : Nat), x35, 0, 0, 0⟩ : MesH), .slice none 0 0, [], .slice A39 ((chunkM dg J6 M.sp M.att ((k : Nat) : Int) x35).length) c40, chunkM dg J6 M.sp M.att (k : Nat) x35⟩ : Two MesH)]).map mesP = pushGo dg J6 M.sp M.att (M.ws.take k) 0 ++ (pushAt dg J6 M.sp M.att wd25 k).take (j + 1) := by rw [List.map_append, hz2, pushAt_succ hx36, ← List.append_assoc]; rfl
   exact q_round (s := (j, undef, zs2)) (j + 1, v45, zs2 ++ [(⟨(⟨2, M.sp, M.att, (k : Nat), x35, 0, 0, 0⟩ : MesH), .slice none 0 0, [], .slice A39 ((chunkM dg J6 M.sp M.att ((k : Nat) : Int) x35).length) c40, chunkM dg J6 M.sp M.att (k : Nat) x35⟩ : Two MesH)]) ⟨rfl, rfl, rfl, rfl, rfl, rfl, rfl, rfl, rfl, rfl, trivial⟩ ⟨H, by (try dsimp only); omega, hz3⟩ (by (try dsimp only); omega)
  ·refine c_exit (q_thenE (q_thenE (q_blockE (q_blockN (q_then (c_reg (s_val rfl rfl (r_add (z := ((k + 1 : Nat) : Int)) rfl rfl rfl (by rw [w64 (by omega) (by omega)]; omega)) (s_1 rfl (s_nil ?_)))))))))
   replace H := H.pick 11 rfl |>.pick 11 rfl |>.pick 11 rfl |>.pick 11 rfl |>.pick 11 rfl |>.pick 11 rfl |>.pick 11 rfl |>.pick 11 rfl |>.pick 11 rfl |>.pick 10 rfl |>.pick 10 rfl |>.keep 11 |>.h2 (A := osl kMesF q2 (zs2.map twF)) (B := twS zs2)
   have hzk : zs2.map mesP = pushGo dg J6 M.sp M.att (M.ws.take (k + 1)) 0 := by rw [hz2, List.take_of_length_le (l := pushAt dg J6 M.sp M.att wd25 k) (by rw [pushAt_len]; omega), pushGo_succ hm27]
   exact q_round (s := (k, undef, zs)) (k + 1, q2, zs2) ⟨rfl, rfl, rfl, rfl, rfl, rfl, trivial⟩ ⟨H, by (try dsimp only); omega, hzk⟩ (by (try dsimp only); omega)
 ·refine c_exit (q_thenE (q_thenE (q_blockE (q_then (c_seq (c_reg (s_k 2 rfl (s_nil (q_then (c_ret (q_ret1 rfl rfl ?_)))))))))))
  replace H := H.h2 (A := osl kMesF q (zs.map twF)) (B := twS zs)
  replace H := Hd.twI H
  replace H := H.h1 (A := osl kMes q zs) |>.p9 |>.p9 |>.p9 |>.p9 |>.p9 |>.p9 |>.p9 |>.p9 |>.p9
  replace H := mprI_shut b J M vS1 vM2 vC3 vR4 vK5 J6 cw7 ct8 co9 cb10 fv11 (.slice A16 ((ws13.map Prod.fst).length) c17) ws13 ⟨hsj14, hws15⟩ H
  replace H := H.h1 (A := mprI b J M) |>.p1
  exact fin ⟨zs, rfl, by rw [hz, List.take_of_length_le (by omega)]; exact push_same hsj14 dg M.sp M.att M.ws 0⟩ H

set_option maxHeartbeats 1000000 in
theorem sameInts_ok (v1 v2 : Value) (xs ys : List Int) :
    Cn Tryz.prog 33 [v1, v2] [] [rsl (kInt .i64) v1 xs, rsl (kInt .i64) v2 ys] (fun v Bs => v = .bool (decide (xs = ys)) ∧ Bs = []) := by
 intro w0 F0 H
 obtain ⟨A1, c2, rfl, hc3, hm4, hp5⟩ := H.fR 0 rfl
 obtain ⟨A6, c7, rfl, hc8, hm9, hp10⟩ := H.fR 1 rfl
 refine enter Tryz.func33 rfl rfl (Nat.le_of_ble_eq_true rfl) (c_seq (c_reg (s_1 rfl (s_nil (q_then ?_)))))
 replace H : Hd _ _ _ [] [rsl (kInt .i64) (.slice A1 xs.length c2) xs, rsl (kInt .i64) (.slice A6 ys.length c7) ys] := H
 refine c_seq (c_seq (c_reg (s_1 rfl (s_val rfl rfl (r_lenL rfl un24 rfl) (s_1 rfl (s_val rfl rfl (r_lenL rfl un24 rfl) (s_val rfl rfl (r_ne rfl rfl rfl) (s_nil (q_then ?_)))))))))
 refine c_dec rfl (fun h11 => ?_) (fun h11 => ?_)
 ·refine c_seq (c_reg (s_1 rfl (s_nil (q_then (c_ret (q_thenR (q_ret1 rfl rfl ?_)))))))
  have e : ¬ xs = ys := fun e => h11 (by rw [e])
  exact fin ⟨by rw [decide_eq_false e] <;> rfl, rfl⟩ H
 ·refine c_skip (q_then (c_seq (c_seq (c_reg (s_1 rfl (s_nil (q_then (c_block ?_))))))))
  have hle : xs.length = ys.length := by omega
  refine c_loop (σ := Nat) (fun k => [(0, .slice A1 xs.length c2), (1, .slice A6 ys.length c7), (5, .int .i64 ((k : Nat) : Int))]) (fun k w => (Hd w0 F0 w [] [rsl (kInt .i64) (.slice A1 xs.length c2) xs, rsl (kInt .i64) (.slice A6 ys.length c7) ys]) ∧ (k ≤ xs.length) ∧ (xs.length = ys.length) ∧ (xs.take k = ys.take k)) (fun k => xs.length - k) 0 ⟨rfl, rfl, rfl, trivial⟩ ⟨H, by omega, hle, rfl⟩ ?_
  rintro k w ⟨H, hk, hle, ht⟩
  refine c_seq (c_seq (c_reg (s_k 2 rfl (s_val rfl rfl (r_lenL rfl un24 rfl) (s_val rfl rfl (r_lt rfl rfl rfl) (s_nil (q_then ?_)))))))
  refine c_dec rfl (fun h12 => ?_) (fun h12 => ?_)
  ·refine c_skip (q_then (c_seq (c_block (c_seq (c_draw mo (by kernel_rfl) H (u_k 2 rfl ?_))))))
   obtain ⟨x13, hx14⟩ : ∃ z9, xs[k]? = some z9 := ⟨_, List.getElem?_eq_getElem (show k < xs.length by omega)⟩
   have th15 := H.thR 0 rfl hx14
   refine u_val rfl rfl (fun w H => r_iaE (p := oOf A1 + k * 1) rfl sl24 rfl rfl (by omega) (by omega) th15 rfl) (u_val rfl rfl (fun w H => r_ld rfl ty3 rfl (H.elR 0 rfl hx14 (q := 0) rfl rfl)) (u_k 2 rfl ?_))
   obtain ⟨x16, hx17⟩ : ∃ z9, ys[k]? = some z9 := ⟨_, List.getElem?_eq_getElem (show k < ys.length by omega)⟩
   have th18 := H.thR 1 rfl hx17
   refine u_val rfl rfl (fun w H => r_iaE (p := oOf A6 + k * 1) rfl sl24 rfl rfl (by omega) (by omega) th18 rfl) (u_val rfl rfl (fun w H => r_ld rfl ty3 rfl (H.elR 1 rfl hx17 (q := 0) rfl rfl)) (u_val rfl rfl (fun w H => r_ne rfl rfl rfl) (u_end (fun w H => (q_then ?_)))))
   refine c_dec rfl (fun h19 => ?_) (fun h19 => ?_)
   ·refine c_seq (c_reg (s_1 rfl (s_nil (q_then (c_ret (q_blockR (q_thenR (q_thenR (q_blockR (q_thenR (q_ret1 rfl rfl ?_)))))))))))
    have e : ¬ xs = ys := fun e => h19 (by rw [e, hx17] at hx14; exact (Option.some.inj hx14).symm)
    exact fin ⟨by rw [decide_eq_false e] <;> rfl, rfl⟩ H
   ·refine c_skip (q_blockN (q_then (c_reg (s_1 rfl (s_val rfl rfl (r_add (z := ((k + 1 : Nat) : Int)) rfl rfl rfl (by rw [w64 (by omega) (by omega)]; omega)) (s_1 rfl (s_nil ?_)))))))
    have e : x13 = x16 := Classical.not_not.1 h19
    subst e
    exact q_round (s := k) (k + 1) ⟨rfl, rfl, rfl, trivial⟩ ⟨H, by omega, hle, take_more hx14 hx17 ht⟩ (by (try dsimp only); omega)
  ·refine c_exit (q_thenE (q_thenE (q_blockE (q_then (c_seq (c_reg (s_1 rfl (s_nil (q_then (c_ret (q_ret1 rfl rfl ?_)))))))))))
   have e : xs = ys := by rw [← take_all (xs := xs) (k := k) (by omega), ← take_all (xs := ys) (k := k) (by omega)]; exact ht
   exact fin ⟨by rw [decide_eq_true e] <;> rfl, rfl⟩ H
set_option maxHeartbeats 1000000 in
theorem low_ok (x : Int) (n : Int) (hx : In64 x) (h0 : 0 < n) (hn : n ≤ 9223372036854775807) :
    Cn Tryz.prog 22 [.int .i64 x, .int .i64 n] [] [] (fun v Bs => v = .int .i64 (IntKind.u64.wrap x % n) ∧ Bs = []) := by
 intro w0 F0 H
 exact enter Tryz.func22 rfl rfl (Nat.le_of_ble_eq_true rfl) (c_seq (c_reg (s_1 rfl (s_nil (q_then (c_seq (c_reg (s_1 rfl (s_val rfl rfl (r_i2i (z := IntKind.u64.wrap x) rfl rfl un3 un158 rfl) (s_1 rfl (s_val rfl rfl (r_i2i (z := n) rfl rfl un3 un158 (wu64 (by omega) (by omega))) (s_val rfl rfl (r_rem (z := (IntKind.u64.wrap x) % n) rfl rfl rfl (by omega) (Int.tmod_eq_emod_of_nonneg (wrapU x).1)) (s_val rfl rfl (r_i2i (z := (IntKind.u64.wrap x) % n) rfl rfl un158 un3 (w64 (by have := Int.emod_nonneg (IntKind.u64.wrap x) (show n ≠ 0 by omega); omega) (by have := Int.emod_lt_of_pos (IntKind.u64.wrap x) h0; omega))) (s_1 rfl (s_nil (q_then (c_ret (q_ret1 rfl rfl (fin ⟨rfl, rfl⟩ H)))))))))))))))))))

set_option maxHeartbeats 4000000 in
theorem awake19_ok  :
    Cn Tryz.prog 26 [] [] [gl] (fun v Bs => v = .bool true ∧ Bs = []) := by
 intro w0 F0 H
 refine enter Tryz.func26 rfl rfl (Nat.le_of_ble_eq_true rfl) (c_seq (c_reg (s_1 rfl (s_nil (q_then (c_seq (c_reg (sc (smallW19_ok) H l0 rfl rfl (e_fn kn93 rfl rfl) ?_))))))))
 rintro _ _ w ⟨vS1, vP2, u3, rfl, rfl⟩ H
 have hgo2 := small19_go2 u3
 have hC2 := small19_may u3
 have hO2 := small19_ok u3
 replace H : Hd _ _ _ [osl (kHd kPair) vS1 [(u3, twoR)], osl kIns vP2 firstP] [gl] := H
 refine sc (mapNew_ok vS1 vP2 (.slice none 0 0) vP2 (.slice none 0 0) (small19 u3) 0 2 (by first | assumption | omega) (by first | assumption | omega) (by first | assumption | omega)) H (lA 0 rfl own_rd (lA 1 rfl own_rd (lX (fun F _ _ => rsl_nil _ _ F trivial (by decide)) (lA 1 rfl own_rd (lX (fun F _ _ => rsl_nil _ _ F trivial (by decide)) (lR 0 rfl l0)))))) rfl rfl (e_fn kn27 rfl rfl) ?_
 rintro _ _ w ⟨b4, rfl, rfl⟩ H
 replace H := H.h1 (A := mprI b4 ((small19 u3).J) (newMpr dg (small19 u3).J 0 2))
 obtain ⟨M2, hM2⟩ : ∃ z : Mpr, z = newMpr dg (small19 u3).J 0 2 := ⟨_, rfl⟩
 rw [← hM2] at H
 replace H : Hd _ _ _ [mprI b4 ((small19 u3).J) M2, osl (kHd kPair) vS1 [(u3, twoR)], osl kIns vP2 firstP] [gl] := H
 obtain ⟨hok2, hc2, hp2, hk2, hd2⟩ := s19_a2 hM2
 have hok3 := okMp_ack hok2 (p := 0) (ep := 1) (n := 2) (by unfold In64; omega)
 refine s_k 5 rfl (s_nil (q_then ?_))
 replace H := H.k1
 refine c_seq (c_reg (sc (smallW19_ok) H l0 rfl rfl (e_fn kn93 rfl rfl) ?_))
 rintro _ _ w ⟨vS5, vP6, u7, rfl, rfl⟩ H
 replace H := H.h2 (A := osl (kHd kPair) vS5 [(u7, twoR)]) (B := osl kIns vP6 firstP)
 have hgo1 := small19_go1 u7
 have hC1 := small19_may u7
 have hO1 := small19_ok u7
 refine sc (mapNew_ok vS5 vP6 (.slice none 0 0) vP6 (.slice none 0 0) (small19 u7) 0 1 (by first | assumption | omega) (by first | assumption | omega) (by first | assumption | omega)) H (lA 0 rfl own_rd (lA 1 rfl own_rd (lX (fun F _ _ => rsl_nil _ _ F trivial (by decide)) (lA 1 rfl own_rd (lX (fun F _ _ => rsl_nil _ _ F trivial (by decide)) (lR 0 rfl l0)))))) rfl rfl (e_fn kn27 rfl rfl) ?_
 rintro _ _ w ⟨b8, rfl, rfl⟩ H
 replace H := H.h1 (A := mprI b8 ((small19 u7).J) (newMpr dg (small19 u7).J 0 1))
 obtain ⟨M1, hM1⟩ : ∃ z : Mpr, z = newMpr dg (small19 u7).J 0 1 := ⟨_, rfl⟩
 rw [← hM1] at H
 replace H : Hd _ _ _ [mprI b8 ((small19 u7).J) M1, osl (kHd kPair) vS5 [(u7, twoR)], osl kIns vP6 firstP, mprI b4 ((small19 u3).J) M2] [gl] := H
 obtain ⟨hok1, hc1, hd1⟩ := s19_a1 hM1
 refine s_k 5 rfl (s_nil (q_then ?_))
 replace H := H.p3.p1.k2
 refine c_seq (c_seq (c_reg (s_1 rfl (s_val rfl rfl (r_ne rfl rfl rfl) (s_k 2 rfl (s_val rfl rfl (r_ne rfl rfl rfl) (s_k 3 rfl (s_val rfl rfl (r_peq rfl un44 rfl rfl) (s_k 3 rfl (s_val rfl rfl (r_peq rfl un44 rfl rfl) (s_1 rfl (s_nil (q_then (c_no rfl (c_skip (q_then (c_seq (c_reg (s_1 rfl ?_)))))))))))))))))))
 replace H := H.p1
 refine sc (oCounts_ok b4 ((small19 u3).J) M2 (by first | assumption | omega)) H l0 rfl rfl (e_fn kn30 rfl rfl) ?_
 rintro v9 _ w rfl H
 refine s_bsl (parts := [(0, .const (.int .i64 2))]) (vs := [.int .i64 2]) (cs := [.int .i64 2]) rfl rfl rfl sl24 zr3 rfl (by decide) (by decide) rfl rfl H (fun b10 w H => (sc (sameInts_ok v9 (.slice (some ⟨b10, 0, none⟩) 1 1) (countsM dg ((small19 u3).J) M2.sp M2.att) [2]) H (lA 1 rfl own_rd (lA 0 rfl (fun F h => blk_rsl h rfl (by decide) (RepsR.flat_eq.2 rfl)) l0)) rfl rfl (e_fn kn33 rfl rfl) ?_))
 rintro _ _ w ⟨rfl, rfl⟩ H
 refine s_1 rfl ?_
 refine s_dec (d := 33) rfl (fun h11 => ?_) (fun h11 => ?_)
 ·refine s_1 rfl ?_
  replace H := H.p3
  replace H : Hd _ _ _ [mprI b8 ((small19 u7).J) M1, blk b10 [.int .i64 2] 3, osl (kInt .i64) v9 (countsM dg ((small19 u3).J) M2.sp M2.att), mprI b4 ((small19 u3).J) M2] [gl] := H
  refine sc (oCounts_ok b8 ((small19 u7).J) M1 (by first | assumption | omega)) H l0 rfl rfl (e_fn kn30 rfl rfl) ?_
  rintro v12 _ w rfl H
  refine s_bsl (parts := [(0, .const (.int .i64 1))]) (vs := [.int .i64 1]) (cs := [.int .i64 1]) rfl rfl rfl sl24 zr3 rfl (by decide) (by decide) rfl rfl H (fun b13 w H => (sc (sameInts_ok v12 (.slice (some ⟨b13, 0, none⟩) 1 1) (countsM dg ((small19 u7).J) M1.sp M1.att) [1]) H (lA 1 rfl own_rd (lA 0 rfl (fun F h => blk_rsl h rfl (by decide) (RepsR.flat_eq.2 rfl)) l0)) rfl rfl (e_fn kn33 rfl rfl) ?_))
  rintro _ _ w ⟨rfl, rfl⟩ H
  refine s_k 2 rfl ?_
  refine s_dec (d := 39) rfl (fun h14 => ?_) (fun h14 => ?_)
  ·refine s_1 rfl ?_
   replace H := H.p5
   replace H : Hd _ _ _ [mprI b4 ((small19 u3).J) M2, blk b13 [.int .i64 1] 3, osl (kInt .i64) v12 (countsM dg ((small19 u7).J) M1.sp M1.att), mprI b8 ((small19 u7).J) M1, blk b10 [.int .i64 2] 3, osl (kInt .i64) v9 (countsM dg ((small19 u3).J) M2.sp M2.att)] [gl] := H
   refine sc (oPush_ok b4 ((small19 u3).J) M2 (by first | assumption | omega) (by first | assumption | omega)) H l0 rfl rfl (e_fn kn31 rfl rfl) ?_
   rintro v17 _ w ⟨zs15, rfl, hf16⟩ H
   have hpl := congrArg List.length hf16
   rw [List.length_map, hp2] at hpl
   obtain ⟨A18, c19, rfl, hc20, hm21, hp22⟩ := H.fA 0 rfl
   replace H : Hd _ _ _ [osl kMes (.slice A18 zs15.length c19) zs15, mprI b4 ((small19 u3).J) M2, blk b13 [.int .i64 1] 3, osl (kInt .i64) v12 (countsM dg ((small19 u7).J) M1.sp M1.att), mprI b8 ((small19 u7).J) M1, blk b10 [.int .i64 2] 3, osl (kInt .i64) v9 (countsM dg ((small19 u3).J) M2.sp M2.att)] [gl] := H
   refine s_val rfl rfl (r_lenL rfl un53 rfl) (s_val rfl rfl (r_eq rfl rfl rfl) (s_k 2 rfl ?_))
   refine s_dec (d := 45) rfl (fun h23 => ?_) (fun h23 => ?_)
   ·refine s_1 rfl ?_
    replace H := H.p1
    refine sc (oAck_ok b4 ((small19 u3).J) M2 0 1 2 (by first | assumption | omega)) H l0 rfl rfl (e_fn kn44 rfl rfl) ?_
    rintro _ _ w ⟨rfl, rfl⟩ H
    refine s_k 2 rfl ?_
    refine s_boo (d := 49) (b := (ackMpr M2 0 1 2).2) rfl (fun h24 => ?_) (fun h24 => ?_)
    ·refine s_1 rfl ?_
     replace H : Hd _ _ _ [mprI b4 ((small19 u3).J) ((ackMpr M2 0 1 2).1), osl kMes (.slice A18 zs15.length c19) zs15, blk b13 [.int .i64 1] 3, osl (kInt .i64) v12 (countsM dg ((small19 u7).J) M1.sp M1.att), mprI b8 ((small19 u7).J) M1, blk b10 [.int .i64 2] 3, osl (kInt .i64) v9 (countsM dg ((small19 u3).J) M2.sp M2.att)] [gl] := H
     refine sc (oDone_ok b4 ((small19 u3).J) ((ackMpr M2 0 1 2).1) (by first | assumption | omega)) H l0 rfl rfl (e_fn kn37 rfl rfl) ?_
     rintro _ _ w ⟨rfl, rfl⟩ H
     refine s_k 2 rfl ?_
     refine s_boo (d := 53) (b := doneMpr ((ackMpr M2 0 1 2).1)) rfl (fun h25 => ?_) (fun h25 => ?_)
     ·refine s_1 rfl ?_
      replace H := H.p4
      replace H : Hd _ _ _ [mprI b8 ((small19 u7).J) M1, mprI b4 ((small19 u3).J) ((ackMpr M2 0 1 2).1), osl kMes (.slice A18 zs15.length c19) zs15, blk b13 [.int .i64 1] 3, osl (kInt .i64) v12 (countsM dg ((small19 u7).J) M1.sp M1.att), blk b10 [.int .i64 2] 3, osl (kInt .i64) v9 (countsM dg ((small19 u3).J) M2.sp M2.att)] [gl] := H
      refine sc (oDone_ok b8 ((small19 u7).J) M1 (by first | assumption | omega)) H l0 rfl rfl (e_fn kn37 rfl rfl) ?_
      rintro _ _ w ⟨rfl, rfl⟩ H
      refine s_val rfl rfl (r_not rfl rfl rfl) (s_k 2 rfl (s_nil (q_then ?_)))
      replace H := H.nil
      replace H : Hd _ _ _ [] [gl] := H
      exact c_ret (q_ret1 rfl rfl (fin ⟨congrArg Value.bool (by first | exact decide_eq_true (by omega) | simp [hd1]), rfl⟩ H))
     ·exact absurd hd2 (by simpa using h25)
    ·exact absurd hk2 (by simpa using h24)
   ·exact (h23 (by omega)).elim
  ·exact (h14 hc1).elim
 ·exact (h11 hc2).elim

def cntP (ms : List Msg) (p : Int) : Nat := (ms.filter fun m => decide (m.part = p)).length
theorem cntP_app (a b : List Msg) (p : Int) : cntP (a ++ b) p = cntP a p + cntP b p := by unfold cntP; rw [List.filter_append, List.length_append]
theorem cntP_all {a : List Msg} {p : Int} (h : ∀ m ∈ a, m.part = p) : cntP a p = a.length := by
 unfold cntP
 rw [List.filter_eq_self.2 fun m hm => decide_eq_true (h m hm)]
theorem cntP_none {a : List Msg} {p : Int} (h : ∀ m ∈ a, m.part ≠ p) : cntP a p = 0 := by
 unfold cntP
 rw [List.filter_eq_nil_iff.2 fun m hm => by rw [decide_eq_true_iff]; exact h m hm]
 rfl
theorem cntP_snoc {ms : List Msg} {i : Nat} {m : Msg} (h : ms[i]? = some m) (p : Int) : cntP (ms.take (i + 1)) p = cntP (ms.take i) p + if m.part = p then 1 else 0 := by
 rw [take_snoc h, cntP_app]
 unfold cntP
 by_cases e : m.part = p <;> simp [e]
theorem pushAt_part {D : Dig} {J : Job} {s : Nat} {att : Int} {w : WinD} {p : Nat} {m : Msg} (h : m ∈ pushAt D J s att w p) : m.part = p := by
 obtain ⟨q, _, rfl⟩ := List.mem_map.1 h
 rfl
theorem push_at {D : Dig} {J : Job} {s : Nat} {att : Int} : ∀ {ws : List WinD} (o : Nat) {i : Nat} {m : Msg}, (pushGo D J s att ws o)[i]? = some m →
  ∃ (p : Nat) (w : WinD) (q : Int), ws[p]? = some w ∧ q = w.x + (cntP ((pushGo D J s att ws o).take i) ((o + p : Nat) : Int) : Nat) ∧ m = ⟨2, s, att, ((o + p : Nat) : Int), q, 0, 0, 0, [], chunkM D J s att ((o + p : Nat) : Int) q⟩ ∧ q < w.x + min w.s (w.c - w.x)
 | [], o, i, m, h => by simp [pushGo] at h
 | w :: ws, o, i, m, h => by
  have hA : ∀ x ∈ pushAt D J s att w o, x.part = (o : Int) := fun x hx => pushAt_part hx
  have e : pushGo D J s att (w :: ws) o = pushAt D J s att w o ++ pushGo D J s att ws (o + 1) := rfl
  rw [e] at h ⊢
  by_cases hi : i < (pushAt D J s att w o).length
  ·rw [List.getElem?_append_left hi] at h
   have hi2 : i < (openL w.c w.s w.x).length := by rw [pushAt_len] at hi; exact hi
   obtain ⟨q, hq⟩ : ∃ q, (openL w.c w.s w.x)[i]? = some q := ⟨_, List.getElem?_eq_getElem hi2⟩
   have hq2 := upL_get hq
   have hm : m = ⟨2, s, att, ((o + 0 : Nat) : Int), q, 0, 0, 0, [], chunkM D J s att ((o + 0 : Nat) : Int) q⟩ := by
    unfold pushAt at h
    rw [List.getElem?_map, hq] at h
    exact (Option.some.inj h).symm
   refine ⟨0, w, q, rfl, ?_, hm, ?_⟩
   ·rw [List.take_append_of_le_length (by omega), Nat.add_zero, cntP_all (fun x hx => hA x (List.mem_of_mem_take hx)), List.length_take, Nat.min_eq_left (by omega)]
    exact hq2
   ·rw [openL_len] at hi2
    omega
  ·rw [List.getElem?_append_right (by omega)] at h
   obtain ⟨p, w2, q, h1, h2, h3, h4⟩ := push_at (o + 1) h
   have eo : o + 1 + p = o + (p + 1) := by omega
   rw [eo] at h2 h3
   refine ⟨p + 1, w2, q, h1, ?_, h3, h4⟩
   rw [List.take_append, cntP_app, List.take_of_length_le (by omega), cntP_none (fun x hx => by rw [hA x hx]; omega), Nat.zero_add]
   exact h2
/-! ### Four numbers in a row -/
def arr4 (f : Nat → Int) : List Value := [.int .i64 (f 0), .int .i64 (f 1), .int .i64 (f 2), .int .i64 (f 3)]
theorem arr4_at {f : Nat → Int} {j : Nat} (h : j < 4) : (arr4 f)[0 + j * 1]? = some (.int .i64 (f j)) := by
 rw [Nat.zero_add, Nat.mul_one]
 match j, h with
 | 0, _ => rfl
 | 1, _ => rfl
 | 2, _ => rfl
 | 3, _ => rfl
theorem arr4_put {f : Nat → Int} {j : Nat} (h : j < 4) (v : Int) : puts (arr4 f) (0 + j * 1) [.int .i64 v] = arr4 (setD f j v) := by
 rw [Nat.zero_add, Nat.mul_one]
 match j, h with
 | 0, _ => rfl
 | 1, _ => rfl
 | 2, _ => rfl
 | 3, _ => rfl
/-! ### What a caller keeps beside an attempt -/
structure RelP (M : Mpr) (s : Nat) (att : Int) (cs : List Int) (wn : Int) (tp lw : Nat → Int) : Prop where
 sp : M.sp = s
 att : M.att = att
 len : M.ws.length = cs.length
 at_ : ∀ p w, M.ws[p]? = some w → tp p = w.e ∧ lw p = w.x ∧ cs[p]? = some w.c ∧ w.s = wn
theorem RelP.new (D : Dig) (J : Job) (s : Nat) (att : Int) : RelP (newMpr D J s att) s att (countsM D J s att) J.window (fun _ => 0) (fun _ => 0) := by
 refine ⟨rfl, rfl, List.length_map .., fun p w h => ?_⟩
 rw [newMpr_ws, List.getElem?_map] at h
 obtain ⟨c, hc, rfl⟩ := Option.map_eq_some_iff.1 h
 exact ⟨rfl, rfl, hc, rfl⟩
section
variable {M : Mpr} {s : Nat} {att wn : Int} {cs : List Int} {tp lw : Nat → Int} {p ep n : Int}
theorem RelP.no (r : RelP M s att cs wn tp lw) (h : ¬ (0 ≤ p ∧ p < (cs.length : Int) ∧ 1 ≤ ep ∧ tp p.toNat ≤ ep)) : RelP (ackMpr M p ep n).1 s att cs wn tp lw := by
 by_cases hp : 0 ≤ p ∧ p < M.ws.length
 ·obtain ⟨w, hw⟩ : ∃ w, M.ws[p.toNat]? = some w := ⟨_, List.getElem?_eq_getElem (show p.toNat < M.ws.length by omega)⟩
  have h1 := r.at_ _ _ hw
  have h2 := r.len
  obtain ⟨a, b, c⟩ := ack_no (c := w.c) (e := w.e) (x := w.x) (ep := ep) (n := n) (by omega)
  have e : ackW w ep n = w := by
   show (⟨w.c, w.s, ackE w.c w.e w.x ep n, ackX w.c w.e w.x ep n⟩ : WinD) = w
   rw [b, c]
  rw [ackMpr_yes hp hw, e]
  have es : M.ws.set p.toNat w = M.ws := set_same hw
  rw [es]
  exact r
 ·rw [ackMpr_no hp]; exact r
theorem RelP.yes (r : RelP M s att cs wn tp lw) {c : Int} (hp : 0 ≤ p) (hc : cs[p.toNat]? = some c) (h1 : 1 ≤ ep) (h2 : tp p.toNat ≤ ep) {lw1 : Nat → Int} (hl : lw1 p.toNat = if tp p.toNat < ep then min (max n 0) c else lw p.toNat) (ho : ∀ j, j ≠ p.toNat → lw1 j = lw j) :
  RelP (ackMpr M p ep n).1 s att cs wn (setD tp p.toNat ep) (setD lw1 p.toNat (max (lw1 p.toNat) (min (max n 0) c))) := by
 have hcl : p.toNat < cs.length := by
  rcases Nat.lt_or_ge p.toNat cs.length with h | h
  ·exact h
  ·rw [List.getElem?_eq_none h] at hc; cases hc
 have hl2 := r.len
 obtain ⟨w, hw⟩ : ∃ w, M.ws[p.toNat]? = some w := ⟨_, List.getElem?_eq_getElem (show p.toNat < M.ws.length by omega)⟩
 obtain ⟨g1, g2, g3, g4⟩ := r.at_ _ _ hw
 have g5 : c = w.c := Option.some.inj (hc.symm.trans g3)
 rw [ackMpr_yes (by omega) hw]
 refine ⟨r.sp, r.att, by rw [List.length_set]; exact r.len, fun q x hx => ?_⟩
 by_cases hq : q = p.toNat
 ·subst hq
  rw [List.getElem?_set_self (by omega)] at hx
  obtain rfl := Option.some.inj hx
  rw [setD_self, setD_self]
  have hk : ackN w.c n = min (max n 0) c := by rw [g5]; rfl
  refine ⟨?_, ?_, g3, g4⟩
  ·show ep = ackE w.c w.e w.x ep n
   by_cases hb : max w.e 1 ≤ ep ∧ ¬ (ep = w.e ∧ ackN w.c n ≤ w.x)
   ·exact (ack_yes hb).2.1.symm
   ·rw [(ack_no hb).2.1]; omega
  ·show _ = ackX w.c w.e w.x ep n
   rw [hl]
   by_cases hb : max w.e 1 ≤ ep ∧ ¬ (ep = w.e ∧ ackN w.c n ≤ w.x)
   ·rw [(ack_yes hb).2.2, hk]
    rw [hk] at hb
    split <;> omega
   ·rw [(ack_no hb).2.2]
    rw [hk] at hb
    rw [if_neg (by omega)]
    omega
 ·rw [List.getElem?_set_ne (fun e => hq e.symm)] at hx
  rw [setD_ne _ _ hq, setD_ne _ _ hq, ho q hq]
  exact r.at_ q x hx
theorem RelP.low (r : RelP M s att cs wn tp lw) (hM : okMp M) {q : Nat} (h : q < cs.length) : (0 ≤ lw q ∧ lw q ≤ 40) ∧ 0 ≤ tp q ∧ tp q ≤ 9223372036854775807 := by
 have hl := r.len
 obtain ⟨w, hw⟩ : ∃ w, M.ws[q]? = some w := ⟨_, List.getElem?_eq_getElem (show q < M.ws.length by omega)⟩
 obtain ⟨g1, g2, g3, g4⟩ := r.at_ _ _ hw
 have h2 := hM.1 _ (at_mem hw)
 obtain ⟨h3, h4, h5, h6⟩ := h2
 omega
theorem RelP.msg (r : RelP M s att cs wn tp lw) {D : Dig} {J : Job} {i : Nat} {m : Msg} (h : (pushMpr D J M)[i]? = some m) :
  m.kind = 2 ∧ m.sp = s ∧ m.att = att ∧ 0 ≤ m.part ∧ m.part < (cs.length : Int) ∧ m.seq = lw m.part.toNat + (cntP ((pushMpr D J M).take i) m.part : Nat) ∧ m.pairs = chunkM D J M.sp M.att m.part m.seq ∧ ((cntP ((pushMpr D J M).take i) m.part : Nat) : Int) + 1 ≤ wn := by
 obtain ⟨p, w, q, h1, h2, h3, h4⟩ := push_at 0 h
 have hp : p < M.ws.length := by
  rcases Nat.lt_or_ge p M.ws.length with h | h
  ·exact h
  ·rw [List.getElem?_eq_none h] at h1; cases h1
 have hl := r.len
 obtain ⟨g1, g2, g3, g4⟩ := r.at_ _ _ h1
 rw [Nat.zero_add] at h2 h3
 subst h3
 dsimp only
 rw [Int.toNat_natCast, g2]
 refine ⟨rfl, congrArg Int.ofNat r.sp, r.att, by omega, by omega, h2, rfl, ?_⟩
 have e : pushMpr D J M = pushGo D J M.sp M.att M.ws 0 := rfl
 rw [e]
 omega
end
def seenR (ms : List Msg) (sn : Nat → Int) : Prop := ∀ p : Nat, sn p = (cntP ms (p : Int) : Nat)
theorem seen_0 : seenR [] (fun _ => 0) := fun p => rfl
theorem seen_step {ms : List Msg} {i : Nat} {m : Msg} {sn : Nat → Int} (h : seenR (ms.take i) sn) (hm : ms[i]? = some m) (h0 : 0 ≤ m.part) : seenR (ms.take (i + 1)) (setD sn m.part.toNat (sn m.part.toNat + 1)) := by
 intro p
 rw [cntP_snoc hm]
 by_cases e : p = m.part.toNat
 ·subst e
  rw [setD_self, h, if_pos (by omega)]
  rfl
 ·rw [setD_ne _ _ e, h, if_neg (by omega)]
  rfl

structure Act3 where
 x : Int
 y : Int
 z : Int
deriving DecidableEq
def encAct3 (p : Act3) : List Value := [.int .i64 p.x, .int .i64 p.y, .int .i64 p.z]
def kAct3 : Kd Act3 := flat encAct3 3 (by omega) (fun _ => rfl) (fun _ c h => by simp [encAct3] at h; rcases h with rfl | rfl | rfl <;> rfl)
theorem opens_act3 {P : Program} {t i : TypeId} (hs : stOf P t = some [(i, 0, 1), (i, 1, 1), (i, 2, 1)]) (hc : P.cellsOf t = 3) (hi : P.underlying i = some (.int .i64)) : Opens P t kAct3 (fun p => In64 p.x ∧ In64 p.y ∧ In64 p.z) := by
 intro H enc w fuel cs x h
 obtain ⟨hl, n, hf⟩ := open_st hs h
 rw [hc] at hl
 obtain ⟨y0, h0⟩ := hf 0 _ _ _ rfl
 obtain ⟨y1, h1⟩ := hf 1 _ _ _ rfl
 obtain ⟨y2, h2⟩ := hf 2 _ _ _ rfl
 obtain ⟨a, b, c, rfl⟩ : ∃ a b c, cs = [a, b, c] := by
  match cs, hl with
  | [a, b, c], _ => exact ⟨a, b, c, rfl⟩
 obtain ⟨s0, ⟨e0⟩, l0⟩ := opens_int hi enc w n _ _ h0
 obtain ⟨s1, ⟨e1⟩, l1⟩ := opens_int hi enc w n _ _ h1
 obtain ⟨s2, ⟨e2⟩, l2⟩ := opens_int hi enc w n _ _ h2
 exact ⟨⟨s0, s1, s2⟩, rfl, l0, l1, l2⟩

end Go.Proofs.YthgehekecfpikaaGreatDoor.X
