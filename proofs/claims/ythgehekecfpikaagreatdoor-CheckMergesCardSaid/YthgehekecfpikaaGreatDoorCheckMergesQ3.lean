/- CheckMerges: texts V5, P1, V6, V7, P2, joined by a program of ours; what nothing names is left out. -/
import Derived.Test.YthgehekecfpikaaGreatDoorCheckMergesQ2
import Derived.Test.YthgehekecfpikaaGreatDoorShelf
set_option linter.unusedVariables false
set_option linter.unusedSimpArgs false
set_option maxHeartbeats 8000000
namespace Go.Proofs.YthgehekecfpikaaGreatDoor.X
open Go
theorem does_ok (r : Nat) (pv : Value) (key : ByteArray) (vv : Value) (fuel pos steps : Int) (halted : Bool) (sv : Value) (g : Nat → Val) (tv : Value) (mb : Nat) (stk : List Val) (told : List Pair) (vals : List ByteArray) (i : Ins) (n : Int) (hst : stk.length ≤ 16) (hto : told.length ≤ 40) (hok : (∀ v ∈ stk, OkV v) ∧ ∀ k, OkV (g k)) (hi : goodI i n) :
    Cn Tryz.prog 243 [.pointer (some ⟨r, 0, none⟩), .agg #[.int .i64 i.op, .int .i64 i.a, .string i.s]] [blk r (runC pv key vv fuel pos steps halted sv g tv (.map (some mb))) 288, osl kVal sv stk, osl kPair tv told, digsP mb] [rsl kStr vv vals, gl] (fun v Bs => ∃ sv2 tv2 vv2, v = .int .i64 (doesM dg key ⟨pos, halted, stk, g, told, vals⟩ i).2 ∧ Suf kStr vv vals vv2 (doesM dg key ⟨pos, halted, stk, g, told, vals⟩ i).1.vals ∧ Bs = [blk r (runC pv key vv2 fuel (doesM dg key ⟨pos, halted, stk, g, told, vals⟩ i).1.pos steps (doesM dg key ⟨pos, halted, stk, g, told, vals⟩ i).1.halted sv2 (doesM dg key ⟨pos, halted, stk, g, told, vals⟩ i).1.g tv2 (.map (some mb))) 288, osl kVal sv2 (doesM dg key ⟨pos, halted, stk, g, told, vals⟩ i).1.stk, osl kPair tv2 (doesM dg key ⟨pos, halted, stk, g, told, vals⟩ i).1.told, digsP mb]) := by
 intro w0 F0 H
 refine enter Tryz.func243 rfl rfl (Nat.le_of_ble_eq_true rfl) (c_seq (c_reg (s_box rfl rfl rfl rfl H (fun b1 w H => (s_1 rfl (s_nil (q_then ?_)))))))
 replace H : Hd _ _ _ [blk b1 [.int .i64 i.op, .int .i64 i.a, .string i.s] 223, blk r (runC pv key vv fuel pos steps halted sv g tv (.map (some mb))) 288, osl kVal sv stk, osl kPair tv told, digsP mb] [rsl kStr vv vals, gl] := H
 refine c_seq (c_reg (s_1 rfl (s_val rfl rfl (r_fa rfl fo223_0 rfl) (s_val rfl rfl (r_ld rfl ty3 rfl (H.cellI 0 rfl rfl)) ?_))))
 replace H := H.p2.p2
 refine sc (needs_ok r pv key vv fuel pos steps halted sv g tv (.map (some mb)) stk i.op (by first | omega | exact Nat.le_trans hN.2.1 hst)) H l0 rfl rfl (e_fn kn264 rfl rfl) ?_
 rintro _ _ w ⟨u2, s3, rfl, rfl⟩ H
 replace H := H.h3 (A := blk r (runC pv key vv fuel pos steps halted s3 g tv (.map (some mb))) 288) (B := osl kVal s3 ((needsM i.op stk).2.1)) (C := osl kVal u2 ((needsM i.op stk).2.2))
 refine s_k 5 rfl (s_nil (q_then (c_seq (c_seq (c_reg (s_1 rfl (s_val rfl rfl (r_ne rfl rfl rfl) (s_nil (q_then ?_)))))))))
 refine c_dec rfl (fun h4 => ?_) (fun h4 => ?_)
 ·refine c_seq (c_reg (s_k 2 rfl (s_nil (q_then (c_ret (q_thenR (q_ret1 rfl rfl ?_)))))))
  replace H := H.p5.p5.p3.p3.k4
  have e : doesM dg key (⟨pos, halted, stk, g, told, vals⟩ : VM) i = ((⟨pos, halted, stk, g, told, vals⟩ : VM), (needsM i.op stk).1) := does_fail (m := (⟨pos, halted, stk, g, told, vals⟩ : VM)) h4
  have e2 := needs_same h4
  rw [e2] at H
  replace H : Hd _ _ _ [blk r (runC pv key vv fuel pos steps halted s3 g tv (.map (some mb))) 288, osl kVal s3 stk, osl kPair tv told, digsP mb] [rsl kStr vv vals, gl] := H
  exact fin ⟨s3, tv, vv, by rw [e] <;> rfl, by rw [e] <;> exact Suf.refl _ _ _, by rw [e] <;> rfl⟩ H
 refine c_skip (q_then (c_seq (c_seq ?_)))
 have hN0 := Classical.not_not.1 h4
 have hN := needs_len hN0
 refine c_reg (s_val rfl rfl (r_fa rfl fo223_0 rfl) (s_val rfl rfl (r_ld rfl ty3 rfl (H.cellI 3 rfl rfl)) (s_nil (q_then (c_block (c_seq (c_reg (s_val rfl rfl (r_eq rfl rfl rfl) (s_1 rfl (s_nil (q_then ?_)))))))))))
 refine c_dec rfl (fun h5 => ?_) (fun h5 => ?_)
 ·have hks : (kindsS i.op).size = 0 := by rw [h5]; rfl
  refine c_reg (s_1 rfl (s_val rfl rfl (r_nilP rfl rfl) (s_val rfl rfl (r_fa rfl fo288_6 rfl) (s_st rfl rfl rfl ty4 rfl rfl H rfl (Nat.le_of_ble_eq_true rfl) (fun u hu => by simp [Value.cells] at hu; subst hu; rfl) (fun w H => ?_)))))
  replace H := H.h1 (A := blk r (runC pv key vv fuel pos steps true s3 g tv (.map (some mb))) 288)
  refine s_nil (q_blockN (q_then (c_seq (c_reg (s_1 rfl (s_nil (q_then (c_ret (q_ret1 rfl rfl ?_)))))))))
  replace H := H.p5.p5.p3.p3.k4
  have e : doesM dg key (⟨pos, halted, stk, g, told, vals⟩ : VM) i = ((⟨pos, true, (needsM i.op stk).2.1, g, told, vals⟩ : VM), 0) := by
    rw [does_act (m := (⟨pos, halted, stk, g, told, vals⟩ : VM)) h4, act_0 h5]
    all_goals rfl
  replace H : Hd _ _ _ [blk r (runC pv key vv fuel pos steps true s3 g tv (.map (some mb))) 288, osl kVal s3 ((needsM i.op stk).2.1), osl kPair tv told, digsP mb] [rsl kStr vv vals, gl] := H
  exact fin ⟨s3, tv, vv, by rw [e] <;> rfl, by rw [e] <;> exact Suf.refl _ _ _, by rw [e] <;> rfl⟩ H
 refine c_seq (c_reg (s_val rfl rfl (r_eq rfl rfl rfl) (s_1 rfl (s_nil (q_then ?_)))))
 refine c_dec rfl (fun h6 => ?_) (fun h6 => ?_)
 ·have hks : (kindsS i.op).size = 0 := by rw [h6]; rfl
  refine c_seq (c_reg (s_1 rfl (s_val rfl rfl (r_fa rfl fo223_1 rfl) (s_val rfl rfl (r_ld rfl ty3 rfl (H.cellI 3 rfl rfl)) (sc (vInt_ok i.a) H l0 rfl rfl (e_fn kn266 rfl rfl) ?_)))))
  rintro _ _ w ⟨rfl, rfl⟩ H
  refine s_bsl (parts := [(0, .tmp 29)]) (vs := [.agg #[.bool false, .int .i64 i.a, .string ⟨#[]⟩]]) (cs := [.bool false, .int .i64 i.a, .string ⟨#[]⟩]) rfl rfl rfl sl282 zr284 rfl (by decide) (by decide) rfl rfl H (fun b7 w H => ?_)
  replace H := H.h1 (A := blk b7 [.bool false, .int .i64 i.a, .string ⟨#[]⟩] 284) |>.p2 |>.p2
  refine sc (push_ok r pv key vv fuel pos steps halted s3 g tv (.map (some mb)) ((needsM i.op stk).2.1) (.slice (some ⟨b7, 0, none⟩) 1 1) [(⟨false, i.a, ⟨#[]⟩⟩ : Val)] (by first | omega | exact Nat.le_trans hN.2.1 hst) (Nat.le_of_ble_eq_true rfl)) H (lA 0 rfl (fun F h => blk_rsl h rfl (by decide) (RepsR.flat_eq.2 rfl)) l0) rfl rfl (e_fn kn265 rfl rfl) ?_
  rintro _ _ w ⟨s8, rfl, rfl⟩ H
  replace H := H.h2 (A := blk r (runC pv key vv fuel pos steps halted s8 g tv (.map (some mb))) 288) (B := osl kVal s8 ((pushM ((needsM i.op stk).2.1) [(⟨false, i.a, ⟨#[]⟩⟩ : Val)]).2))
  refine s_1 rfl (s_nil (q_then (c_ret (q_blockR (q_thenR (q_ret1 rfl rfl ?_))))))
  replace H := H.p6.p6.p3.p3.k4
  have e : doesM dg key (⟨pos, halted, stk, g, told, vals⟩ : VM) i = ((⟨pos, halted, (pushM ((needsM i.op stk).2.1) [(⟨false, i.a, ⟨#[]⟩⟩ : Val)]).2, g, told, vals⟩ : VM), (pushM ((needsM i.op stk).2.1) [(⟨false, i.a, ⟨#[]⟩⟩ : Val)]).1) := by
    rw [does_act (m := (⟨pos, halted, stk, g, told, vals⟩ : VM)) h4, act_1 h6]
    all_goals rfl
  replace H : Hd _ _ _ [blk r (runC pv key vv fuel pos steps halted s8 g tv (.map (some mb))) 288, osl kVal s8 ((pushM ((needsM i.op stk).2.1) [(⟨false, i.a, ⟨#[]⟩⟩ : Val)]).2), osl kPair tv told, digsP mb] [rsl kStr vv vals, gl] := H
  exact fin ⟨s8, tv, vv, by rw [e] <;> rfl, by rw [e] <;> exact Suf.refl _ _ _, by rw [e] <;> rfl⟩ H
 refine c_seq (c_reg (s_val rfl rfl (r_eq rfl rfl rfl) (s_1 rfl (s_nil (q_then ?_)))))
 refine c_dec rfl (fun h9 => ?_) (fun h9 => ?_)
 ·have hks : (kindsS i.op).size = 0 := by rw [h9]; rfl
  refine c_seq (c_reg (s_1 rfl (s_val rfl rfl (r_fa rfl fo223_2 rfl) (s_val rfl rfl (r_ld rfl ty9 rfl (H.cellI 3 rfl rfl)) (sc (vBytes_ok i.s) H l0 rfl rfl (e_fn kn267 rfl rfl) ?_)))))
  rintro _ _ w ⟨rfl, rfl⟩ H
  refine s_bsl (parts := [(0, .tmp 37)]) (vs := [.agg #[.bool true, .int .i64 0, .string i.s]]) (cs := [.bool true, .int .i64 0, .string i.s]) rfl rfl rfl sl282 zr284 rfl (by decide) (by decide) rfl rfl H (fun b10 w H => ?_)
  replace H := H.h1 (A := blk b10 [.bool true, .int .i64 0, .string i.s] 284) |>.p2 |>.p2
  refine sc (push_ok r pv key vv fuel pos steps halted s3 g tv (.map (some mb)) ((needsM i.op stk).2.1) (.slice (some ⟨b10, 0, none⟩) 1 1) [(⟨true, 0, i.s⟩ : Val)] (by first | omega | exact Nat.le_trans hN.2.1 hst) (Nat.le_of_ble_eq_true rfl)) H (lA 0 rfl (fun F h => blk_rsl h rfl (by decide) (RepsR.flat_eq.2 rfl)) l0) rfl rfl (e_fn kn265 rfl rfl) ?_
  rintro _ _ w ⟨s11, rfl, rfl⟩ H
  replace H := H.h2 (A := blk r (runC pv key vv fuel pos steps halted s11 g tv (.map (some mb))) 288) (B := osl kVal s11 ((pushM ((needsM i.op stk).2.1) [(⟨true, 0, i.s⟩ : Val)]).2))
  refine s_1 rfl (s_nil (q_then (c_ret (q_blockR (q_thenR (q_ret1 rfl rfl ?_))))))
  replace H := H.p6.p6.p3.p3.k4
  have e : doesM dg key (⟨pos, halted, stk, g, told, vals⟩ : VM) i = ((⟨pos, halted, (pushM ((needsM i.op stk).2.1) [(⟨true, 0, i.s⟩ : Val)]).2, g, told, vals⟩ : VM), (pushM ((needsM i.op stk).2.1) [(⟨true, 0, i.s⟩ : Val)]).1) := by
    rw [does_act (m := (⟨pos, halted, stk, g, told, vals⟩ : VM)) h4, act_2 h9]
    all_goals rfl
  replace H : Hd _ _ _ [blk r (runC pv key vv fuel pos steps halted s11 g tv (.map (some mb))) 288, osl kVal s11 ((pushM ((needsM i.op stk).2.1) [(⟨true, 0, i.s⟩ : Val)]).2), osl kPair tv told, digsP mb] [rsl kStr vv vals, gl] := H
  exact fin ⟨s11, tv, vv, by rw [e] <;> rfl, by rw [e] <;> exact Suf.refl _ _ _, by rw [e] <;> rfl⟩ H
 refine c_seq (c_reg (s_val rfl rfl (r_eq rfl rfl rfl) (s_1 rfl (s_nil (q_then ?_)))))
 refine c_dec rfl (fun h12 => ?_) (fun h12 => ?_)
 ·have hks : (kindsS i.op).size = 1 := by rw [h12]; rfl
  refine c_seq ?_
  obtain ⟨A13, c14, rfl, hc15, hm16, hp17⟩ := H.fA 2 rfl
  obtain ⟨x18, hx19⟩ : ∃ z9, ((needsM i.op stk).2.2)[0]? = some z9 := ⟨_, List.getElem?_eq_getElem (show 0 < ((needsM i.op stk).2.2).length by omega)⟩
  have okx18 := hok.1 _ (hN.2.2.1 _ (at_mem hx19))
  have szx18 := okx18.2
  have inx18 := okx18.1
  replace H := H.p5.p5.p5.p5
  refine c_ord (.e 0 (.e 1 (.e 2 (.e 3 (.e 4 (.e 5 (.e 6 (.m 7 (.m 8 (.e 9 .z)))))))))) (fun w => ∃ Ar, Hd w0 F0 w (osl kVal (.slice A13 (((needsM i.op stk).2.2).length) c14) ((needsM i.op stk).2.2) :: blk b1 [.int .i64 i.op, .int .i64 i.a, .string i.s] 223 :: osl kPair tv told :: digsP mb :: Ar) [rsl kStr vv vals, gl]) mo (by kernel_rfl) (fun w H => ⟨_, H⟩) H (fun w H => (d_1 rfl (d_1 rfl ?_)))
  have th20 := H.thA 0 rfl hx19
  refine d_val rfl rfl rfl (fun w ⟨Ar, H⟩ => r_iaE (p := oOf A13 + 0 * 3) rfl sl282 rfl rfl (by omega) (by omega) th20 (by omega)) (d_val rfl rfl rfl (fun w ⟨Ar, H⟩ => r_ldA (cs := [.bool x18.t, .int .i64 x18.n, .string x18.b]) rfl ty284 rfl rfl (H.elsA 0 rfl hx19 rfl)) (d_1 rfl ?_))
  have th21 := H.thA 0 rfl hx19
  refine d_val rfl rfl rfl (fun w ⟨Ar, H⟩ => r_iaE (p := oOf A13 + 0 * 3) rfl sl282 rfl rfl (by omega) (by omega) th21 (by omega)) (d_val rfl rfl rfl (fun w ⟨Ar, H⟩ => r_ldA (cs := [.bool x18.t, .int .i64 x18.n, .string x18.b]) rfl ty284 rfl rfl (H.elsA 0 rfl hx19 rfl)) (d_main rfl (s_bsl (parts := [(0, .tmp 45), (1, .tmp 48)]) (vs := [.agg #[.bool x18.t, .int .i64 x18.n, .string x18.b], .agg #[.bool x18.t, .int .i64 x18.n, .string x18.b]]) (cs := [.bool x18.t, .int .i64 x18.n, .string x18.b, .bool x18.t, .int .i64 x18.n, .string x18.b]) rfl rfl rfl sl282 zr284 rfl (by decide) (by decide) rfl rfl H (fun b22 w H => ?_))))
  replace H := H.h1 (A := blk b22 [.bool x18.t, .int .i64 x18.n, .string x18.b, .bool x18.t, .int .i64 x18.n, .string x18.b] 284) |>.p4 |>.p4 |>.p4 |>.p4
  refine d_back ⟨_, H⟩ (d_main rfl ?_)
  replace H := H.p6.p6
  refine sc (push_ok r pv key vv fuel pos steps halted s3 g tv (.map (some mb)) ((needsM i.op stk).2.1) (.slice (some ⟨b22, 0, none⟩) 2 2) [x18, x18] (by first | omega | exact Nat.le_trans hN.2.1 hst) (Nat.le_of_ble_eq_true rfl)) H (lA 4 rfl (fun F h => blk_rsl h rfl (by decide) (RepsR.flat_eq.2 rfl)) l0) rfl rfl (e_fn kn265 rfl rfl) ?_
  rintro _ _ w ⟨s23, rfl, rfl⟩ H
  replace H := H.h2 (A := blk r (runC pv key vv fuel pos steps halted s23 g tv (.map (some mb))) 288) (B := osl kVal s23 ((pushM ((needsM i.op stk).2.1) [x18, x18]).2)) |>.p5 |>.p5 |>.p5 |>.p5
  refine d_back ⟨_, H⟩ (d_1 rfl (d_nil (q_then (c_ret (q_blockR (q_thenR (q_ret1 rfl rfl ?_)))))))
  replace H := H.p3.p3.p5.p5.k4
  have e : doesM dg key (⟨pos, halted, stk, g, told, vals⟩ : VM) i = ((⟨pos, halted, (pushM ((needsM i.op stk).2.1) [x18, x18]).2, g, told, vals⟩ : VM), (pushM ((needsM i.op stk).2.1) [x18, x18]).1) := by
    rw [does_act (m := (⟨pos, halted, stk, g, told, vals⟩ : VM)) h4, act_3 h12]
    rw [getD_at hx19] <;> rfl
  replace H : Hd _ _ _ [blk r (runC pv key vv fuel pos steps halted s23 g tv (.map (some mb))) 288, osl kVal s23 ((pushM ((needsM i.op stk).2.1) [x18, x18]).2), osl kPair tv told, digsP mb] [rsl kStr vv vals, gl] := H
  exact fin ⟨s23, tv, vv, by rw [e] <;> rfl, by rw [e] <;> exact Suf.refl _ _ _, by rw [e] <;> rfl⟩ H
 refine c_seq (c_reg (s_val rfl rfl (r_eq rfl rfl rfl) (s_1 rfl (s_nil (q_then ?_)))))
 refine c_dec rfl (fun h24 => ?_) (fun h24 => ?_)
 ·have hks : (kindsS i.op).size = 2 := by rw [h24]; rfl
  refine c_seq ?_
  obtain ⟨A25, c26, rfl, hc27, hm28, hp29⟩ := H.fA 2 rfl
  obtain ⟨x30, hx31⟩ : ∃ z9, ((needsM i.op stk).2.2)[0]? = some z9 := ⟨_, List.getElem?_eq_getElem (show 0 < ((needsM i.op stk).2.2).length by omega)⟩
  have okx30 := hok.1 _ (hN.2.2.1 _ (at_mem hx31))
  have szx30 := okx30.2
  have inx30 := okx30.1
  obtain ⟨x32, hx33⟩ : ∃ z9, ((needsM i.op stk).2.2)[1]? = some z9 := ⟨_, List.getElem?_eq_getElem (show 1 < ((needsM i.op stk).2.2).length by omega)⟩
  have okx32 := hok.1 _ (hN.2.2.1 _ (at_mem hx33))
  have szx32 := okx32.2
  have inx32 := okx32.1
  replace H := H.p5.p5.p5.p5
  refine c_ord (.e 0 (.e 1 (.e 2 (.e 3 (.e 4 (.e 5 (.e 6 (.m 7 (.m 8 (.e 9 .z)))))))))) (fun w => ∃ Ar, Hd w0 F0 w (osl kVal (.slice A25 (((needsM i.op stk).2.2).length) c26) ((needsM i.op stk).2.2) :: blk b1 [.int .i64 i.op, .int .i64 i.a, .string i.s] 223 :: osl kPair tv told :: digsP mb :: Ar) [rsl kStr vv vals, gl]) mo (by kernel_rfl) (fun w H => ⟨_, H⟩) H (fun w H => (d_1 rfl (d_1 rfl ?_)))
  have th34 := H.thA 0 rfl hx33
  refine d_val rfl rfl rfl (fun w ⟨Ar, H⟩ => r_iaE (p := oOf A25 + 1 * 3) rfl sl282 rfl rfl (by omega) (by omega) th34 (by omega)) (d_val rfl rfl rfl (fun w ⟨Ar, H⟩ => r_ldA (cs := [.bool x32.t, .int .i64 x32.n, .string x32.b]) rfl ty284 rfl rfl (H.elsA 0 rfl hx33 rfl)) (d_1 rfl ?_))
  have th35 := H.thA 0 rfl hx31
  refine d_val rfl rfl rfl (fun w ⟨Ar, H⟩ => r_iaE (p := oOf A25 + 0 * 3) rfl sl282 rfl rfl (by omega) (by omega) th35 (by omega)) (d_val rfl rfl rfl (fun w ⟨Ar, H⟩ => r_ldA (cs := [.bool x30.t, .int .i64 x30.n, .string x30.b]) rfl ty284 rfl rfl (H.elsA 0 rfl hx31 rfl)) (d_main rfl (s_bsl (parts := [(0, .tmp 56), (1, .tmp 59)]) (vs := [.agg #[.bool x32.t, .int .i64 x32.n, .string x32.b], .agg #[.bool x30.t, .int .i64 x30.n, .string x30.b]]) (cs := [.bool x32.t, .int .i64 x32.n, .string x32.b, .bool x30.t, .int .i64 x30.n, .string x30.b]) rfl rfl rfl sl282 zr284 rfl (by decide) (by decide) rfl rfl H (fun b36 w H => ?_))))
  replace H := H.h1 (A := blk b36 [.bool x32.t, .int .i64 x32.n, .string x32.b, .bool x30.t, .int .i64 x30.n, .string x30.b] 284) |>.p4 |>.p4 |>.p4 |>.p4
  refine d_back ⟨_, H⟩ (d_main rfl ?_)
  replace H := H.p6.p6
  refine sc (push_ok r pv key vv fuel pos steps halted s3 g tv (.map (some mb)) ((needsM i.op stk).2.1) (.slice (some ⟨b36, 0, none⟩) 2 2) [x32, x30] (by first | omega | exact Nat.le_trans hN.2.1 hst) (Nat.le_of_ble_eq_true rfl)) H (lA 4 rfl (fun F h => blk_rsl h rfl (by decide) (RepsR.flat_eq.2 rfl)) l0) rfl rfl (e_fn kn265 rfl rfl) ?_
  rintro _ _ w ⟨s37, rfl, rfl⟩ H
  replace H := H.h2 (A := blk r (runC pv key vv fuel pos steps halted s37 g tv (.map (some mb))) 288) (B := osl kVal s37 ((pushM ((needsM i.op stk).2.1) [x32, x30]).2)) |>.p5 |>.p5 |>.p5 |>.p5
  refine d_back ⟨_, H⟩ (d_1 rfl (d_nil (q_then (c_ret (q_blockR (q_thenR (q_ret1 rfl rfl ?_)))))))
  replace H := H.p3.p3.p5.p5.k4
  have e : doesM dg key (⟨pos, halted, stk, g, told, vals⟩ : VM) i = ((⟨pos, halted, (pushM ((needsM i.op stk).2.1) [x32, x30]).2, g, told, vals⟩ : VM), (pushM ((needsM i.op stk).2.1) [x32, x30]).1) := by
    rw [does_act (m := (⟨pos, halted, stk, g, told, vals⟩ : VM)) h4, act_5 h24]
    rw [getD_at hx31, getD_at hx33] <;> rfl
  replace H : Hd _ _ _ [blk r (runC pv key vv fuel pos steps halted s37 g tv (.map (some mb))) 288, osl kVal s37 ((pushM ((needsM i.op stk).2.1) [x32, x30]).2), osl kPair tv told, digsP mb] [rsl kStr vv vals, gl] := H
  exact fin ⟨s37, tv, vv, by rw [e] <;> rfl, by rw [e] <;> exact Suf.refl _ _ _, by rw [e] <;> rfl⟩ H
 refine c_seq (c_reg (s_val rfl rfl (r_eq rfl rfl rfl) (s_1 rfl (s_nil (q_then ?_)))))
 refine c_dec rfl (fun h38 => ?_) (fun h38 => ?_)
 ·have hks : (kindsS i.op).size = 0 := by rw [h38]; rfl
  refine c_seq (c_reg (s_k 2 rfl (s_val rfl rfl (r_nilP rfl rfl) (s_val rfl rfl (r_fa rfl fo288_1 rfl) (s_val rfl rfl (r_ld rfl ty9 rfl (H.cellI 0 rfl rfl)) (sc (vBytes_ok key) H l0 rfl rfl (e_fn kn267 rfl rfl) ?_))))))
  rintro _ _ w ⟨rfl, rfl⟩ H
  refine s_bsl (parts := [(0, .tmp 69)]) (vs := [.agg #[.bool true, .int .i64 0, .string key]]) (cs := [.bool true, .int .i64 0, .string key]) rfl rfl rfl sl282 zr284 rfl (by decide) (by decide) rfl rfl H (fun b39 w H => ?_)
  replace H := H.h1 (A := blk b39 [.bool true, .int .i64 0, .string key] 284) |>.p2 |>.p2
  refine sc (push_ok r pv key vv fuel pos steps halted s3 g tv (.map (some mb)) ((needsM i.op stk).2.1) (.slice (some ⟨b39, 0, none⟩) 1 1) [(⟨true, 0, key⟩ : Val)] (by first | omega | exact Nat.le_trans hN.2.1 hst) (Nat.le_of_ble_eq_true rfl)) H (lA 0 rfl (fun F h => blk_rsl h rfl (by decide) (RepsR.flat_eq.2 rfl)) l0) rfl rfl (e_fn kn265 rfl rfl) ?_
  rintro _ _ w ⟨s40, rfl, rfl⟩ H
  replace H := H.h2 (A := blk r (runC pv key vv fuel pos steps halted s40 g tv (.map (some mb))) 288) (B := osl kVal s40 ((pushM ((needsM i.op stk).2.1) [(⟨true, 0, key⟩ : Val)]).2))
  refine s_1 rfl (s_nil (q_then (c_ret (q_blockR (q_thenR (q_ret1 rfl rfl ?_))))))
  replace H := H.p6.p6.p3.p3.k4
  have e : doesM dg key (⟨pos, halted, stk, g, told, vals⟩ : VM) i = ((⟨pos, halted, (pushM ((needsM i.op stk).2.1) [(⟨true, 0, key⟩ : Val)]).2, g, told, vals⟩ : VM), (pushM ((needsM i.op stk).2.1) [(⟨true, 0, key⟩ : Val)]).1) := by
    rw [does_act (m := (⟨pos, halted, stk, g, told, vals⟩ : VM)) h4, act_6 h38]
    all_goals rfl
  replace H : Hd _ _ _ [blk r (runC pv key vv fuel pos steps halted s40 g tv (.map (some mb))) 288, osl kVal s40 ((pushM ((needsM i.op stk).2.1) [(⟨true, 0, key⟩ : Val)]).2), osl kPair tv told, digsP mb] [rsl kStr vv vals, gl] := H
  exact fin ⟨s40, tv, vv, by rw [e] <;> rfl, by rw [e] <;> exact Suf.refl _ _ _, by rw [e] <;> rfl⟩ H
 refine c_seq (c_reg (s_val rfl rfl (r_eq rfl rfl rfl) (s_1 rfl (s_nil (q_then ?_)))))
 refine c_dec rfl (fun h41 => ?_) (fun h41 => ?_)
 ·have hks : (kindsS i.op).size = 0 := by rw [h41]; rfl
  refine c_seq (c_reg (s_1 rfl (sc (next_ok r pv key vv fuel pos steps halted s3 g tv (.map (some mb)) ((needsM i.op stk).2.1) vals (by first | omega | exact Nat.le_trans hN.2.1 hst)) H (lR 0 rfl l0) rfl rfl (e_fn kn268 rfl rfl) ?_)))
  rintro _ _ w ⟨s42, vv43, rfl, hsuf44, rfl⟩ H
  replace H := H.h2 (A := blk r (runC pv key vv43 fuel pos steps halted s42 g tv (.map (some mb))) 288) (B := osl kVal s42 ((nextS ((needsM i.op stk).2.1) vals).2.1))
  refine s_1 rfl (s_nil (q_then (c_ret (q_blockR (q_thenR (q_ret1 rfl rfl ?_))))))
  replace H := H.p5.p5.p3.p3.k4
  have e : doesM dg key (⟨pos, halted, stk, g, told, vals⟩ : VM) i = ((⟨pos, halted, (nextS ((needsM i.op stk).2.1) vals).2.1, g, told, (nextS (needsM i.op stk).2.1 vals).2.2⟩ : VM), (nextS ((needsM i.op stk).2.1) vals).1) := by
    rw [does_act (m := (⟨pos, halted, stk, g, told, vals⟩ : VM)) h4, act_7 h41]
    rw [next_S]
  replace H : Hd _ _ _ [blk r (runC pv key vv43 fuel pos steps halted s42 g tv (.map (some mb))) 288, osl kVal s42 ((nextS ((needsM i.op stk).2.1) vals).2.1), osl kPair tv told, digsP mb] [rsl kStr vv vals, gl] := H
  exact fin ⟨s42, tv, vv43, by rw [e] <;> rfl, by rw [e] <;> exact hsuf44, by rw [e] <;> rfl⟩ H
 refine c_seq (c_seq (c_reg (s_val rfl rfl (r_eq rfl rfl rfl) (s_1 rfl (s_nil (q_then ?_))))))
 refine c_dec rfl (fun h45 => ?_) (fun h45 => ?_)
 ·have hks : (kindsS i.op).size = 2 := by rw [h45]; rfl
  refine c_skip (q_then ?_)
  refine c_dec rfl (fun h46 => ?_) (fun h46 => ?_)
  ·have hks : (kindsS i.op).size = 2 := by rw [h46]; rfl
   refine c_seq ?_
   obtain ⟨A47, c48, rfl, hc49, hm50, hp51⟩ := H.fA 2 rfl
   obtain ⟨x52, hx53⟩ : ∃ z9, ((needsM i.op stk).2.2)[0]? = some z9 := ⟨_, List.getElem?_eq_getElem (show 0 < ((needsM i.op stk).2.2).length by omega)⟩
   have okx52 := hok.1 _ (hN.2.2.1 _ (at_mem hx53))
   have szx52 := okx52.2
   have inx52 := okx52.1
   obtain ⟨x54, hx55⟩ : ∃ z9, ((needsM i.op stk).2.2)[1]? = some z9 := ⟨_, List.getElem?_eq_getElem (show 1 < ((needsM i.op stk).2.2).length by omega)⟩
   have okx54 := hok.1 _ (hN.2.2.1 _ (at_mem hx55))
   have szx54 := okx54.2
   have inx54 := okx54.1
   replace H := H.p5.p5.p5.p5
   refine c_ord (.e 0 (.e 1 (.e 2 (.e 3 (.e 4 (.e 5 (.e 6 (.e 7 (.e 8 (.e 9 (.e 10 (.m 11 (.m 12 (.m 13 (.e 14 .z))))))))))))))) (fun w => ∃ Ar, Hd w0 F0 w (osl kVal (.slice A47 (((needsM i.op stk).2.2).length) c48) ((needsM i.op stk).2.2) :: blk b1 [.int .i64 i.op, .int .i64 i.a, .string i.s] 223 :: osl kPair tv told :: digsP mb :: Ar) [rsl kStr vv vals, gl]) mo (by kernel_rfl) (fun w H => ⟨_, H⟩) H (fun w H => (d_1 rfl (d_val rfl rfl rfl (fun w ⟨Ar, H⟩ => r_fa rfl fo223_0 rfl) (d_val rfl rfl rfl (fun w ⟨Ar, H⟩ => r_ld rfl ty3 rfl (H.cellI 1 rfl rfl)) (d_1 rfl ?_)))))
   have th56 := H.thA 0 rfl hx53
   refine d_val rfl rfl rfl (fun w ⟨Ar, H⟩ => r_iaE (p := oOf A47 + 0 * 3) rfl sl282 rfl rfl (by omega) (by omega) th56 (by omega)) (d_val rfl rfl rfl (fun w ⟨Ar, H⟩ => r_fa rfl fo284_1 rfl) (d_val rfl rfl rfl (fun w ⟨Ar, H⟩ => r_ld rfl ty2 rfl (H.elA 0 rfl hx53 (q := 1) rfl rfl)) (d_1 rfl ?_)))
   have th57 := H.thA 0 rfl hx55
   refine d_val rfl rfl rfl (fun w ⟨Ar, H⟩ => r_iaE (p := oOf A47 + 1 * 3) rfl sl282 rfl rfl (by omega) (by omega) th57 (by omega)) (d_val rfl rfl rfl (fun w ⟨Ar, H⟩ => r_fa rfl fo284_1 rfl) (d_val rfl rfl rfl (fun w ⟨Ar, H⟩ => r_ld rfl ty2 rfl (H.elA 0 rfl hx55 (q := 1) rfl rfl)) (d_main rfl (sc (numbers_ok i.op x52.n x54.n) H l0 rfl rfl (e_fn kn269 rfl rfl) ?_))))
   rintro _ _ w ⟨rfl, rfl⟩ H
   refine d_back ⟨_, H⟩ (d_main rfl (s_bsl (parts := [(0, .tmp 92)]) (vs := [.agg #[.bool ((numM i.op x52.n x54.n).t), .int .i64 ((numM i.op x52.n x54.n).n), .string ((numM i.op x52.n x54.n).b)]]) (cs := [.bool ((numM i.op x52.n x54.n).t), .int .i64 ((numM i.op x52.n x54.n).n), .string ((numM i.op x52.n x54.n).b)]) rfl rfl rfl sl282 zr284 rfl (by decide) (by decide) rfl rfl H (fun b58 w H => ?_)))
   replace H := H.h1 (A := blk b58 [.bool ((numM i.op x52.n x54.n).t), .int .i64 ((numM i.op x52.n x54.n).n), .string ((numM i.op x52.n x54.n).b)] 284) |>.p4 |>.p4 |>.p4 |>.p4
   refine d_back ⟨_, H⟩ (d_main rfl ?_)
   replace H := H.p6.p6
   refine sc (push_ok r pv key vv fuel pos steps halted s3 g tv (.map (some mb)) ((needsM i.op stk).2.1) (.slice (some ⟨b58, 0, none⟩) 1 1) [(numM i.op x52.n x54.n)] (by first | omega | exact Nat.le_trans hN.2.1 hst) (Nat.le_of_ble_eq_true rfl)) H (lA 4 rfl (fun F h => blk_rsl h rfl (by decide) (RepsR.flat_eq.2 rfl)) l0) rfl rfl (e_fn kn265 rfl rfl) ?_
   rintro _ _ w ⟨s59, rfl, rfl⟩ H
   replace H := H.h2 (A := blk r (runC pv key vv fuel pos steps halted s59 g tv (.map (some mb))) 288) (B := osl kVal s59 ((pushM ((needsM i.op stk).2.1) [(numM i.op x52.n x54.n)]).2)) |>.p5 |>.p5 |>.p5 |>.p5
   refine d_back ⟨_, H⟩ (d_1 rfl (d_nil (q_then (c_ret (q_blockR (q_thenR (q_ret1 rfl rfl ?_)))))))
   replace H := H.p3.p3.p5.p5.k4
   have e : doesM dg key (⟨pos, halted, stk, g, told, vals⟩ : VM) i = ((⟨pos, halted, (pushM ((needsM i.op stk).2.1) [(numM i.op x52.n x54.n)]).2, g, told, vals⟩ : VM), (pushM ((needsM i.op stk).2.1) [(numM i.op x52.n x54.n)]).1) := by
     rw [does_act (m := (⟨pos, halted, stk, g, told, vals⟩ : VM)) h4, act_8 (by omega)]
     rw [getD_at hx53, getD_at hx55] <;> rfl
   replace H : Hd _ _ _ [blk r (runC pv key vv fuel pos steps halted s59 g tv (.map (some mb))) 288, osl kVal s59 ((pushM ((needsM i.op stk).2.1) [(numM i.op x52.n x54.n)]).2), osl kPair tv told, digsP mb] [rsl kStr vv vals, gl] := H
   exact fin ⟨s59, tv, vv, by rw [e] <;> rfl, by rw [e] <;> exact Suf.refl _ _ _, by rw [e] <;> rfl⟩ H
  exact absurd h45 h46
 refine c_seq (c_reg (s_val rfl rfl (r_eq rfl rfl rfl) (s_1 rfl (s_nil (q_then ?_)))))
 refine c_dec rfl (fun h60 => ?_) (fun h60 => ?_)
 ·have hks : (kindsS i.op).size = 2 := by rw [h60]; rfl
  refine c_skip (q_then ?_)
  refine c_dec rfl (fun h61 => ?_) (fun h61 => ?_)
  ·have hks : (kindsS i.op).size = 2 := by rw [h61]; rfl
   refine c_seq ?_
   obtain ⟨A62, c63, rfl, hc64, hm65, hp66⟩ := H.fA 2 rfl
   obtain ⟨x67, hx68⟩ : ∃ z9, ((needsM i.op stk).2.2)[0]? = some z9 := ⟨_, List.getElem?_eq_getElem (show 0 < ((needsM i.op stk).2.2).length by omega)⟩
   have okx67 := hok.1 _ (hN.2.2.1 _ (at_mem hx68))
   have szx67 := okx67.2
   have inx67 := okx67.1
   obtain ⟨x69, hx70⟩ : ∃ z9, ((needsM i.op stk).2.2)[1]? = some z9 := ⟨_, List.getElem?_eq_getElem (show 1 < ((needsM i.op stk).2.2).length by omega)⟩
   have okx69 := hok.1 _ (hN.2.2.1 _ (at_mem hx70))
   have szx69 := okx69.2
   have inx69 := okx69.1
   replace H := H.p5.p5.p5.p5
   refine c_ord (.e 0 (.e 1 (.e 2 (.e 3 (.e 4 (.e 5 (.e 6 (.e 7 (.e 8 (.e 9 (.e 10 (.m 11 (.m 12 (.m 13 (.e 14 .z))))))))))))))) (fun w => ∃ Ar, Hd w0 F0 w (osl kVal (.slice A62 (((needsM i.op stk).2.2).length) c63) ((needsM i.op stk).2.2) :: blk b1 [.int .i64 i.op, .int .i64 i.a, .string i.s] 223 :: osl kPair tv told :: digsP mb :: Ar) [rsl kStr vv vals, gl]) mo (by kernel_rfl) (fun w H => ⟨_, H⟩) H (fun w H => (d_1 rfl (d_val rfl rfl rfl (fun w ⟨Ar, H⟩ => r_fa rfl fo223_0 rfl) (d_val rfl rfl rfl (fun w ⟨Ar, H⟩ => r_ld rfl ty3 rfl (H.cellI 1 rfl rfl)) (d_1 rfl ?_)))))
   have th71 := H.thA 0 rfl hx68
   refine d_val rfl rfl rfl (fun w ⟨Ar, H⟩ => r_iaE (p := oOf A62 + 0 * 3) rfl sl282 rfl rfl (by omega) (by omega) th71 (by omega)) (d_val rfl rfl rfl (fun w ⟨Ar, H⟩ => r_fa rfl fo284_1 rfl) (d_val rfl rfl rfl (fun w ⟨Ar, H⟩ => r_ld rfl ty2 rfl (H.elA 0 rfl hx68 (q := 1) rfl rfl)) (d_1 rfl ?_)))
   have th72 := H.thA 0 rfl hx70
   refine d_val rfl rfl rfl (fun w ⟨Ar, H⟩ => r_iaE (p := oOf A62 + 1 * 3) rfl sl282 rfl rfl (by omega) (by omega) th72 (by omega)) (d_val rfl rfl rfl (fun w ⟨Ar, H⟩ => r_fa rfl fo284_1 rfl) (d_val rfl rfl rfl (fun w ⟨Ar, H⟩ => r_ld rfl ty2 rfl (H.elA 0 rfl hx70 (q := 1) rfl rfl)) (d_main rfl (sc (numbers_ok i.op x67.n x69.n) H l0 rfl rfl (e_fn kn269 rfl rfl) ?_))))
   rintro _ _ w ⟨rfl, rfl⟩ H
   refine d_back ⟨_, H⟩ (d_main rfl (s_bsl (parts := [(0, .tmp 92)]) (vs := [.agg #[.bool ((numM i.op x67.n x69.n).t), .int .i64 ((numM i.op x67.n x69.n).n), .string ((numM i.op x67.n x69.n).b)]]) (cs := [.bool ((numM i.op x67.n x69.n).t), .int .i64 ((numM i.op x67.n x69.n).n), .string ((numM i.op x67.n x69.n).b)]) rfl rfl rfl sl282 zr284 rfl (by decide) (by decide) rfl rfl H (fun b73 w H => ?_)))
   replace H := H.h1 (A := blk b73 [.bool ((numM i.op x67.n x69.n).t), .int .i64 ((numM i.op x67.n x69.n).n), .string ((numM i.op x67.n x69.n).b)] 284) |>.p4 |>.p4 |>.p4 |>.p4
   refine d_back ⟨_, H⟩ (d_main rfl ?_)
   replace H := H.p6.p6
   refine sc (push_ok r pv key vv fuel pos steps halted s3 g tv (.map (some mb)) ((needsM i.op stk).2.1) (.slice (some ⟨b73, 0, none⟩) 1 1) [(numM i.op x67.n x69.n)] (by first | omega | exact Nat.le_trans hN.2.1 hst) (Nat.le_of_ble_eq_true rfl)) H (lA 4 rfl (fun F h => blk_rsl h rfl (by decide) (RepsR.flat_eq.2 rfl)) l0) rfl rfl (e_fn kn265 rfl rfl) ?_
   rintro _ _ w ⟨s74, rfl, rfl⟩ H
   replace H := H.h2 (A := blk r (runC pv key vv fuel pos steps halted s74 g tv (.map (some mb))) 288) (B := osl kVal s74 ((pushM ((needsM i.op stk).2.1) [(numM i.op x67.n x69.n)]).2)) |>.p5 |>.p5 |>.p5 |>.p5
   refine d_back ⟨_, H⟩ (d_1 rfl (d_nil (q_then (c_ret (q_blockR (q_thenR (q_ret1 rfl rfl ?_)))))))
   replace H := H.p3.p3.p5.p5.k4
   have e : doesM dg key (⟨pos, halted, stk, g, told, vals⟩ : VM) i = ((⟨pos, halted, (pushM ((needsM i.op stk).2.1) [(numM i.op x67.n x69.n)]).2, g, told, vals⟩ : VM), (pushM ((needsM i.op stk).2.1) [(numM i.op x67.n x69.n)]).1) := by
     rw [does_act (m := (⟨pos, halted, stk, g, told, vals⟩ : VM)) h4, act_8 (by omega)]
     rw [getD_at hx68, getD_at hx70] <;> rfl
   replace H : Hd _ _ _ [blk r (runC pv key vv fuel pos steps halted s74 g tv (.map (some mb))) 288, osl kVal s74 ((pushM ((needsM i.op stk).2.1) [(numM i.op x67.n x69.n)]).2), osl kPair tv told, digsP mb] [rsl kStr vv vals, gl] := H
   exact fin ⟨s74, tv, vv, by rw [e] <;> rfl, by rw [e] <;> exact Suf.refl _ _ _, by rw [e] <;> rfl⟩ H
  exact absurd h60 h61
 refine c_seq (c_reg (s_val rfl rfl (r_eq rfl rfl rfl) (s_1 rfl (s_nil (q_then ?_)))))
 refine c_dec rfl (fun h75 => ?_) (fun h75 => ?_)
 ·have hks : (kindsS i.op).size = 2 := by rw [h75]; rfl
  refine c_skip (q_then ?_)
  refine c_dec rfl (fun h76 => ?_) (fun h76 => ?_)
  ·have hks : (kindsS i.op).size = 2 := by rw [h76]; rfl
   refine c_seq ?_
   obtain ⟨A77, c78, rfl, hc79, hm80, hp81⟩ := H.fA 2 rfl
   obtain ⟨x82, hx83⟩ : ∃ z9, ((needsM i.op stk).2.2)[0]? = some z9 := ⟨_, List.getElem?_eq_getElem (show 0 < ((needsM i.op stk).2.2).length by omega)⟩
   have okx82 := hok.1 _ (hN.2.2.1 _ (at_mem hx83))
   have szx82 := okx82.2
   have inx82 := okx82.1
   obtain ⟨x84, hx85⟩ : ∃ z9, ((needsM i.op stk).2.2)[1]? = some z9 := ⟨_, List.getElem?_eq_getElem (show 1 < ((needsM i.op stk).2.2).length by omega)⟩
   have okx84 := hok.1 _ (hN.2.2.1 _ (at_mem hx85))
   have szx84 := okx84.2
   have inx84 := okx84.1
   replace H := H.p5.p5.p5.p5
   refine c_ord (.e 0 (.e 1 (.e 2 (.e 3 (.e 4 (.e 5 (.e 6 (.e 7 (.e 8 (.e 9 (.e 10 (.m 11 (.m 12 (.m 13 (.e 14 .z))))))))))))))) (fun w => ∃ Ar, Hd w0 F0 w (osl kVal (.slice A77 (((needsM i.op stk).2.2).length) c78) ((needsM i.op stk).2.2) :: blk b1 [.int .i64 i.op, .int .i64 i.a, .string i.s] 223 :: osl kPair tv told :: digsP mb :: Ar) [rsl kStr vv vals, gl]) mo (by kernel_rfl) (fun w H => ⟨_, H⟩) H (fun w H => (d_1 rfl (d_val rfl rfl rfl (fun w ⟨Ar, H⟩ => r_fa rfl fo223_0 rfl) (d_val rfl rfl rfl (fun w ⟨Ar, H⟩ => r_ld rfl ty3 rfl (H.cellI 1 rfl rfl)) (d_1 rfl ?_)))))
   have th86 := H.thA 0 rfl hx83
   refine d_val rfl rfl rfl (fun w ⟨Ar, H⟩ => r_iaE (p := oOf A77 + 0 * 3) rfl sl282 rfl rfl (by omega) (by omega) th86 (by omega)) (d_val rfl rfl rfl (fun w ⟨Ar, H⟩ => r_fa rfl fo284_1 rfl) (d_val rfl rfl rfl (fun w ⟨Ar, H⟩ => r_ld rfl ty2 rfl (H.elA 0 rfl hx83 (q := 1) rfl rfl)) (d_1 rfl ?_)))
   have th87 := H.thA 0 rfl hx85
   refine d_val rfl rfl rfl (fun w ⟨Ar, H⟩ => r_iaE (p := oOf A77 + 1 * 3) rfl sl282 rfl rfl (by omega) (by omega) th87 (by omega)) (d_val rfl rfl rfl (fun w ⟨Ar, H⟩ => r_fa rfl fo284_1 rfl) (d_val rfl rfl rfl (fun w ⟨Ar, H⟩ => r_ld rfl ty2 rfl (H.elA 0 rfl hx85 (q := 1) rfl rfl)) (d_main rfl (sc (numbers_ok i.op x82.n x84.n) H l0 rfl rfl (e_fn kn269 rfl rfl) ?_))))
   rintro _ _ w ⟨rfl, rfl⟩ H
   refine d_back ⟨_, H⟩ (d_main rfl (s_bsl (parts := [(0, .tmp 92)]) (vs := [.agg #[.bool ((numM i.op x82.n x84.n).t), .int .i64 ((numM i.op x82.n x84.n).n), .string ((numM i.op x82.n x84.n).b)]]) (cs := [.bool ((numM i.op x82.n x84.n).t), .int .i64 ((numM i.op x82.n x84.n).n), .string ((numM i.op x82.n x84.n).b)]) rfl rfl rfl sl282 zr284 rfl (by decide) (by decide) rfl rfl H (fun b88 w H => ?_)))
   replace H := H.h1 (A := blk b88 [.bool ((numM i.op x82.n x84.n).t), .int .i64 ((numM i.op x82.n x84.n).n), .string ((numM i.op x82.n x84.n).b)] 284) |>.p4 |>.p4 |>.p4 |>.p4
   refine d_back ⟨_, H⟩ (d_main rfl ?_)
   replace H := H.p6.p6
   refine sc (push_ok r pv key vv fuel pos steps halted s3 g tv (.map (some mb)) ((needsM i.op stk).2.1) (.slice (some ⟨b88, 0, none⟩) 1 1) [(numM i.op x82.n x84.n)] (by first | omega | exact Nat.le_trans hN.2.1 hst) (Nat.le_of_ble_eq_true rfl)) H (lA 4 rfl (fun F h => blk_rsl h rfl (by decide) (RepsR.flat_eq.2 rfl)) l0) rfl rfl (e_fn kn265 rfl rfl) ?_
   rintro _ _ w ⟨s89, rfl, rfl⟩ H
   replace H := H.h2 (A := blk r (runC pv key vv fuel pos steps halted s89 g tv (.map (some mb))) 288) (B := osl kVal s89 ((pushM ((needsM i.op stk).2.1) [(numM i.op x82.n x84.n)]).2)) |>.p5 |>.p5 |>.p5 |>.p5
   refine d_back ⟨_, H⟩ (d_1 rfl (d_nil (q_then (c_ret (q_blockR (q_thenR (q_ret1 rfl rfl ?_)))))))
   replace H := H.p3.p3.p5.p5.k4
   have e : doesM dg key (⟨pos, halted, stk, g, told, vals⟩ : VM) i = ((⟨pos, halted, (pushM ((needsM i.op stk).2.1) [(numM i.op x82.n x84.n)]).2, g, told, vals⟩ : VM), (pushM ((needsM i.op stk).2.1) [(numM i.op x82.n x84.n)]).1) := by
     rw [does_act (m := (⟨pos, halted, stk, g, told, vals⟩ : VM)) h4, act_8 (by omega)]
     rw [getD_at hx83, getD_at hx85] <;> rfl
   replace H : Hd _ _ _ [blk r (runC pv key vv fuel pos steps halted s89 g tv (.map (some mb))) 288, osl kVal s89 ((pushM ((needsM i.op stk).2.1) [(numM i.op x82.n x84.n)]).2), osl kPair tv told, digsP mb] [rsl kStr vv vals, gl] := H
   exact fin ⟨s89, tv, vv, by rw [e] <;> rfl, by rw [e] <;> exact Suf.refl _ _ _, by rw [e] <;> rfl⟩ H
  exact absurd h75 h76
 refine c_reg (s_val rfl rfl (r_eq rfl rfl rfl) (s_1 rfl (s_nil (q_then ?_))))
 refine c_dec rfl (fun h90 => ?_) (fun h90 => ?_)
 ·have hks : (kindsS i.op).size = 2 := by rw [h90]; rfl
  refine c_seq ?_
  obtain ⟨A91, c92, rfl, hc93, hm94, hp95⟩ := H.fA 2 rfl
  obtain ⟨x96, hx97⟩ : ∃ z9, ((needsM i.op stk).2.2)[0]? = some z9 := ⟨_, List.getElem?_eq_getElem (show 0 < ((needsM i.op stk).2.2).length by omega)⟩
  have okx96 := hok.1 _ (hN.2.2.1 _ (at_mem hx97))
  have szx96 := okx96.2
  have inx96 := okx96.1
  obtain ⟨x98, hx99⟩ : ∃ z9, ((needsM i.op stk).2.2)[1]? = some z9 := ⟨_, List.getElem?_eq_getElem (show 1 < ((needsM i.op stk).2.2).length by omega)⟩
  have okx98 := hok.1 _ (hN.2.2.1 _ (at_mem hx99))
  have szx98 := okx98.2
  have inx98 := okx98.1
  replace H := H.p5.p5.p5.p5
  refine c_ord (.e 0 (.e 1 (.e 2 (.e 3 (.e 4 (.e 5 (.e 6 (.e 7 (.e 8 (.e 9 (.e 10 (.m 11 (.m 12 (.m 13 (.e 14 .z))))))))))))))) (fun w => ∃ Ar, Hd w0 F0 w (osl kVal (.slice A91 (((needsM i.op stk).2.2).length) c92) ((needsM i.op stk).2.2) :: blk b1 [.int .i64 i.op, .int .i64 i.a, .string i.s] 223 :: osl kPair tv told :: digsP mb :: Ar) [rsl kStr vv vals, gl]) mo (by kernel_rfl) (fun w H => ⟨_, H⟩) H (fun w H => (d_1 rfl (d_val rfl rfl rfl (fun w ⟨Ar, H⟩ => r_fa rfl fo223_0 rfl) (d_val rfl rfl rfl (fun w ⟨Ar, H⟩ => r_ld rfl ty3 rfl (H.cellI 1 rfl rfl)) (d_1 rfl ?_)))))
  have th100 := H.thA 0 rfl hx97
  refine d_val rfl rfl rfl (fun w ⟨Ar, H⟩ => r_iaE (p := oOf A91 + 0 * 3) rfl sl282 rfl rfl (by omega) (by omega) th100 (by omega)) (d_val rfl rfl rfl (fun w ⟨Ar, H⟩ => r_fa rfl fo284_1 rfl) (d_val rfl rfl rfl (fun w ⟨Ar, H⟩ => r_ld rfl ty2 rfl (H.elA 0 rfl hx97 (q := 1) rfl rfl)) (d_1 rfl ?_)))
  have th101 := H.thA 0 rfl hx99
  refine d_val rfl rfl rfl (fun w ⟨Ar, H⟩ => r_iaE (p := oOf A91 + 1 * 3) rfl sl282 rfl rfl (by omega) (by omega) th101 (by omega)) (d_val rfl rfl rfl (fun w ⟨Ar, H⟩ => r_fa rfl fo284_1 rfl) (d_val rfl rfl rfl (fun w ⟨Ar, H⟩ => r_ld rfl ty2 rfl (H.elA 0 rfl hx99 (q := 1) rfl rfl)) (d_main rfl (sc (numbers_ok i.op x96.n x98.n) H l0 rfl rfl (e_fn kn269 rfl rfl) ?_))))
  rintro _ _ w ⟨rfl, rfl⟩ H
  refine d_back ⟨_, H⟩ (d_main rfl (s_bsl (parts := [(0, .tmp 92)]) (vs := [.agg #[.bool ((numM i.op x96.n x98.n).t), .int .i64 ((numM i.op x96.n x98.n).n), .string ((numM i.op x96.n x98.n).b)]]) (cs := [.bool ((numM i.op x96.n x98.n).t), .int .i64 ((numM i.op x96.n x98.n).n), .string ((numM i.op x96.n x98.n).b)]) rfl rfl rfl sl282 zr284 rfl (by decide) (by decide) rfl rfl H (fun b102 w H => ?_)))
  replace H := H.h1 (A := blk b102 [.bool ((numM i.op x96.n x98.n).t), .int .i64 ((numM i.op x96.n x98.n).n), .string ((numM i.op x96.n x98.n).b)] 284) |>.p4 |>.p4 |>.p4 |>.p4
  refine d_back ⟨_, H⟩ (d_main rfl ?_)
  replace H := H.p6.p6
  refine sc (push_ok r pv key vv fuel pos steps halted s3 g tv (.map (some mb)) ((needsM i.op stk).2.1) (.slice (some ⟨b102, 0, none⟩) 1 1) [(numM i.op x96.n x98.n)] (by first | omega | exact Nat.le_trans hN.2.1 hst) (Nat.le_of_ble_eq_true rfl)) H (lA 4 rfl (fun F h => blk_rsl h rfl (by decide) (RepsR.flat_eq.2 rfl)) l0) rfl rfl (e_fn kn265 rfl rfl) ?_
  rintro _ _ w ⟨s103, rfl, rfl⟩ H
  replace H := H.h2 (A := blk r (runC pv key vv fuel pos steps halted s103 g tv (.map (some mb))) 288) (B := osl kVal s103 ((pushM ((needsM i.op stk).2.1) [(numM i.op x96.n x98.n)]).2)) |>.p5 |>.p5 |>.p5 |>.p5
  refine d_back ⟨_, H⟩ (d_1 rfl (d_nil (q_then (c_ret (q_blockR (q_thenR (q_ret1 rfl rfl ?_)))))))
  replace H := H.p3.p3.p5.p5.k4
  have e : doesM dg key (⟨pos, halted, stk, g, told, vals⟩ : VM) i = ((⟨pos, halted, (pushM ((needsM i.op stk).2.1) [(numM i.op x96.n x98.n)]).2, g, told, vals⟩ : VM), (pushM ((needsM i.op stk).2.1) [(numM i.op x96.n x98.n)]).1) := by
    rw [does_act (m := (⟨pos, halted, stk, g, told, vals⟩ : VM)) h4, act_8 (by omega)]
    rw [getD_at hx97, getD_at hx99] <;> rfl
  replace H : Hd _ _ _ [blk r (runC pv key vv fuel pos steps halted s103 g tv (.map (some mb))) 288, osl kVal s103 ((pushM ((needsM i.op stk).2.1) [(numM i.op x96.n x98.n)]).2), osl kPair tv told, digsP mb] [rsl kStr vv vals, gl] := H
  exact fin ⟨s103, tv, vv, by rw [e] <;> rfl, by rw [e] <;> exact Suf.refl _ _ _, by rw [e] <;> rfl⟩ H
 refine c_seq (c_reg (s_val rfl rfl (r_eq rfl rfl rfl) (s_1 rfl (s_nil (q_then ?_)))))
 refine c_dec rfl (fun h104 => ?_) (fun h104 => ?_)
 ·have hks : (kindsS i.op).size = 2 := by rw [h104]; rfl
  refine c_seq ?_
  obtain ⟨A105, c106, rfl, hc107, hm108, hp109⟩ := H.fA 2 rfl
  obtain ⟨x110, hx111⟩ : ∃ z9, ((needsM i.op stk).2.2)[0]? = some z9 := ⟨_, List.getElem?_eq_getElem (show 0 < ((needsM i.op stk).2.2).length by omega)⟩
  have okx110 := hok.1 _ (hN.2.2.1 _ (at_mem hx111))
  have szx110 := okx110.2
  have inx110 := okx110.1
  obtain ⟨x112, hx113⟩ : ∃ z9, ((needsM i.op stk).2.2)[1]? = some z9 := ⟨_, List.getElem?_eq_getElem (show 1 < ((needsM i.op stk).2.2).length by omega)⟩
  have okx112 := hok.1 _ (hN.2.2.1 _ (at_mem hx113))
  have szx112 := okx112.2
  have inx112 := okx112.1
  replace H := H.p5.p5.p5.p5
  refine c_ord (.e 0 (.e 1 (.e 2 (.e 3 (.e 4 (.e 5 (.e 6 (.m 7 (.m 8 (.m 9 (.m 10 (.e 11 .z)))))))))))) (fun w => ∃ Ar, Hd w0 F0 w (osl kVal (.slice A105 (((needsM i.op stk).2.2).length) c106) ((needsM i.op stk).2.2) :: blk b1 [.int .i64 i.op, .int .i64 i.a, .string i.s] 223 :: osl kPair tv told :: digsP mb :: Ar) [rsl kStr vv vals, gl]) mo (by kernel_rfl) (fun w H => ⟨_, H⟩) H (fun w H => (d_1 rfl (d_1 rfl ?_)))
  have th114 := H.thA 0 rfl hx111
  refine d_val rfl rfl rfl (fun w ⟨Ar, H⟩ => r_iaE (p := oOf A105 + 0 * 3) rfl sl282 rfl rfl (by omega) (by omega) th114 (by omega)) (d_val rfl rfl rfl (fun w ⟨Ar, H⟩ => r_ldA (cs := [.bool x110.t, .int .i64 x110.n, .string x110.b]) rfl ty284 rfl rfl (H.elsA 0 rfl hx111 rfl)) (d_1 rfl ?_))
  have th115 := H.thA 0 rfl hx113
  refine d_val rfl rfl rfl (fun w ⟨Ar, H⟩ => r_iaE (p := oOf A105 + 1 * 3) rfl sl282 rfl rfl (by omega) (by omega) th115 (by omega)) (d_val rfl rfl rfl (fun w ⟨Ar, H⟩ => r_ldA (cs := [.bool x112.t, .int .i64 x112.n, .string x112.b]) rfl ty284 rfl rfl (H.elsA 0 rfl hx113 rfl)) (d_main rfl (sc (vSame_ok x110 x112) H l0 rfl rfl (e_fn kn271 rfl rfl) ?_)))
  rintro _ _ w ⟨rfl, rfl⟩ H
  refine d_back ⟨_, H⟩ (d_main rfl (sc (one_ok (sameV x110 x112)) H l0 rfl rfl (e_fn kn270 rfl rfl) ?_))
  rintro _ _ w ⟨rfl, rfl⟩ H
  refine d_back ⟨_, H⟩ (d_main rfl (s_bsl (parts := [(0, .tmp 105)]) (vs := [.agg #[.bool false, .int .i64 (if (sameV x110 x112) = true then 1 else 0), .string ⟨#[]⟩]]) (cs := [.bool false, .int .i64 (if (sameV x110 x112) = true then 1 else 0), .string ⟨#[]⟩]) rfl rfl rfl sl282 zr284 rfl (by decide) (by decide) rfl rfl H (fun b116 w H => ?_)))
  replace H := H.h1 (A := blk b116 [.bool false, .int .i64 (if (sameV x110 x112) = true then 1 else 0), .string ⟨#[]⟩] 284) |>.p4 |>.p4 |>.p4 |>.p4
  refine d_back ⟨_, H⟩ (d_main rfl ?_)
  replace H := H.p6.p6
  refine sc (push_ok r pv key vv fuel pos steps halted s3 g tv (.map (some mb)) ((needsM i.op stk).2.1) (.slice (some ⟨b116, 0, none⟩) 1 1) [(⟨false, if (sameV x110 x112) = true then 1 else 0, ⟨#[]⟩⟩ : Val)] (by first | omega | exact Nat.le_trans hN.2.1 hst) (Nat.le_of_ble_eq_true rfl)) H (lA 4 rfl (fun F h => blk_rsl h rfl (by decide) (RepsR.flat_eq.2 rfl)) l0) rfl rfl (e_fn kn265 rfl rfl) ?_
  rintro _ _ w ⟨s117, rfl, rfl⟩ H
  replace H := H.h2 (A := blk r (runC pv key vv fuel pos steps halted s117 g tv (.map (some mb))) 288) (B := osl kVal s117 ((pushM ((needsM i.op stk).2.1) [(⟨false, if (sameV x110 x112) = true then 1 else 0, ⟨#[]⟩⟩ : Val)]).2)) |>.p5 |>.p5 |>.p5 |>.p5
  refine d_back ⟨_, H⟩ (d_1 rfl (d_nil (q_then (c_ret (q_blockR (q_thenR (q_ret1 rfl rfl ?_)))))))
  replace H := H.p3.p3.p5.p5.k4
  have e : doesM dg key (⟨pos, halted, stk, g, told, vals⟩ : VM) i = ((⟨pos, halted, (pushM ((needsM i.op stk).2.1) [(⟨false, if (sameV x110 x112) = true then 1 else 0, ⟨#[]⟩⟩ : Val)]).2, g, told, vals⟩ : VM), (pushM ((needsM i.op stk).2.1) [(⟨false, if (sameV x110 x112) = true then 1 else 0, ⟨#[]⟩⟩ : Val)]).1) := by
    rw [does_act (m := (⟨pos, halted, stk, g, told, vals⟩ : VM)) h4, act_12 h104]
    rw [getD_at hx111, getD_at hx113] <;> rfl
  replace H : Hd _ _ _ [blk r (runC pv key vv fuel pos steps halted s117 g tv (.map (some mb))) 288, osl kVal s117 ((pushM ((needsM i.op stk).2.1) [(⟨false, if (sameV x110 x112) = true then 1 else 0, ⟨#[]⟩⟩ : Val)]).2), osl kPair tv told, digsP mb] [rsl kStr vv vals, gl] := H
  exact fin ⟨s117, tv, vv, by rw [e] <;> rfl, by rw [e] <;> exact Suf.refl _ _ _, by rw [e] <;> rfl⟩ H
 refine c_seq (c_reg (s_val rfl rfl (r_eq rfl rfl rfl) (s_1 rfl (s_nil (q_then ?_)))))
 refine c_dec rfl (fun h118 => ?_) (fun h118 => ?_)
 ·have hks : (kindsS i.op).size = 2 := by rw [h118]; rfl
  refine c_seq ?_
  obtain ⟨A119, c120, rfl, hc121, hm122, hp123⟩ := H.fA 2 rfl
  obtain ⟨x124, hx125⟩ : ∃ z9, ((needsM i.op stk).2.2)[0]? = some z9 := ⟨_, List.getElem?_eq_getElem (show 0 < ((needsM i.op stk).2.2).length by omega)⟩
  have okx124 := hok.1 _ (hN.2.2.1 _ (at_mem hx125))
  have szx124 := okx124.2
  have inx124 := okx124.1
  obtain ⟨x126, hx127⟩ : ∃ z9, ((needsM i.op stk).2.2)[1]? = some z9 := ⟨_, List.getElem?_eq_getElem (show 1 < ((needsM i.op stk).2.2).length by omega)⟩
  have okx126 := hok.1 _ (hN.2.2.1 _ (at_mem hx127))
  have szx126 := okx126.2
  have inx126 := okx126.1
  replace H := H.p5.p5.p5.p5
  refine c_ord (.e 0 (.e 1 (.e 2 (.e 3 (.e 4 (.e 5 (.e 6 (.e 7 (.e 8 (.e 9 (.m 10 (.m 11 (.m 12 (.e 13 .z)))))))))))))) (fun w => ∃ Ar, Hd w0 F0 w (osl kVal (.slice A119 (((needsM i.op stk).2.2).length) c120) ((needsM i.op stk).2.2) :: blk b1 [.int .i64 i.op, .int .i64 i.a, .string i.s] 223 :: osl kPair tv told :: digsP mb :: Ar) [rsl kStr vv vals, gl]) mo (by kernel_rfl) (fun w H => ⟨_, H⟩) H (fun w H => (d_1 rfl (d_1 rfl ?_)))
  have th128 := H.thA 0 rfl hx125
  refine d_val rfl rfl rfl (fun w ⟨Ar, H⟩ => r_iaE (p := oOf A119 + 0 * 3) rfl sl282 rfl rfl (by omega) (by omega) th128 (by omega)) (d_val rfl rfl rfl (fun w ⟨Ar, H⟩ => r_fa rfl fo284_2 rfl) (d_val rfl rfl rfl (fun w ⟨Ar, H⟩ => r_ld rfl ty9 rfl (H.elA 0 rfl hx125 (q := 2) rfl rfl)) (d_1 rfl ?_)))
  have th129 := H.thA 0 rfl hx127
  refine d_val rfl rfl rfl (fun w ⟨Ar, H⟩ => r_iaE (p := oOf A119 + 1 * 3) rfl sl282 rfl rfl (by omega) (by omega) th129 (by omega)) (d_val rfl rfl rfl (fun w ⟨Ar, H⟩ => r_fa rfl fo284_2 rfl) (d_val rfl rfl rfl (fun w ⟨Ar, H⟩ => r_ld rfl ty9 rfl (H.elA 0 rfl hx127 (q := 2) rfl rfl)) (d_val rfl rfl rfl (fun w ⟨Ar, H⟩ => r_addS rfl rfl rfl (by omega)) (d_main rfl (sc (vBytes_ok (x124.b ++ x126.b)) H l0 rfl rfl (e_fn kn267 rfl rfl) ?_)))))
  rintro _ _ w ⟨rfl, rfl⟩ H
  refine d_back ⟨_, H⟩ (d_main rfl (s_bsl (parts := [(0, .tmp 120)]) (vs := [.agg #[.bool true, .int .i64 0, .string (x124.b ++ x126.b)]]) (cs := [.bool true, .int .i64 0, .string (x124.b ++ x126.b)]) rfl rfl rfl sl282 zr284 rfl (by decide) (by decide) rfl rfl H (fun b130 w H => ?_)))
  replace H := H.h1 (A := blk b130 [.bool true, .int .i64 0, .string (x124.b ++ x126.b)] 284) |>.p4 |>.p4 |>.p4 |>.p4
  refine d_back ⟨_, H⟩ (d_main rfl ?_)
  replace H := H.p6.p6
  refine sc (push_ok r pv key vv fuel pos steps halted s3 g tv (.map (some mb)) ((needsM i.op stk).2.1) (.slice (some ⟨b130, 0, none⟩) 1 1) [(⟨true, 0, (x124.b ++ x126.b)⟩ : Val)] (by first | omega | exact Nat.le_trans hN.2.1 hst) (Nat.le_of_ble_eq_true rfl)) H (lA 4 rfl (fun F h => blk_rsl h rfl (by decide) (RepsR.flat_eq.2 rfl)) l0) rfl rfl (e_fn kn265 rfl rfl) ?_
  rintro _ _ w ⟨s131, rfl, rfl⟩ H
  replace H := H.h2 (A := blk r (runC pv key vv fuel pos steps halted s131 g tv (.map (some mb))) 288) (B := osl kVal s131 ((pushM ((needsM i.op stk).2.1) [(⟨true, 0, (x124.b ++ x126.b)⟩ : Val)]).2)) |>.p5 |>.p5 |>.p5 |>.p5
  refine d_back ⟨_, H⟩ (d_1 rfl (d_nil (q_then (c_ret (q_blockR (q_thenR (q_ret1 rfl rfl ?_)))))))
  replace H := H.p3.p3.p5.p5.k4
  have e : doesM dg key (⟨pos, halted, stk, g, told, vals⟩ : VM) i = ((⟨pos, halted, (pushM ((needsM i.op stk).2.1) [(⟨true, 0, (x124.b ++ x126.b)⟩ : Val)]).2, g, told, vals⟩ : VM), (pushM ((needsM i.op stk).2.1) [(⟨true, 0, (x124.b ++ x126.b)⟩ : Val)]).1) := by
    rw [does_act (m := (⟨pos, halted, stk, g, told, vals⟩ : VM)) h4, act_13 h118]
    rw [getD_at hx125, getD_at hx127] <;> rfl
  replace H : Hd _ _ _ [blk r (runC pv key vv fuel pos steps halted s131 g tv (.map (some mb))) 288, osl kVal s131 ((pushM ((needsM i.op stk).2.1) [(⟨true, 0, (x124.b ++ x126.b)⟩ : Val)]).2), osl kPair tv told, digsP mb] [rsl kStr vv vals, gl] := H
  exact fin ⟨s131, tv, vv, by rw [e] <;> rfl, by rw [e] <;> exact Suf.refl _ _ _, by rw [e] <;> rfl⟩ H
 refine c_seq (c_reg (s_val rfl rfl (r_eq rfl rfl rfl) (s_1 rfl (s_nil (q_then ?_)))))
 refine c_dec rfl (fun h132 => ?_) (fun h132 => ?_)
 ·have hks : (kindsS i.op).size = 1 := by rw [h132]; rfl
  refine c_seq ?_
  obtain ⟨A133, c134, rfl, hc135, hm136, hp137⟩ := H.fA 2 rfl
  obtain ⟨x138, hx139⟩ : ∃ z9, ((needsM i.op stk).2.2)[0]? = some z9 := ⟨_, List.getElem?_eq_getElem (show 0 < ((needsM i.op stk).2.2).length by omega)⟩
  have okx138 := hok.1 _ (hN.2.2.1 _ (at_mem hx139))
  have szx138 := okx138.2
  have inx138 := okx138.1
  refine c_reg (s_k 2 rfl ?_)
  have th140 := H.thA 2 rfl hx139
  refine s_val rfl rfl (r_iaE (p := oOf A133 + 0 * 3) rfl sl282 rfl rfl (by omega) (by omega) th140 (by omega)) (s_val rfl rfl (r_fa rfl fo284_2 rfl) (s_val rfl rfl (r_ld rfl ty9 rfl (H.elA 2 rfl hx139 (q := 2) rfl rfl)) (s_val rfl rfl (r_lenS rfl un9 rfl) (sc (vInt_ok ((x138.b.size : Nat) : Int)) H l0 rfl rfl (e_fn kn266 rfl rfl) ?_))))
  rintro _ _ w ⟨rfl, rfl⟩ H
  refine s_bsl (parts := [(0, .tmp 131)]) (vs := [.agg #[.bool false, .int .i64 ((x138.b.size : Nat) : Int), .string ⟨#[]⟩]]) (cs := [.bool false, .int .i64 ((x138.b.size : Nat) : Int), .string ⟨#[]⟩]) rfl rfl rfl sl282 zr284 rfl (by decide) (by decide) rfl rfl H (fun b141 w H => ?_)
  replace H := H.p2.p2
  replace H : Hd _ _ _ [blk r (runC pv key vv fuel pos steps halted s3 g tv (.map (some mb))) 288, osl kVal s3 ((needsM i.op stk).2.1), blk b141 [.bool false, .int .i64 ((x138.b.size : Nat) : Int), .string ⟨#[]⟩] 284, osl kVal (.slice A133 (((needsM i.op stk).2.2).length) c134) ((needsM i.op stk).2.2), blk b1 [.int .i64 i.op, .int .i64 i.a, .string i.s] 223, osl kPair tv told, digsP mb] [rsl kStr vv vals, gl] := H
  refine sc (push_ok r pv key vv fuel pos steps halted s3 g tv (.map (some mb)) ((needsM i.op stk).2.1) (.slice (some ⟨b141, 0, none⟩) 1 1) [(⟨false, ((x138.b.size : Nat) : Int), ⟨#[]⟩⟩ : Val)] (by first | omega | exact Nat.le_trans hN.2.1 hst) (Nat.le_of_ble_eq_true rfl)) H (lA 0 rfl (fun F h => blk_rsl h rfl (by decide) (RepsR.flat_eq.2 rfl)) l0) rfl rfl (e_fn kn265 rfl rfl) ?_
  rintro _ _ w ⟨s142, rfl, rfl⟩ H
  replace H := H.h2 (A := blk r (runC pv key vv fuel pos steps halted s142 g tv (.map (some mb))) 288) (B := osl kVal s142 ((pushM ((needsM i.op stk).2.1) [(⟨false, ((x138.b.size : Nat) : Int), ⟨#[]⟩⟩ : Val)]).2))
  refine s_1 rfl (s_nil (q_then (c_ret (q_blockR (q_thenR (q_ret1 rfl rfl ?_))))))
  replace H := H.p6.p6.p3.p3.k4
  have e : doesM dg key (⟨pos, halted, stk, g, told, vals⟩ : VM) i = ((⟨pos, halted, (pushM ((needsM i.op stk).2.1) [(⟨false, ((x138.b.size : Nat) : Int), ⟨#[]⟩⟩ : Val)]).2, g, told, vals⟩ : VM), (pushM ((needsM i.op stk).2.1) [(⟨false, ((x138.b.size : Nat) : Int), ⟨#[]⟩⟩ : Val)]).1) := by
    rw [does_act (m := (⟨pos, halted, stk, g, told, vals⟩ : VM)) h4, act_14 h132]
    rw [getD_at hx139] <;> rfl
  replace H : Hd _ _ _ [blk r (runC pv key vv fuel pos steps halted s142 g tv (.map (some mb))) 288, osl kVal s142 ((pushM ((needsM i.op stk).2.1) [(⟨false, ((x138.b.size : Nat) : Int), ⟨#[]⟩⟩ : Val)]).2), osl kPair tv told, digsP mb] [rsl kStr vv vals, gl] := H
  exact fin ⟨s142, tv, vv, by rw [e] <;> rfl, by rw [e] <;> exact Suf.refl _ _ _, by rw [e] <;> rfl⟩ H
 refine c_seq (c_reg (s_val rfl rfl (r_eq rfl rfl rfl) (s_1 rfl (s_nil (q_then ?_)))))
 refine c_dec rfl (fun h143 => ?_) (fun h143 => ?_)
 ·have hks : (kindsS i.op).size = 2 := by rw [h143]; rfl
  refine c_seq ?_
  obtain ⟨A144, c145, rfl, hc146, hm147, hp148⟩ := H.fA 2 rfl
  obtain ⟨x149, hx150⟩ : ∃ z9, ((needsM i.op stk).2.2)[0]? = some z9 := ⟨_, List.getElem?_eq_getElem (show 0 < ((needsM i.op stk).2.2).length by omega)⟩
  have okx149 := hok.1 _ (hN.2.2.1 _ (at_mem hx150))
  have szx149 := okx149.2
  have inx149 := okx149.1
  obtain ⟨x151, hx152⟩ : ∃ z9, ((needsM i.op stk).2.2)[1]? = some z9 := ⟨_, List.getElem?_eq_getElem (show 1 < ((needsM i.op stk).2.2).length by omega)⟩
  have okx151 := hok.1 _ (hN.2.2.1 _ (at_mem hx152))
  have szx151 := okx151.2
  have inx151 := okx151.1
  replace H := H.p5.p5.p5.p5
  refine c_ord (.e 0 (.e 1 (.e 2 (.e 3 (.e 4 (.e 5 (.e 6 (.e 7 (.e 8 (.m 9 (.m 10 (.m 11 (.m 12 (.e 13 .z)))))))))))))) (fun w => ∃ Ar, Hd w0 F0 w (osl kVal (.slice A144 (((needsM i.op stk).2.2).length) c145) ((needsM i.op stk).2.2) :: blk b1 [.int .i64 i.op, .int .i64 i.a, .string i.s] 223 :: osl kPair tv told :: digsP mb :: Ar) [rsl kStr vv vals, gl]) mo (by kernel_rfl) (fun w H => ⟨_, H⟩) H (fun w H => (d_1 rfl (d_1 rfl ?_)))
  have th153 := H.thA 0 rfl hx150
  refine d_val rfl rfl rfl (fun w ⟨Ar, H⟩ => r_iaE (p := oOf A144 + 0 * 3) rfl sl282 rfl rfl (by omega) (by omega) th153 (by omega)) (d_val rfl rfl rfl (fun w ⟨Ar, H⟩ => r_fa rfl fo284_2 rfl) (d_val rfl rfl rfl (fun w ⟨Ar, H⟩ => r_ld rfl ty9 rfl (H.elA 0 rfl hx150 (q := 2) rfl rfl)) (d_1 rfl ?_)))
  have th154 := H.thA 0 rfl hx152
  refine d_val rfl rfl rfl (fun w ⟨Ar, H⟩ => r_iaE (p := oOf A144 + 1 * 3) rfl sl282 rfl rfl (by omega) (by omega) th154 (by omega)) (d_val rfl rfl rfl (fun w ⟨Ar, H⟩ => r_fa rfl fo284_1 rfl) (d_val rfl rfl rfl (fun w ⟨Ar, H⟩ => r_ld rfl ty2 rfl (H.elA 0 rfl hx152 (q := 1) rfl rfl)) (d_main rfl (sc (vAt_ok x149.b x151.n) H l0 rfl rfl (e_fn kn272 rfl rfl) ?_))))
  rintro _ _ w ⟨rfl, rfl⟩ H
  refine d_back ⟨_, H⟩ (d_main rfl (sc (vInt_ok (atS x149.b x151.n)) H l0 rfl rfl (e_fn kn266 rfl rfl) ?_))
  rintro _ _ w ⟨rfl, rfl⟩ H
  refine d_back ⟨_, H⟩ (d_main rfl (s_bsl (parts := [(0, .tmp 146)]) (vs := [.agg #[.bool false, .int .i64 (atS x149.b x151.n), .string ⟨#[]⟩]]) (cs := [.bool false, .int .i64 (atS x149.b x151.n), .string ⟨#[]⟩]) rfl rfl rfl sl282 zr284 rfl (by decide) (by decide) rfl rfl H (fun b155 w H => ?_)))
  replace H := H.h1 (A := blk b155 [.bool false, .int .i64 (atS x149.b x151.n), .string ⟨#[]⟩] 284) |>.p4 |>.p4 |>.p4 |>.p4
  refine d_back ⟨_, H⟩ (d_main rfl ?_)
  replace H := H.p6.p6
  refine sc (push_ok r pv key vv fuel pos steps halted s3 g tv (.map (some mb)) ((needsM i.op stk).2.1) (.slice (some ⟨b155, 0, none⟩) 1 1) [(⟨false, atS x149.b x151.n, ⟨#[]⟩⟩ : Val)] (by first | omega | exact Nat.le_trans hN.2.1 hst) (Nat.le_of_ble_eq_true rfl)) H (lA 4 rfl (fun F h => blk_rsl h rfl (by decide) (RepsR.flat_eq.2 rfl)) l0) rfl rfl (e_fn kn265 rfl rfl) ?_
  rintro _ _ w ⟨s156, rfl, rfl⟩ H
  replace H := H.h2 (A := blk r (runC pv key vv fuel pos steps halted s156 g tv (.map (some mb))) 288) (B := osl kVal s156 ((pushM ((needsM i.op stk).2.1) [(⟨false, atS x149.b x151.n, ⟨#[]⟩⟩ : Val)]).2)) |>.p5 |>.p5 |>.p5 |>.p5
  refine d_back ⟨_, H⟩ (d_1 rfl (d_nil (q_then (c_ret (q_blockR (q_thenR (q_ret1 rfl rfl ?_)))))))
  replace H := H.p3.p3.p5.p5.k4
  have e : doesM dg key (⟨pos, halted, stk, g, told, vals⟩ : VM) i = ((⟨pos, halted, (pushM ((needsM i.op stk).2.1) [(⟨false, atS x149.b x151.n, ⟨#[]⟩⟩ : Val)]).2, g, told, vals⟩ : VM), (pushM ((needsM i.op stk).2.1) [(⟨false, atS x149.b x151.n, ⟨#[]⟩⟩ : Val)]).1) := by
    rw [does_act (m := (⟨pos, halted, stk, g, told, vals⟩ : VM)) h4, act_15 h143]
    rw [getD_at hx150, getD_at hx152] <;> rfl
  replace H : Hd _ _ _ [blk r (runC pv key vv fuel pos steps halted s156 g tv (.map (some mb))) 288, osl kVal s156 ((pushM ((needsM i.op stk).2.1) [(⟨false, atS x149.b x151.n, ⟨#[]⟩⟩ : Val)]).2), osl kPair tv told, digsP mb] [rsl kStr vv vals, gl] := H
  exact fin ⟨s156, tv, vv, by rw [e] <;> rfl, by rw [e] <;> exact Suf.refl _ _ _, by rw [e] <;> rfl⟩ H
 refine c_seq (c_reg (s_val rfl rfl (r_eq rfl rfl rfl) (s_1 rfl (s_nil (q_then ?_)))))
 refine c_dec rfl (fun h157 => ?_) (fun h157 => ?_)
 ·have hks : (kindsS i.op).size = 3 := by rw [h157]; rfl
  refine c_seq ?_
  obtain ⟨A158, c159, rfl, hc160, hm161, hp162⟩ := H.fA 2 rfl
  obtain ⟨x163, hx164⟩ : ∃ z9, ((needsM i.op stk).2.2)[0]? = some z9 := ⟨_, List.getElem?_eq_getElem (show 0 < ((needsM i.op stk).2.2).length by omega)⟩
  have okx163 := hok.1 _ (hN.2.2.1 _ (at_mem hx164))
  have szx163 := okx163.2
  have inx163 := okx163.1
  obtain ⟨x165, hx166⟩ : ∃ z9, ((needsM i.op stk).2.2)[1]? = some z9 := ⟨_, List.getElem?_eq_getElem (show 1 < ((needsM i.op stk).2.2).length by omega)⟩
  have okx165 := hok.1 _ (hN.2.2.1 _ (at_mem hx166))
  have szx165 := okx165.2
  have inx165 := okx165.1
  obtain ⟨x167, hx168⟩ : ∃ z9, ((needsM i.op stk).2.2)[2]? = some z9 := ⟨_, List.getElem?_eq_getElem (show 2 < ((needsM i.op stk).2.2).length by omega)⟩
  have okx167 := hok.1 _ (hN.2.2.1 _ (at_mem hx168))
  have szx167 := okx167.2
  have inx167 := okx167.1
  replace H := H.p5.p5.p5.p5
  refine c_ord (.e 0 (.e 1 (.e 2 (.e 3 (.e 4 (.e 5 (.e 6 (.e 7 (.e 8 (.e 9 (.e 10 (.e 11 (.e 12 (.m 13 (.m 14 (.m 15 (.m 16 (.e 17 .z)))))))))))))))))) (fun w => ∃ Ar, Hd w0 F0 w (osl kVal (.slice A158 (((needsM i.op stk).2.2).length) c159) ((needsM i.op stk).2.2) :: blk b1 [.int .i64 i.op, .int .i64 i.a, .string i.s] 223 :: osl kPair tv told :: digsP mb :: Ar) [rsl kStr vv vals, gl]) mo (by kernel_rfl) (fun w H => ⟨_, H⟩) H (fun w H => (d_1 rfl (d_1 rfl ?_)))
  have th169 := H.thA 0 rfl hx164
  refine d_val rfl rfl rfl (fun w ⟨Ar, H⟩ => r_iaE (p := oOf A158 + 0 * 3) rfl sl282 rfl rfl (by omega) (by omega) th169 (by omega)) (d_val rfl rfl rfl (fun w ⟨Ar, H⟩ => r_fa rfl fo284_2 rfl) (d_val rfl rfl rfl (fun w ⟨Ar, H⟩ => r_ld rfl ty9 rfl (H.elA 0 rfl hx164 (q := 2) rfl rfl)) (d_1 rfl ?_)))
  have th170 := H.thA 0 rfl hx166
  refine d_val rfl rfl rfl (fun w ⟨Ar, H⟩ => r_iaE (p := oOf A158 + 1 * 3) rfl sl282 rfl rfl (by omega) (by omega) th170 (by omega)) (d_val rfl rfl rfl (fun w ⟨Ar, H⟩ => r_fa rfl fo284_1 rfl) (d_val rfl rfl rfl (fun w ⟨Ar, H⟩ => r_ld rfl ty2 rfl (H.elA 0 rfl hx166 (q := 1) rfl rfl)) (d_1 rfl ?_)))
  have th171 := H.thA 0 rfl hx168
  refine d_val rfl rfl rfl (fun w ⟨Ar, H⟩ => r_iaE (p := oOf A158 + 2 * 3) rfl sl282 rfl rfl (by omega) (by omega) th171 (by omega)) (d_val rfl rfl rfl (fun w ⟨Ar, H⟩ => r_fa rfl fo284_1 rfl) (d_val rfl rfl rfl (fun w ⟨Ar, H⟩ => r_ld rfl ty2 rfl (H.elA 0 rfl hx168 (q := 1) rfl rfl)) (d_main rfl (sc (vCut_ok x163.b x165.n x167.n) H l0 rfl rfl (e_fn kn273 rfl rfl) ?_))))
  rintro _ _ w ⟨rfl, rfl⟩ H
  refine d_back ⟨_, H⟩ (d_main rfl (sc (vBytes_ok (cutS x163.b x165.n x167.n)) H l0 rfl rfl (e_fn kn267 rfl rfl) ?_))
  rintro _ _ w ⟨rfl, rfl⟩ H
  refine d_back ⟨_, H⟩ (d_main rfl (s_bsl (parts := [(0, .tmp 165)]) (vs := [.agg #[.bool true, .int .i64 0, .string (cutS x163.b x165.n x167.n)]]) (cs := [.bool true, .int .i64 0, .string (cutS x163.b x165.n x167.n)]) rfl rfl rfl sl282 zr284 rfl (by decide) (by decide) rfl rfl H (fun b172 w H => ?_)))
  replace H := H.h1 (A := blk b172 [.bool true, .int .i64 0, .string (cutS x163.b x165.n x167.n)] 284) |>.p4 |>.p4 |>.p4 |>.p4
  refine d_back ⟨_, H⟩ (d_main rfl ?_)
  replace H := H.p6.p6
  refine sc (push_ok r pv key vv fuel pos steps halted s3 g tv (.map (some mb)) ((needsM i.op stk).2.1) (.slice (some ⟨b172, 0, none⟩) 1 1) [(⟨true, 0, (cutS x163.b x165.n x167.n)⟩ : Val)] (by first | omega | exact Nat.le_trans hN.2.1 hst) (Nat.le_of_ble_eq_true rfl)) H (lA 4 rfl (fun F h => blk_rsl h rfl (by decide) (RepsR.flat_eq.2 rfl)) l0) rfl rfl (e_fn kn265 rfl rfl) ?_
  rintro _ _ w ⟨s173, rfl, rfl⟩ H
  replace H := H.h2 (A := blk r (runC pv key vv fuel pos steps halted s173 g tv (.map (some mb))) 288) (B := osl kVal s173 ((pushM ((needsM i.op stk).2.1) [(⟨true, 0, (cutS x163.b x165.n x167.n)⟩ : Val)]).2)) |>.p5 |>.p5 |>.p5 |>.p5
  refine d_back ⟨_, H⟩ (d_1 rfl (d_nil (q_then (c_ret (q_blockR (q_thenR (q_ret1 rfl rfl ?_)))))))
  replace H := H.p3.p3.p5.p5.k4
  have e : doesM dg key (⟨pos, halted, stk, g, told, vals⟩ : VM) i = ((⟨pos, halted, (pushM ((needsM i.op stk).2.1) [(⟨true, 0, (cutS x163.b x165.n x167.n)⟩ : Val)]).2, g, told, vals⟩ : VM), (pushM ((needsM i.op stk).2.1) [(⟨true, 0, (cutS x163.b x165.n x167.n)⟩ : Val)]).1) := by
    rw [does_act (m := (⟨pos, halted, stk, g, told, vals⟩ : VM)) h4, act_16 h157]
    rw [getD_at hx164, getD_at hx166, getD_at hx168] <;> rfl
  replace H : Hd _ _ _ [blk r (runC pv key vv fuel pos steps halted s173 g tv (.map (some mb))) 288, osl kVal s173 ((pushM ((needsM i.op stk).2.1) [(⟨true, 0, (cutS x163.b x165.n x167.n)⟩ : Val)]).2), osl kPair tv told, digsP mb] [rsl kStr vv vals, gl] := H
  exact fin ⟨s173, tv, vv, by rw [e] <;> rfl, by rw [e] <;> exact Suf.refl _ _ _, by rw [e] <;> rfl⟩ H
 refine c_seq (c_reg (s_val rfl rfl (r_eq rfl rfl rfl) (s_1 rfl (s_nil (q_then ?_)))))
 refine c_dec rfl (fun h174 => ?_) (fun h174 => ?_)
 ·have hks : (kindsS i.op).size = 1 := by rw [h174]; rfl
  refine c_seq ?_
  obtain ⟨A175, c176, rfl, hc177, hm178, hp179⟩ := H.fA 2 rfl
  obtain ⟨x180, hx181⟩ : ∃ z9, ((needsM i.op stk).2.2)[0]? = some z9 := ⟨_, List.getElem?_eq_getElem (show 0 < ((needsM i.op stk).2.2).length by omega)⟩
  have okx180 := hok.1 _ (hN.2.2.1 _ (at_mem hx181))
  have szx180 := okx180.2
  have inx180 := okx180.1
  refine c_reg (s_k 3 rfl ?_)
  have th182 := H.thA 2 rfl hx181
  refine s_val rfl rfl (r_iaE (p := oOf A175 + 0 * 3) rfl sl282 rfl rfl (by omega) (by omega) th182 (by omega)) (s_val rfl rfl (r_fa rfl fo284_1 rfl) (s_val rfl rfl (r_ld rfl ty2 rfl (H.elA 2 rfl hx181 (q := 1) rfl rfl)) ?_))
  replace H := H.p5
  refine sc (text_ok r pv key vv fuel pos steps halted s3 g tv mb x180.n (by assumption)) H (lA 0 rfl (fun _ h => h) (lR 1 rfl l0)) rfl rfl (e_fn kn274 rfl rfl) ?_
  rintro _ _ w ⟨rfl, rfl⟩ H
  refine sc (vBytes_ok (dg.dig x180.n)) H l0 rfl rfl (e_fn kn267 rfl rfl) ?_
  rintro _ _ w ⟨rfl, rfl⟩ H
  refine s_bsl (parts := [(0, .tmp 177)]) (vs := [.agg #[.bool true, .int .i64 0, .string (dg.dig x180.n)]]) (cs := [.bool true, .int .i64 0, .string (dg.dig x180.n)]) rfl rfl rfl sl282 zr284 rfl (by decide) (by decide) rfl rfl H (fun b183 w H => ?_)
  replace H := H.h1 (A := blk b183 [.bool true, .int .i64 0, .string (dg.dig x180.n)] 284) |>.p3 |>.p3
  refine sc (push_ok r pv key vv fuel pos steps halted s3 g tv (.map (some mb)) ((needsM i.op stk).2.1) (.slice (some ⟨b183, 0, none⟩) 1 1) [(⟨true, 0, (dg.dig x180.n)⟩ : Val)] (by first | omega | exact Nat.le_trans hN.2.1 hst) (Nat.le_of_ble_eq_true rfl)) H (lA 0 rfl (fun F h => blk_rsl h rfl (by decide) (RepsR.flat_eq.2 rfl)) l0) rfl rfl (e_fn kn265 rfl rfl) ?_
  rintro _ _ w ⟨s184, rfl, rfl⟩ H
  replace H := H.h2 (A := blk r (runC pv key vv fuel pos steps halted s184 g tv (.map (some mb))) 288) (B := osl kVal s184 ((pushM ((needsM i.op stk).2.1) [(⟨true, 0, (dg.dig x180.n)⟩ : Val)]).2))
  refine s_1 rfl (s_nil (q_then (c_ret (q_blockR (q_thenR (q_ret1 rfl rfl ?_))))))
  replace H := H.p3.p6.p3.p3.k4
  have e : doesM dg key (⟨pos, halted, stk, g, told, vals⟩ : VM) i = ((⟨pos, halted, (pushM ((needsM i.op stk).2.1) [(⟨true, 0, (dg.dig x180.n)⟩ : Val)]).2, g, told, vals⟩ : VM), (pushM ((needsM i.op stk).2.1) [(⟨true, 0, (dg.dig x180.n)⟩ : Val)]).1) := by
    rw [does_act (m := (⟨pos, halted, stk, g, told, vals⟩ : VM)) h4, act_17 h174]
    rw [getD_at hx181] <;> rfl
  replace H : Hd _ _ _ [blk r (runC pv key vv fuel pos steps halted s184 g tv (.map (some mb))) 288, osl kVal s184 ((pushM ((needsM i.op stk).2.1) [(⟨true, 0, (dg.dig x180.n)⟩ : Val)]).2), osl kPair tv told, digsP mb] [rsl kStr vv vals, gl] := H
  exact fin ⟨s184, tv, vv, by rw [e] <;> rfl, by rw [e] <;> exact Suf.refl _ _ _, by rw [e] <;> rfl⟩ H
 refine c_seq (c_reg (s_val rfl rfl (r_eq rfl rfl rfl) (s_1 rfl (s_nil (q_then ?_)))))
 refine c_dec rfl (fun h185 => ?_) (fun h185 => ?_)
 ·have hks : (kindsS i.op).size = 1 := by rw [h185]; rfl
  refine c_seq ?_
  obtain ⟨A186, c187, rfl, hc188, hm189, hp190⟩ := H.fA 2 rfl
  obtain ⟨x191, hx192⟩ : ∃ z9, ((needsM i.op stk).2.2)[0]? = some z9 := ⟨_, List.getElem?_eq_getElem (show 0 < ((needsM i.op stk).2.2).length by omega)⟩
  have okx191 := hok.1 _ (hN.2.2.1 _ (at_mem hx192))
  have szx191 := okx191.2
  have inx191 := okx191.1
  refine c_reg (s_k 2 rfl ?_)
  have th193 := H.thA 2 rfl hx192
  refine s_val rfl rfl (r_iaE (p := oOf A186 + 0 * 3) rfl sl282 rfl rfl (by omega) (by omega) th193 (by omega)) (s_val rfl rfl (r_fa rfl fo284_2 rfl) (s_val rfl rfl (r_ld rfl ty9 rfl (H.elA 2 rfl hx192 (q := 2) rfl rfl)) (sc (number_ok x191.b (by omega)) H (lR 1 rfl l0) rfl rfl (e_fn kn275 rfl rfl) ?_)))
  rintro _ _ w ⟨rfl, rfl⟩ H
  refine sc (vInt_ok (dg.num x191.b)) H l0 rfl rfl (e_fn kn266 rfl rfl) ?_
  rintro _ _ w ⟨rfl, rfl⟩ H
  refine s_bsl (parts := [(0, .tmp 188)]) (vs := [.agg #[.bool false, .int .i64 (dg.num x191.b), .string ⟨#[]⟩]]) (cs := [.bool false, .int .i64 (dg.num x191.b), .string ⟨#[]⟩]) rfl rfl rfl sl282 zr284 rfl (by decide) (by decide) rfl rfl H (fun b194 w H => ?_)
  replace H := H.p2.p2
  replace H : Hd _ _ _ [blk r (runC pv key vv fuel pos steps halted s3 g tv (.map (some mb))) 288, osl kVal s3 ((needsM i.op stk).2.1), blk b194 [.bool false, .int .i64 (dg.num x191.b), .string ⟨#[]⟩] 284, osl kVal (.slice A186 (((needsM i.op stk).2.2).length) c187) ((needsM i.op stk).2.2), blk b1 [.int .i64 i.op, .int .i64 i.a, .string i.s] 223, osl kPair tv told, digsP mb] [rsl kStr vv vals, gl] := H
  refine sc (push_ok r pv key vv fuel pos steps halted s3 g tv (.map (some mb)) ((needsM i.op stk).2.1) (.slice (some ⟨b194, 0, none⟩) 1 1) [(⟨false, dg.num x191.b, ⟨#[]⟩⟩ : Val)] (by first | omega | exact Nat.le_trans hN.2.1 hst) (Nat.le_of_ble_eq_true rfl)) H (lA 0 rfl (fun F h => blk_rsl h rfl (by decide) (RepsR.flat_eq.2 rfl)) l0) rfl rfl (e_fn kn265 rfl rfl) ?_
  rintro _ _ w ⟨s195, rfl, rfl⟩ H
  replace H := H.h2 (A := blk r (runC pv key vv fuel pos steps halted s195 g tv (.map (some mb))) 288) (B := osl kVal s195 ((pushM ((needsM i.op stk).2.1) [(⟨false, dg.num x191.b, ⟨#[]⟩⟩ : Val)]).2))
  refine s_1 rfl (s_nil (q_then (c_ret (q_blockR (q_thenR (q_ret1 rfl rfl ?_))))))
  replace H := H.p6.p6.p3.p3.k4
  have e : doesM dg key (⟨pos, halted, stk, g, told, vals⟩ : VM) i = ((⟨pos, halted, (pushM ((needsM i.op stk).2.1) [(⟨false, dg.num x191.b, ⟨#[]⟩⟩ : Val)]).2, g, told, vals⟩ : VM), (pushM ((needsM i.op stk).2.1) [(⟨false, dg.num x191.b, ⟨#[]⟩⟩ : Val)]).1) := by
    rw [does_act (m := (⟨pos, halted, stk, g, told, vals⟩ : VM)) h4, act_18 h185]
    rw [getD_at hx192] <;> rfl
  replace H : Hd _ _ _ [blk r (runC pv key vv fuel pos steps halted s195 g tv (.map (some mb))) 288, osl kVal s195 ((pushM ((needsM i.op stk).2.1) [(⟨false, dg.num x191.b, ⟨#[]⟩⟩ : Val)]).2), osl kPair tv told, digsP mb] [rsl kStr vv vals, gl] := H
  exact fin ⟨s195, tv, vv, by rw [e] <;> rfl, by rw [e] <;> exact Suf.refl _ _ _, by rw [e] <;> rfl⟩ H
 refine c_seq (c_reg (s_val rfl rfl (r_eq rfl rfl rfl) (s_1 rfl (s_nil (q_then ?_)))))
 refine c_dec rfl (fun h196 => ?_) (fun h196 => ?_)
 ·have hks : (kindsS i.op).size = 0 := by rw [h196]; rfl
  refine c_reg (s_1 rfl (s_val rfl rfl (r_fa rfl fo223_1 rfl) (s_val rfl rfl (r_ld rfl ty3 rfl (H.cellI 3 rfl rfl)) (s_val rfl rfl (r_nilP rfl rfl) (s_val rfl rfl (r_fa rfl fo288_4 rfl) (s_st rfl rfl rfl ty3 rfl rfl H rfl (Nat.le_of_ble_eq_true rfl) (fun u hu => by simp [Value.cells] at hu; subst hu; rfl) (fun w H => ?_)))))))
  replace H := H.h1 (A := blk r (runC pv key vv fuel i.a steps halted s3 g tv (.map (some mb))) 288)
  refine s_nil (q_blockN (q_then (c_seq (c_reg (s_1 rfl (s_nil (q_then (c_ret (q_ret1 rfl rfl ?_)))))))))
  replace H := H.p5.p5.p3.p3.k4
  have e : doesM dg key (⟨pos, halted, stk, g, told, vals⟩ : VM) i = ((⟨i.a, halted, (needsM i.op stk).2.1, g, told, vals⟩ : VM), 0) := by
    rw [does_act (m := (⟨pos, halted, stk, g, told, vals⟩ : VM)) h4, act_19 h196]
    all_goals rfl
  replace H : Hd _ _ _ [blk r (runC pv key vv fuel i.a steps halted s3 g tv (.map (some mb))) 288, osl kVal s3 ((needsM i.op stk).2.1), osl kPair tv told, digsP mb] [rsl kStr vv vals, gl] := H
  exact fin ⟨s3, tv, vv, by rw [e] <;> rfl, by rw [e] <;> exact Suf.refl _ _ _, by rw [e] <;> rfl⟩ H
 refine c_seq (c_reg (s_val rfl rfl (r_eq rfl rfl rfl) (s_1 rfl (s_nil (q_then ?_)))))
 refine c_dec rfl (fun h197 => ?_) (fun h197 => ?_)
 ·have hks : (kindsS i.op).size = 1 := by rw [h197]; rfl
  refine c_seq ?_
  obtain ⟨A198, c199, rfl, hc200, hm201, hp202⟩ := H.fA 2 rfl
  obtain ⟨x203, hx204⟩ : ∃ z9, ((needsM i.op stk).2.2)[0]? = some z9 := ⟨_, List.getElem?_eq_getElem (show 0 < ((needsM i.op stk).2.2).length by omega)⟩
  have okx203 := hok.1 _ (hN.2.2.1 _ (at_mem hx204))
  have szx203 := okx203.2
  have inx203 := okx203.1
  refine c_reg (s_1 rfl ?_)
  have th205 := H.thA 2 rfl hx204
  refine s_val rfl rfl (r_iaE (p := oOf A198 + 0 * 3) rfl sl282 rfl rfl (by omega) (by omega) th205 (by omega)) (s_val rfl rfl (r_fa rfl fo284_1 rfl) (s_val rfl rfl (r_ld rfl ty2 rfl (H.elA 2 rfl hx204 (q := 1) rfl rfl)) (s_val rfl rfl (r_ne rfl rfl rfl) (s_nil (q_then ?_)))))
  refine c_dec rfl (fun h206 => ?_) (fun h206 => ?_)
  ·refine c_reg (s_1 rfl (s_val rfl rfl (r_fa rfl fo223_1 rfl) (s_val rfl rfl (r_ld rfl ty3 rfl (H.cellI 3 rfl rfl)) (s_val rfl rfl (r_nilP rfl rfl) (s_val rfl rfl (r_fa rfl fo288_4 rfl) (s_st rfl rfl rfl ty3 rfl rfl H rfl (Nat.le_of_ble_eq_true rfl) (fun u hu => by simp [Value.cells] at hu; subst hu; rfl) (fun w H => ?_)))))))
   replace H := H.h1 (A := blk r (runC pv key vv fuel i.a steps halted s3 g tv (.map (some mb))) 288)
   refine s_nil (q_blockN (q_then (c_seq (c_reg (s_1 rfl (s_nil (q_then (c_ret (q_ret1 rfl rfl ?_)))))))))
   replace H := H.p5.p5.p3.p3.k4
   have e : doesM dg key (⟨pos, halted, stk, g, told, vals⟩ : VM) i = ((⟨i.a, halted, (needsM i.op stk).2.1, g, told, vals⟩ : VM), 0) := by
     rw [does_act (m := (⟨pos, halted, stk, g, told, vals⟩ : VM)) h4, act_20 h197]
     rw [getD_at hx204, if_pos h206]
   replace H : Hd _ _ _ [blk r (runC pv key vv fuel i.a steps halted s3 g tv (.map (some mb))) 288, osl kVal s3 ((needsM i.op stk).2.1), osl kPair tv told, digsP mb] [rsl kStr vv vals, gl] := H
   exact fin ⟨s3, tv, vv, by rw [e] <;> rfl, by rw [e] <;> exact Suf.refl _ _ _, by rw [e] <;> rfl⟩ H
  refine c_skip (q_blockN (q_then (c_seq (c_reg (s_1 rfl (s_nil (q_then (c_ret (q_ret1 rfl rfl ?_)))))))))
  replace H := H.p5.p5.p3.p3.k4
  have e : doesM dg key (⟨pos, halted, stk, g, told, vals⟩ : VM) i = ((⟨pos, halted, (needsM i.op stk).2.1, g, told, vals⟩ : VM), 0) := by
    rw [does_act (m := (⟨pos, halted, stk, g, told, vals⟩ : VM)) h4, act_20 h197]
    rw [getD_at hx204, if_neg h206]
  replace H : Hd _ _ _ [blk r (runC pv key vv fuel pos steps halted s3 g tv (.map (some mb))) 288, osl kVal s3 ((needsM i.op stk).2.1), osl kPair tv told, digsP mb] [rsl kStr vv vals, gl] := H
  exact fin ⟨s3, tv, vv, by rw [e] <;> rfl, by rw [e] <;> exact Suf.refl _ _ _, by rw [e] <;> rfl⟩ H
 refine c_seq (c_reg (s_val rfl rfl (r_eq rfl rfl rfl) (s_1 rfl (s_nil (q_then ?_)))))
 refine c_dec rfl (fun h207 => ?_) (fun h207 => ?_)
 ·have hks : (kindsS i.op).size = 0 := by rw [h207]; rfl
  refine c_seq ?_
  have hia := hi.2.2.2.2.2.1 (by omega)
  obtain ⟨gk, hgk⟩ : ∃ z, z = g (i.a).toNat := ⟨_, rfl⟩
  replace H := H.p5.p5.p5.p5
  refine c_ord (.e 0 (.e 1 (.e 2 (.e 3 (.e 4 (.e 5 (.e 6 (.m 7 (.m 8 (.m 9 (.e 10 .z))))))))))) (fun w => ∃ Ar, Hd w0 F0 w (osl kVal u2 ((needsM i.op stk).2.2) :: blk b1 [.int .i64 i.op, .int .i64 i.a, .string i.s] 223 :: osl kPair tv told :: digsP mb :: Ar) [rsl kStr vv vals, gl]) mo (by kernel_rfl) (fun w H => ⟨_, H⟩) H (fun w H => (d_1 rfl (d_1 rfl (d_val rfl rfl rfl (fun w ⟨Ar, H⟩ => r_fa rfl fo223_1 rfl) (d_val rfl rfl rfl (fun w ⟨Ar, H⟩ => r_ld rfl ty3 rfl (H.cellI 1 rfl rfl)) (d_val rfl rfl rfl (fun w ⟨Ar, H⟩ => r_nilP rfl rfl) (d_val rfl rfl rfl (fun w ⟨Ar, H⟩ => r_fa rfl fo288_8 rfl) (d_val rfl rfl rfl (fun w ⟨Ar, H⟩ => r_iaB (p := 8 + (i.a).toNat * 3) rfl un285 is284 rfl rfl (by omega) (by omega) (by omega)) (d_main rfl (s_val rfl rfl (r_ldA (cs := [.bool gk.t, .int .i64 gk.n, .string gk.b]) rfl ty284 rfl rfl (H.cellsI 4 rfl (by rw [hgk]; exact runC_reg (by omega)))) ?_))))))))))
  refine d_back ⟨_, H⟩ (d_main rfl (s_bsl (parts := [(0, .tmp 219)]) (vs := [.agg #[.bool gk.t, .int .i64 gk.n, .string gk.b]]) (cs := [.bool gk.t, .int .i64 gk.n, .string gk.b]) rfl rfl rfl sl282 zr284 rfl (by decide) (by decide) rfl rfl H (fun b208 w H => ?_)))
  replace H := H.h1 (A := blk b208 [.bool gk.t, .int .i64 gk.n, .string gk.b] 284) |>.p4 |>.p4 |>.p4 |>.p4
  refine d_back ⟨_, H⟩ (d_main rfl ?_)
  replace H := H.p6.p6
  refine sc (push_ok r pv key vv fuel pos steps halted s3 g tv (.map (some mb)) ((needsM i.op stk).2.1) (.slice (some ⟨b208, 0, none⟩) 1 1) [gk] (by first | omega | exact Nat.le_trans hN.2.1 hst) (Nat.le_of_ble_eq_true rfl)) H (lA 4 rfl (fun F h => blk_rsl h rfl (by decide) (RepsR.flat_eq.2 rfl)) l0) rfl rfl (e_fn kn265 rfl rfl) ?_
  rintro _ _ w ⟨s209, rfl, rfl⟩ H
  replace H := H.h2 (A := blk r (runC pv key vv fuel pos steps halted s209 g tv (.map (some mb))) 288) (B := osl kVal s209 ((pushM ((needsM i.op stk).2.1) [gk]).2)) |>.p5 |>.p5 |>.p5 |>.p5
  refine d_back ⟨_, H⟩ (d_1 rfl (d_nil (q_then (c_ret (q_blockR (q_thenR (q_ret1 rfl rfl ?_)))))))
  replace H := H.p3.p3.p5.p5.k4
  have e : doesM dg key (⟨pos, halted, stk, g, told, vals⟩ : VM) i = ((⟨pos, halted, (pushM ((needsM i.op stk).2.1) [gk]).2, g, told, vals⟩ : VM), (pushM ((needsM i.op stk).2.1) [gk]).1) := by
    rw [does_act (m := (⟨pos, halted, stk, g, told, vals⟩ : VM)) h4, act_21 h207]
    rw [show gk = g i.a.toNat from hgk] <;> rfl
  replace H : Hd _ _ _ [blk r (runC pv key vv fuel pos steps halted s209 g tv (.map (some mb))) 288, osl kVal s209 ((pushM ((needsM i.op stk).2.1) [gk]).2), osl kPair tv told, digsP mb] [rsl kStr vv vals, gl] := H
  exact fin ⟨s209, tv, vv, by rw [e] <;> rfl, by rw [e] <;> exact Suf.refl _ _ _, by rw [e] <;> rfl⟩ H
 refine c_seq (c_reg (s_val rfl rfl (r_eq rfl rfl rfl) (s_1 rfl (s_nil (q_then ?_)))))
 refine c_dec rfl (fun h210 => ?_) (fun h210 => ?_)
 ·have hks : (kindsS i.op).size = 1 := by rw [h210]; rfl
  have hia := hi.2.2.2.2.2.1 (by omega)
  obtain ⟨A211, c212, rfl, hc213, hm214, hp215⟩ := H.fA 2 rfl
  obtain ⟨x216, hx217⟩ : ∃ z9, ((needsM i.op stk).2.2)[0]? = some z9 := ⟨_, List.getElem?_eq_getElem (show 0 < ((needsM i.op stk).2.2).length by omega)⟩
  have okx216 := hok.1 _ (hN.2.2.1 _ (at_mem hx217))
  have szx216 := okx216.2
  have inx216 := okx216.1
  replace H := H.p5.p5.p5.p5.p5
  refine c_ord (.e 0 (.e 1 (.e 2 (.e 3 (.e 4 (.e 5 (.e 6 (.e 7 (.e 8 (.m 9 .z)))))))))) (fun w => ∃ Ar, Hd w0 F0 w (osl kVal s3 ((needsM i.op stk).2.1) :: osl kVal (.slice A211 (((needsM i.op stk).2.2).length) c212) ((needsM i.op stk).2.2) :: blk b1 [.int .i64 i.op, .int .i64 i.a, .string i.s] 223 :: osl kPair tv told :: digsP mb :: Ar) [rsl kStr vv vals, gl]) mo (by kernel_rfl) (fun w H => ⟨_, H⟩) H (fun w H => (d_1 rfl (d_val rfl rfl rfl (fun w ⟨Ar, H⟩ => r_fa rfl fo223_1 rfl) (d_val rfl rfl rfl (fun w ⟨Ar, H⟩ => r_ld rfl ty3 rfl (H.cellI 2 rfl rfl)) (d_1 rfl ?_)))))
  have th218 := H.thA 1 rfl hx217
  refine d_val rfl rfl rfl (fun w ⟨Ar, H⟩ => r_iaE (p := oOf A211 + 0 * 3) rfl sl282 rfl rfl (by omega) (by omega) th218 (by omega)) (d_val rfl rfl rfl (fun w ⟨Ar, H⟩ => r_ldA (cs := [.bool x216.t, .int .i64 x216.n, .string x216.b]) rfl ty284 rfl rfl (H.elsA 1 rfl hx217 rfl)) (d_val rfl rfl rfl (fun w ⟨Ar, H⟩ => r_nilP rfl rfl) (d_val rfl rfl rfl (fun w ⟨Ar, H⟩ => r_fa rfl fo288_8 rfl) (d_val rfl rfl rfl (fun w ⟨Ar, H⟩ => r_iaB (p := 8 + (i.a).toNat * 3) rfl un285 is284 rfl rfl (by omega) (by omega) (by omega)) (d_main rfl ?_)))))
  replace H := H.p5
  refine s_st rfl rfl rfl ty284 rfl rfl H rfl (by show 8 + (i.a).toNat * 3 + 3 ≤ 34; omega) (fun u hu => by simp [Value.cells] at hu; rcases hu with rfl | rfl | rfl <;> rfl) (fun w H => ?_)
  replace H : Hd w0 F0 w [blk r (runC pv key vv fuel pos steps halted s3 (setG g i.a.toNat x216) tv (.map (some mb))) 288, osl kVal s3 ((needsM i.op stk).2.1), osl kVal (.slice A211 (((needsM i.op stk).2.2).length) c212) ((needsM i.op stk).2.2), blk b1 [.int .i64 i.op, .int .i64 i.a, .string i.s] 223, osl kPair tv told, digsP mb] [rsl kStr vv vals, gl] := by rw [← runC_set (show i.a.toNat < 8 by omega) x216]; exact H
  replace H := H.p5.p5.p5.p5.p5
  refine d_back ⟨_, H⟩ (d_nil (q_blockN (q_then (c_seq (c_reg (s_1 rfl (s_nil (q_then (c_ret (q_ret1 rfl rfl ?_))))))))))
  replace H := H.p4.p4.p2.p5.k4
  have e : doesM dg key (⟨pos, halted, stk, g, told, vals⟩ : VM) i = ((⟨pos, halted, (needsM i.op stk).2.1, setG g i.a.toNat x216, told, vals⟩ : VM), 0) := by
    rw [does_act (m := (⟨pos, halted, stk, g, told, vals⟩ : VM)) h4, act_22 h210]
    rw [getD_at hx217] <;> rfl
  replace H : Hd _ _ _ [blk r (runC pv key vv fuel pos steps halted s3 (setG g i.a.toNat x216) tv (.map (some mb))) 288, osl kVal s3 ((needsM i.op stk).2.1), osl kPair tv told, digsP mb] [rsl kStr vv vals, gl] := H
  exact fin ⟨s3, tv, vv, by rw [e] <;> rfl, by rw [e] <;> exact Suf.refl _ _ _, by rw [e] <;> rfl⟩ H
 refine c_seq (c_reg (s_val rfl rfl (r_eq rfl rfl rfl) (s_1 rfl (s_nil (q_then ?_)))))
 refine c_dec rfl (fun h219 => ?_) (fun h219 => ?_)
 ·have hks : (kindsS i.op).size = 2 := by rw [h219]; rfl
  refine c_seq ?_
  obtain ⟨A220, c221, rfl, hc222, hm223, hp224⟩ := H.fA 2 rfl
  obtain ⟨x225, hx226⟩ : ∃ z9, ((needsM i.op stk).2.2)[0]? = some z9 := ⟨_, List.getElem?_eq_getElem (show 0 < ((needsM i.op stk).2.2).length by omega)⟩
  have okx225 := hok.1 _ (hN.2.2.1 _ (at_mem hx226))
  have szx225 := okx225.2
  have inx225 := okx225.1
  obtain ⟨x227, hx228⟩ : ∃ z9, ((needsM i.op stk).2.2)[1]? = some z9 := ⟨_, List.getElem?_eq_getElem (show 1 < ((needsM i.op stk).2.2).length by omega)⟩
  have okx227 := hok.1 _ (hN.2.2.1 _ (at_mem hx228))
  have szx227 := okx227.2
  have inx227 := okx227.1
  replace H := H.p5.p4.p4.p4
  refine c_ord (.e 0 (.e 1 (.e 2 (.e 3 (.e 4 (.e 5 (.e 6 (.e 7 (.e 8 (.m 9 (.e 10 .z))))))))))) (fun w => ∃ Ar, Hd w0 F0 w (osl kVal s3 ((needsM i.op stk).2.1) :: osl kVal (.slice A220 (((needsM i.op stk).2.2).length) c221) ((needsM i.op stk).2.2) :: blk b1 [.int .i64 i.op, .int .i64 i.a, .string i.s] 223 :: digsP mb :: Ar) [rsl kStr vv vals, gl]) mo (by kernel_rfl) (fun w H => ⟨_, H⟩) H (fun w H => (d_1 rfl (d_1 rfl ?_)))
  have th229 := H.thA 1 rfl hx226
  refine d_val rfl rfl rfl (fun w ⟨Ar, H⟩ => r_iaE (p := oOf A220 + 0 * 3) rfl sl282 rfl rfl (by omega) (by omega) th229 (by omega)) (d_val rfl rfl rfl (fun w ⟨Ar, H⟩ => r_fa rfl fo284_2 rfl) (d_val rfl rfl rfl (fun w ⟨Ar, H⟩ => r_ld rfl ty9 rfl (H.elA 1 rfl hx226 (q := 2) rfl rfl)) (d_1 rfl ?_)))
  have th230 := H.thA 1 rfl hx228
  refine d_val rfl rfl rfl (fun w ⟨Ar, H⟩ => r_iaE (p := oOf A220 + 1 * 3) rfl sl282 rfl rfl (by omega) (by omega) th230 (by omega)) (d_val rfl rfl rfl (fun w ⟨Ar, H⟩ => r_fa rfl fo284_2 rfl) (d_val rfl rfl rfl (fun w ⟨Ar, H⟩ => r_ld rfl ty9 rfl (H.elA 1 rfl hx228 (q := 2) rfl rfl)) (d_main rfl ?_)))
  replace H := H.p5.p5
  refine sc (emit_ok r pv key vv fuel pos steps halted s3 g tv (.map (some mb)) told x225.b x227.b (by omega)) H l0 rfl rfl (e_fn kn276 rfl rfl) ?_
  rintro _ _ w ⟨t231, rfl, rfl⟩ H
  replace H := H.h2 (A := blk r (runC pv key vv fuel pos steps halted s3 g t231 (.map (some mb))) 288) (B := osl kPair t231 ((emitM told x225.b x227.b).2)) |>.p5 |>.p5 |>.p5 |>.p5
  refine d_back ⟨_, H⟩ (d_1 rfl (d_nil (q_then (c_ret (q_blockR (q_thenR (q_ret1 rfl rfl ?_)))))))
  replace H := H.p3.p5.p2.p5.k4
  have e : doesM dg key (⟨pos, halted, stk, g, told, vals⟩ : VM) i = ((⟨pos, halted, (needsM i.op stk).2.1, g, (emitM told x225.b x227.b).2, vals⟩ : VM), (emitM told x225.b x227.b).1) := by
    rw [does_act (m := (⟨pos, halted, stk, g, told, vals⟩ : VM)) h4, act_23 h219]
    rw [getD_at hx226, getD_at hx228] <;> rfl
  replace H : Hd _ _ _ [blk r (runC pv key vv fuel pos steps halted s3 g t231 (.map (some mb))) 288, osl kVal s3 ((needsM i.op stk).2.1), osl kPair t231 ((emitM told x225.b x227.b).2), digsP mb] [rsl kStr vv vals, gl] := H
  exact fin ⟨s3, t231, vv, by rw [e] <;> rfl, by rw [e] <;> exact Suf.refl _ _ _, by rw [e] <;> rfl⟩ H
 refine c_skip (q_blockN (q_then (c_seq (c_reg (s_1 rfl (s_nil (q_then (c_ret (q_ret1 rfl rfl ?_)))))))))
 replace H := H.p5.p5.p3.p3.k4
 have hop : i.op = 4 := by have := hi.1; have := hi.2.1; omega
 have e : doesM dg key (⟨pos, halted, stk, g, told, vals⟩ : VM) i = ((⟨pos, halted, (needsM i.op stk).2.1, g, told, vals⟩ : VM), 0) := by
   rw [does_act (m := (⟨pos, halted, stk, g, told, vals⟩ : VM)) h4, act_4 hop]
   all_goals rfl
 replace H : Hd _ _ _ [blk r (runC pv key vv fuel pos steps halted s3 g tv (.map (some mb))) 288, osl kVal s3 ((needsM i.op stk).2.1), osl kPair tv told, digsP mb] [rsl kStr vv vals, gl] := H
 exact fin ⟨s3, tv, vv, by rw [e] <;> rfl, by rw [e] <;> exact Suf.refl _ _ _, by rw [e] <;> rfl⟩ H
theorem pmay_ok (p : Ins) (n : Int) :
    Cn Tryz.prog 224 [.agg #[.int .i64 p.op, .int .i64 p.a, .string p.s], .int .i64 n] [] [] (fun v Bs => v = .bool (decide (goodI p n)) ∧ Bs = []) := by
 intro w0 F0 H
 refine enter Tryz.func224 rfl rfl (Nat.le_of_ble_eq_true rfl) (c_seq (c_reg (s_box rfl rfl rfl rfl H (fun b1 w H => (s_1 rfl (s_nil (q_then ?_)))))))
 replace H : Hd _ _ _ [blk b1 [.int .i64 p.op, .int .i64 p.a, .string p.s] 223] [] := H
 refine c_seq (c_reg (s_k 3 rfl (s_nil (q_then (c_seq (c_seq (c_reg (s_val rfl rfl (r_fa rfl fo223_0 rfl) (s_val rfl rfl (r_ld rfl ty3 rfl (H.cellI 0 rfl rfl)) (s_nil (q_then (c_block (c_seq (c_reg (s_val rfl rfl (r_eq rfl rfl rfl) (s_1 rfl (s_nil (q_then ?_))))))))))))))))))
 refine c_dec rfl (fun h2 => ?_) (fun h2 => ?_)
 ·refine c_seq (c_reg (s_val rfl rfl (r_fa rfl fo223_2 rfl) (s_val rfl rfl (r_ld rfl ty9 rfl (H.cellI 0 rfl rfl)) (s_val rfl rfl (r_eqS rfl rfl rfl) (s_1 rfl (s_nil (q_then (c_ret (q_blockR (q_thenR (q_ret1 rfl rfl ?_)))))))))))
  replace H := H.nil
  exact fin ⟨congrArg Value.bool (decide_eq_decide.2 (by rw [nil_size]; unfold goodI; omega)), rfl⟩ H
 refine c_seq (c_reg (s_val rfl rfl (r_eq rfl rfl rfl) (s_1 rfl (s_nil (q_then ?_)))))
 refine c_dec rfl (fun h3 => ?_) (fun h3 => ?_)
 ·refine c_reg (s_1 rfl (s_nil (q_blockN (q_then (c_seq (c_reg (s_val rfl rfl (r_fa rfl fo223_0 rfl) (s_val rfl rfl (r_ld rfl ty3 rfl (H.cellI 0 rfl rfl)) (s_val rfl rfl (r_ge rfl rfl rfl) (s_1 rfl ?_))))))))))
  refine s_dec (d := 27) rfl (fun h4 => ?_) (fun h4 => ?_)
  ·refine s_val rfl rfl (r_fa rfl fo223_0 rfl) (s_val rfl rfl (r_ld rfl ty3 rfl (H.cellI 0 rfl rfl)) (s_val rfl rfl (r_le rfl rfl rfl) (s_k 2 rfl ?_)))
   refine s_dec (d := 32) rfl (fun h5 => ?_) (fun h5 => ?_)
   ·refine s_val rfl rfl (r_fa rfl fo223_1 rfl) (s_val rfl rfl (r_ld rfl ty3 rfl (H.cellI 0 rfl rfl)) (s_1 rfl (s_val rfl rfl (r_ge rfl rfl rfl) (s_k 2 rfl ?_))))
    refine s_dec (d := 38) rfl (fun h6 => ?_) (fun h6 => ?_)
    ·refine s_val rfl rfl (r_fa rfl fo223_1 rfl) (s_val rfl rfl (r_ld rfl ty3 rfl (H.cellI 0 rfl rfl)) (s_1 rfl (s_val rfl rfl (r_le rfl rfl rfl) (s_k 2 rfl ?_))))
     refine s_dec (d := 44) rfl (fun h7 => ?_) (fun h7 => ?_)
     ·refine s_val rfl rfl (r_fa rfl fo223_2 rfl) (s_val rfl rfl (r_ld rfl ty9 rfl (H.cellI 0 rfl rfl)) (s_val rfl rfl (r_lenS rfl un9 rfl) (s_1 rfl (s_val rfl rfl (r_le rfl rfl rfl) (s_k 2 rfl (s_nil (q_then (c_ret (q_ret1 rfl rfl ?_)))))))))
      replace H := H.nil
      exact fin ⟨congrArg Value.bool (decide_eq_decide.2 (by unfold goodI; omega)), rfl⟩ H
     refine s_k 7 rfl (s_nil (q_then (c_ret (q_ret1 rfl rfl ?_))))
     replace H := H.nil
     exact fin ⟨congrArg Value.bool (decide_eq_false (by unfold goodI; omega)).symm, rfl⟩ H
    refine s_k 12 rfl (s_1 rfl (s_nil (q_then (c_ret (q_ret1 rfl rfl ?_)))))
    replace H := H.nil
    exact fin ⟨congrArg Value.bool (decide_eq_false (by unfold goodI; omega)).symm, rfl⟩ H
   refine s_k 12 rfl (s_k 7 rfl (s_nil (q_then (c_ret (q_ret1 rfl rfl ?_)))))
   replace H := H.nil
   exact fin ⟨congrArg Value.bool (decide_eq_false (by unfold goodI; omega)).symm, rfl⟩ H
  refine s_k 12 rfl (s_k 12 rfl (s_nil (q_then (c_ret (q_ret1 rfl rfl ?_)))))
  replace H := H.nil
  exact fin ⟨congrArg Value.bool (decide_eq_false (by unfold goodI; omega)).symm, rfl⟩ H
 refine c_seq (c_seq (c_reg (s_val rfl rfl (r_eq rfl rfl rfl) (s_1 rfl (s_nil (q_then ?_))))))
 refine c_dec rfl (fun h8 => ?_) (fun h8 => ?_)
 ·refine c_skip (q_then ?_)
  refine c_dec rfl (fun h9 => ?_) (fun h9 => ?_)
  ·refine c_reg (s_k 2 rfl (s_nil (q_blockN (q_then (c_seq (c_reg (s_val rfl rfl (r_fa rfl fo223_0 rfl) (s_val rfl rfl (r_ld rfl ty3 rfl (H.cellI 0 rfl rfl)) (s_val rfl rfl (r_ge rfl rfl rfl) (s_1 rfl ?_))))))))))
   refine s_dec (d := 27) rfl (fun h10 => ?_) (fun h10 => ?_)
   ·refine s_val rfl rfl (r_fa rfl fo223_0 rfl) (s_val rfl rfl (r_ld rfl ty3 rfl (H.cellI 0 rfl rfl)) (s_val rfl rfl (r_le rfl rfl rfl) (s_k 2 rfl ?_)))
    refine s_dec (d := 32) rfl (fun h11 => ?_) (fun h11 => ?_)
    ·refine s_val rfl rfl (r_fa rfl fo223_1 rfl) (s_val rfl rfl (r_ld rfl ty3 rfl (H.cellI 0 rfl rfl)) (s_1 rfl (s_val rfl rfl (r_ge rfl rfl rfl) (s_k 2 rfl ?_))))
     refine s_dec (d := 38) rfl (fun h12 => ?_) (fun h12 => ?_)
     ·refine s_val rfl rfl (r_fa rfl fo223_1 rfl) (s_val rfl rfl (r_ld rfl ty3 rfl (H.cellI 0 rfl rfl)) (s_1 rfl (s_val rfl rfl (r_le rfl rfl rfl) (s_k 2 rfl ?_))))
      refine s_dec (d := 44) rfl (fun h13 => ?_) (fun h13 => ?_)
      ·refine s_val rfl rfl (r_fa rfl fo223_2 rfl) (s_val rfl rfl (r_ld rfl ty9 rfl (H.cellI 0 rfl rfl)) (s_val rfl rfl (r_lenS rfl un9 rfl) (s_1 rfl (s_val rfl rfl (r_le rfl rfl rfl) (s_k 2 rfl (s_nil (q_then (c_ret (q_ret1 rfl rfl ?_)))))))))
       replace H := H.nil
       exact fin ⟨congrArg Value.bool (decide_eq_decide.2 (by unfold goodI; omega)), rfl⟩ H
      refine s_k 7 rfl (s_nil (q_then (c_ret (q_ret1 rfl rfl ?_))))
      replace H := H.nil
      exact fin ⟨congrArg Value.bool (decide_eq_false (by unfold goodI; omega)).symm, rfl⟩ H
     refine s_k 12 rfl (s_1 rfl (s_nil (q_then (c_ret (q_ret1 rfl rfl ?_)))))
     replace H := H.nil
     exact fin ⟨congrArg Value.bool (decide_eq_false (by unfold goodI; omega)).symm, rfl⟩ H
    refine s_k 12 rfl (s_k 7 rfl (s_nil (q_then (c_ret (q_ret1 rfl rfl ?_)))))
    replace H := H.nil
    exact fin ⟨congrArg Value.bool (decide_eq_false (by unfold goodI; omega)).symm, rfl⟩ H
   refine s_k 12 rfl (s_k 12 rfl (s_nil (q_then (c_ret (q_ret1 rfl rfl ?_)))))
   replace H := H.nil
   exact fin ⟨congrArg Value.bool (decide_eq_false (by unfold goodI; omega)).symm, rfl⟩ H
  refine c_seq (c_seq (c_reg (s_val rfl rfl (r_eq rfl rfl rfl) (s_1 rfl (s_nil (q_then ?_))))))
  refine c_dec rfl (fun h14 => ?_) (fun h14 => ?_)
  ·refine c_skip (q_then ?_)
   refine c_dec rfl (fun h15 => ?_) (fun h15 => ?_)
   ·refine c_reg (s_1 rfl (s_nil (q_blockN (q_then (c_seq (c_reg (s_val rfl rfl (r_fa rfl fo223_0 rfl) (s_val rfl rfl (r_ld rfl ty3 rfl (H.cellI 0 rfl rfl)) (s_val rfl rfl (r_ge rfl rfl rfl) (s_1 rfl ?_))))))))))
    refine s_dec (d := 27) rfl (fun h16 => ?_) (fun h16 => ?_)
    ·refine s_val rfl rfl (r_fa rfl fo223_0 rfl) (s_val rfl rfl (r_ld rfl ty3 rfl (H.cellI 0 rfl rfl)) (s_val rfl rfl (r_le rfl rfl rfl) (s_k 2 rfl ?_)))
     refine s_dec (d := 32) rfl (fun h17 => ?_) (fun h17 => ?_)
     ·refine s_val rfl rfl (r_fa rfl fo223_1 rfl) (s_val rfl rfl (r_ld rfl ty3 rfl (H.cellI 0 rfl rfl)) (s_1 rfl (s_val rfl rfl (r_ge rfl rfl rfl) (s_k 2 rfl ?_))))
      refine s_dec (d := 38) rfl (fun h18 => ?_) (fun h18 => ?_)
      ·refine s_val rfl rfl (r_fa rfl fo223_1 rfl) (s_val rfl rfl (r_ld rfl ty3 rfl (H.cellI 0 rfl rfl)) (s_1 rfl (s_val rfl rfl (r_le rfl rfl rfl) (s_k 2 rfl ?_))))
       refine s_dec (d := 44) rfl (fun h19 => ?_) (fun h19 => ?_)
       ·refine s_val rfl rfl (r_fa rfl fo223_2 rfl) (s_val rfl rfl (r_ld rfl ty9 rfl (H.cellI 0 rfl rfl)) (s_val rfl rfl (r_lenS rfl un9 rfl) (s_1 rfl (s_val rfl rfl (r_le rfl rfl rfl) (s_k 2 rfl (s_nil (q_then (c_ret (q_ret1 rfl rfl ?_)))))))))
        replace H := H.nil
        exact fin ⟨congrArg Value.bool (decide_eq_decide.2 (by unfold goodI; omega)), rfl⟩ H
       refine s_k 7 rfl (s_nil (q_then (c_ret (q_ret1 rfl rfl ?_))))
       replace H := H.nil
       exact fin ⟨congrArg Value.bool (decide_eq_false (by unfold goodI; omega)).symm, rfl⟩ H
      refine s_k 12 rfl (s_1 rfl (s_nil (q_then (c_ret (q_ret1 rfl rfl ?_)))))
      replace H := H.nil
      exact fin ⟨congrArg Value.bool (decide_eq_false (by unfold goodI; omega)).symm, rfl⟩ H
     refine s_k 12 rfl (s_k 7 rfl (s_nil (q_then (c_ret (q_ret1 rfl rfl ?_)))))
     replace H := H.nil
     exact fin ⟨congrArg Value.bool (decide_eq_false (by unfold goodI; omega)).symm, rfl⟩ H
    refine s_k 12 rfl (s_k 12 rfl (s_nil (q_then (c_ret (q_ret1 rfl rfl ?_)))))
    replace H := H.nil
    exact fin ⟨congrArg Value.bool (decide_eq_false (by unfold goodI; omega)).symm, rfl⟩ H
   refine c_skip (q_blockN (q_then (c_seq (c_reg (s_val rfl rfl (r_fa rfl fo223_0 rfl) (s_val rfl rfl (r_ld rfl ty3 rfl (H.cellI 0 rfl rfl)) (s_val rfl rfl (r_ge rfl rfl rfl) (s_1 rfl ?_))))))))
   refine s_dec (d := 27) rfl (fun h20 => ?_) (fun h20 => ?_)
   ·refine s_val rfl rfl (r_fa rfl fo223_0 rfl) (s_val rfl rfl (r_ld rfl ty3 rfl (H.cellI 0 rfl rfl)) (s_val rfl rfl (r_le rfl rfl rfl) (s_k 2 rfl ?_)))
    refine s_dec (d := 32) rfl (fun h21 => ?_) (fun h21 => ?_)
    ·refine s_val rfl rfl (r_fa rfl fo223_1 rfl) (s_val rfl rfl (r_ld rfl ty3 rfl (H.cellI 0 rfl rfl)) (s_1 rfl (s_val rfl rfl (r_ge rfl rfl rfl) (s_k 2 rfl ?_))))
     refine s_dec (d := 38) rfl (fun h22 => ?_) (fun h22 => ?_)
     ·refine s_val rfl rfl (r_fa rfl fo223_1 rfl) (s_val rfl rfl (r_ld rfl ty3 rfl (H.cellI 0 rfl rfl)) (s_1 rfl (s_val rfl rfl (r_le rfl rfl rfl) (s_k 2 rfl ?_))))
      refine s_dec (d := 44) rfl (fun h23 => ?_) (fun h23 => ?_)
      ·refine s_val rfl rfl (r_fa rfl fo223_2 rfl) (s_val rfl rfl (r_ld rfl ty9 rfl (H.cellI 0 rfl rfl)) (s_val rfl rfl (r_lenS rfl un9 rfl) (s_1 rfl (s_val rfl rfl (r_le rfl rfl rfl) (s_k 2 rfl (s_nil (q_then (c_ret (q_ret1 rfl rfl ?_)))))))))
       replace H := H.nil
       exact fin ⟨congrArg Value.bool (decide_eq_decide.2 (by unfold goodI; omega)), rfl⟩ H
      refine s_k 7 rfl (s_nil (q_then (c_ret (q_ret1 rfl rfl ?_))))
      replace H := H.nil
      exact fin ⟨congrArg Value.bool (decide_eq_false (by unfold goodI; omega)).symm, rfl⟩ H
     refine s_k 12 rfl (s_1 rfl (s_nil (q_then (c_ret (q_ret1 rfl rfl ?_)))))
     replace H := H.nil
     exact fin ⟨congrArg Value.bool (decide_eq_false (by unfold goodI; omega)).symm, rfl⟩ H
    refine s_k 12 rfl (s_k 7 rfl (s_nil (q_then (c_ret (q_ret1 rfl rfl ?_)))))
    replace H := H.nil
    exact fin ⟨congrArg Value.bool (decide_eq_false (by unfold goodI; omega)).symm, rfl⟩ H
   refine s_k 12 rfl (s_k 12 rfl (s_nil (q_then (c_ret (q_ret1 rfl rfl ?_)))))
   replace H := H.nil
   exact fin ⟨congrArg Value.bool (decide_eq_false (by unfold goodI; omega)).symm, rfl⟩ H
  refine c_reg (s_val rfl rfl (r_eq rfl rfl rfl) (s_1 rfl (s_nil (q_then ?_))))
  refine c_dec rfl (fun h24 => ?_) (fun h24 => ?_)
  ·refine c_reg (s_1 rfl (s_nil (q_blockN (q_then (c_seq (c_reg (s_val rfl rfl (r_fa rfl fo223_0 rfl) (s_val rfl rfl (r_ld rfl ty3 rfl (H.cellI 0 rfl rfl)) (s_val rfl rfl (r_ge rfl rfl rfl) (s_1 rfl ?_))))))))))
   refine s_dec (d := 27) rfl (fun h25 => ?_) (fun h25 => ?_)
   ·refine s_val rfl rfl (r_fa rfl fo223_0 rfl) (s_val rfl rfl (r_ld rfl ty3 rfl (H.cellI 0 rfl rfl)) (s_val rfl rfl (r_le rfl rfl rfl) (s_k 2 rfl ?_)))
    refine s_dec (d := 32) rfl (fun h26 => ?_) (fun h26 => ?_)
    ·refine s_val rfl rfl (r_fa rfl fo223_1 rfl) (s_val rfl rfl (r_ld rfl ty3 rfl (H.cellI 0 rfl rfl)) (s_1 rfl (s_val rfl rfl (r_ge rfl rfl rfl) (s_k 2 rfl ?_))))
     refine s_dec (d := 38) rfl (fun h27 => ?_) (fun h27 => ?_)
     ·refine s_val rfl rfl (r_fa rfl fo223_1 rfl) (s_val rfl rfl (r_ld rfl ty3 rfl (H.cellI 0 rfl rfl)) (s_1 rfl (s_val rfl rfl (r_le rfl rfl rfl) (s_k 2 rfl ?_))))
      refine s_dec (d := 44) rfl (fun h28 => ?_) (fun h28 => ?_)
      ·refine s_val rfl rfl (r_fa rfl fo223_2 rfl) (s_val rfl rfl (r_ld rfl ty9 rfl (H.cellI 0 rfl rfl)) (s_val rfl rfl (r_lenS rfl un9 rfl) (s_1 rfl (s_val rfl rfl (r_le rfl rfl rfl) (s_k 2 rfl (s_nil (q_then (c_ret (q_ret1 rfl rfl ?_)))))))))
       replace H := H.nil
       exact fin ⟨congrArg Value.bool (decide_eq_decide.2 (by unfold goodI; omega)), rfl⟩ H
      refine s_k 7 rfl (s_nil (q_then (c_ret (q_ret1 rfl rfl ?_))))
      replace H := H.nil
      exact fin ⟨congrArg Value.bool (decide_eq_false (by unfold goodI; omega)).symm, rfl⟩ H
     refine s_k 12 rfl (s_1 rfl (s_nil (q_then (c_ret (q_ret1 rfl rfl ?_)))))
     replace H := H.nil
     exact fin ⟨congrArg Value.bool (decide_eq_false (by unfold goodI; omega)).symm, rfl⟩ H
    refine s_k 12 rfl (s_k 7 rfl (s_nil (q_then (c_ret (q_ret1 rfl rfl ?_)))))
    replace H := H.nil
    exact fin ⟨congrArg Value.bool (decide_eq_false (by unfold goodI; omega)).symm, rfl⟩ H
   refine s_k 12 rfl (s_k 12 rfl (s_nil (q_then (c_ret (q_ret1 rfl rfl ?_)))))
   replace H := H.nil
   exact fin ⟨congrArg Value.bool (decide_eq_false (by unfold goodI; omega)).symm, rfl⟩ H
  refine c_skip (q_blockN (q_then (c_seq (c_reg (s_val rfl rfl (r_fa rfl fo223_0 rfl) (s_val rfl rfl (r_ld rfl ty3 rfl (H.cellI 0 rfl rfl)) (s_val rfl rfl (r_ge rfl rfl rfl) (s_1 rfl ?_))))))))
  refine s_dec (d := 27) rfl (fun h29 => ?_) (fun h29 => ?_)
  ·refine s_val rfl rfl (r_fa rfl fo223_0 rfl) (s_val rfl rfl (r_ld rfl ty3 rfl (H.cellI 0 rfl rfl)) (s_val rfl rfl (r_le rfl rfl rfl) (s_k 2 rfl ?_)))
   refine s_dec (d := 32) rfl (fun h30 => ?_) (fun h30 => ?_)
   ·refine s_val rfl rfl (r_fa rfl fo223_1 rfl) (s_val rfl rfl (r_ld rfl ty3 rfl (H.cellI 0 rfl rfl)) (s_1 rfl (s_val rfl rfl (r_ge rfl rfl rfl) (s_k 2 rfl ?_))))
    refine s_dec (d := 38) rfl (fun h31 => ?_) (fun h31 => ?_)
    ·refine s_val rfl rfl (r_fa rfl fo223_1 rfl) (s_val rfl rfl (r_ld rfl ty3 rfl (H.cellI 0 rfl rfl)) (s_1 rfl (s_val rfl rfl (r_le rfl rfl rfl) (s_k 2 rfl ?_))))
     refine s_dec (d := 44) rfl (fun h32 => ?_) (fun h32 => ?_)
     ·refine s_val rfl rfl (r_fa rfl fo223_2 rfl) (s_val rfl rfl (r_ld rfl ty9 rfl (H.cellI 0 rfl rfl)) (s_val rfl rfl (r_lenS rfl un9 rfl) (s_1 rfl (s_val rfl rfl (r_le rfl rfl rfl) (s_k 2 rfl (s_nil (q_then (c_ret (q_ret1 rfl rfl ?_)))))))))
      replace H := H.nil
      exact fin ⟨congrArg Value.bool (decide_eq_decide.2 (by unfold goodI; omega)), rfl⟩ H
     refine s_k 7 rfl (s_nil (q_then (c_ret (q_ret1 rfl rfl ?_))))
     replace H := H.nil
     exact fin ⟨congrArg Value.bool (decide_eq_false (by unfold goodI; omega)).symm, rfl⟩ H
    refine s_k 12 rfl (s_1 rfl (s_nil (q_then (c_ret (q_ret1 rfl rfl ?_)))))
    replace H := H.nil
    exact fin ⟨congrArg Value.bool (decide_eq_false (by unfold goodI; omega)).symm, rfl⟩ H
   refine s_k 12 rfl (s_k 7 rfl (s_nil (q_then (c_ret (q_ret1 rfl rfl ?_)))))
   replace H := H.nil
   exact fin ⟨congrArg Value.bool (decide_eq_false (by unfold goodI; omega)).symm, rfl⟩ H
  refine s_k 12 rfl (s_k 12 rfl (s_nil (q_then (c_ret (q_ret1 rfl rfl ?_)))))
  replace H := H.nil
  exact fin ⟨congrArg Value.bool (decide_eq_false (by unfold goodI; omega)).symm, rfl⟩ H
 refine c_reg (s_val rfl rfl (r_eq rfl rfl rfl) (s_1 rfl (s_nil (q_then ?_))))
 refine c_dec rfl (fun h33 => ?_) (fun h33 => ?_)
 ·refine c_reg (s_k 2 rfl (s_nil (q_blockN (q_then (c_seq (c_reg (s_val rfl rfl (r_fa rfl fo223_0 rfl) (s_val rfl rfl (r_ld rfl ty3 rfl (H.cellI 0 rfl rfl)) (s_val rfl rfl (r_ge rfl rfl rfl) (s_1 rfl ?_))))))))))
  refine s_dec (d := 27) rfl (fun h34 => ?_) (fun h34 => ?_)
  ·refine s_val rfl rfl (r_fa rfl fo223_0 rfl) (s_val rfl rfl (r_ld rfl ty3 rfl (H.cellI 0 rfl rfl)) (s_val rfl rfl (r_le rfl rfl rfl) (s_k 2 rfl ?_)))
   refine s_dec (d := 32) rfl (fun h35 => ?_) (fun h35 => ?_)
   ·refine s_val rfl rfl (r_fa rfl fo223_1 rfl) (s_val rfl rfl (r_ld rfl ty3 rfl (H.cellI 0 rfl rfl)) (s_1 rfl (s_val rfl rfl (r_ge rfl rfl rfl) (s_k 2 rfl ?_))))
    refine s_dec (d := 38) rfl (fun h36 => ?_) (fun h36 => ?_)
    ·refine s_val rfl rfl (r_fa rfl fo223_1 rfl) (s_val rfl rfl (r_ld rfl ty3 rfl (H.cellI 0 rfl rfl)) (s_1 rfl (s_val rfl rfl (r_le rfl rfl rfl) (s_k 2 rfl ?_))))
     refine s_dec (d := 44) rfl (fun h37 => ?_) (fun h37 => ?_)
     ·refine s_val rfl rfl (r_fa rfl fo223_2 rfl) (s_val rfl rfl (r_ld rfl ty9 rfl (H.cellI 0 rfl rfl)) (s_val rfl rfl (r_lenS rfl un9 rfl) (s_1 rfl (s_val rfl rfl (r_le rfl rfl rfl) (s_k 2 rfl (s_nil (q_then (c_ret (q_ret1 rfl rfl ?_)))))))))
      replace H := H.nil
      exact fin ⟨congrArg Value.bool (decide_eq_decide.2 (by unfold goodI; omega)), rfl⟩ H
     refine s_k 7 rfl (s_nil (q_then (c_ret (q_ret1 rfl rfl ?_))))
     replace H := H.nil
     exact fin ⟨congrArg Value.bool (decide_eq_false (by unfold goodI; omega)).symm, rfl⟩ H
    refine s_k 12 rfl (s_1 rfl (s_nil (q_then (c_ret (q_ret1 rfl rfl ?_)))))
    replace H := H.nil
    exact fin ⟨congrArg Value.bool (decide_eq_false (by unfold goodI; omega)).symm, rfl⟩ H
   refine s_k 12 rfl (s_k 7 rfl (s_nil (q_then (c_ret (q_ret1 rfl rfl ?_)))))
   replace H := H.nil
   exact fin ⟨congrArg Value.bool (decide_eq_false (by unfold goodI; omega)).symm, rfl⟩ H
  refine s_k 12 rfl (s_k 12 rfl (s_nil (q_then (c_ret (q_ret1 rfl rfl ?_)))))
  replace H := H.nil
  exact fin ⟨congrArg Value.bool (decide_eq_false (by unfold goodI; omega)).symm, rfl⟩ H
 refine c_seq (c_seq (c_reg (s_val rfl rfl (r_eq rfl rfl rfl) (s_1 rfl (s_nil (q_then ?_))))))
 refine c_dec rfl (fun h38 => ?_) (fun h38 => ?_)
 ·refine c_skip (q_then ?_)
  refine c_dec rfl (fun h39 => ?_) (fun h39 => ?_)
  ·refine c_reg (s_1 rfl (s_nil (q_blockN (q_then (c_seq (c_reg (s_val rfl rfl (r_fa rfl fo223_0 rfl) (s_val rfl rfl (r_ld rfl ty3 rfl (H.cellI 0 rfl rfl)) (s_val rfl rfl (r_ge rfl rfl rfl) (s_1 rfl ?_))))))))))
   refine s_dec (d := 27) rfl (fun h40 => ?_) (fun h40 => ?_)
   ·refine s_val rfl rfl (r_fa rfl fo223_0 rfl) (s_val rfl rfl (r_ld rfl ty3 rfl (H.cellI 0 rfl rfl)) (s_val rfl rfl (r_le rfl rfl rfl) (s_k 2 rfl ?_)))
    refine s_dec (d := 32) rfl (fun h41 => ?_) (fun h41 => ?_)
    ·refine s_val rfl rfl (r_fa rfl fo223_1 rfl) (s_val rfl rfl (r_ld rfl ty3 rfl (H.cellI 0 rfl rfl)) (s_1 rfl (s_val rfl rfl (r_ge rfl rfl rfl) (s_k 2 rfl ?_))))
     refine s_dec (d := 38) rfl (fun h42 => ?_) (fun h42 => ?_)
     ·refine s_val rfl rfl (r_fa rfl fo223_1 rfl) (s_val rfl rfl (r_ld rfl ty3 rfl (H.cellI 0 rfl rfl)) (s_1 rfl (s_val rfl rfl (r_le rfl rfl rfl) (s_k 2 rfl ?_))))
      refine s_dec (d := 44) rfl (fun h43 => ?_) (fun h43 => ?_)
      ·refine s_val rfl rfl (r_fa rfl fo223_2 rfl) (s_val rfl rfl (r_ld rfl ty9 rfl (H.cellI 0 rfl rfl)) (s_val rfl rfl (r_lenS rfl un9 rfl) (s_1 rfl (s_val rfl rfl (r_le rfl rfl rfl) (s_k 2 rfl (s_nil (q_then (c_ret (q_ret1 rfl rfl ?_)))))))))
       replace H := H.nil
       exact fin ⟨congrArg Value.bool (decide_eq_decide.2 (by unfold goodI; omega)), rfl⟩ H
      refine s_k 7 rfl (s_nil (q_then (c_ret (q_ret1 rfl rfl ?_))))
      replace H := H.nil
      exact fin ⟨congrArg Value.bool (decide_eq_false (by unfold goodI; omega)).symm, rfl⟩ H
     refine s_k 12 rfl (s_1 rfl (s_nil (q_then (c_ret (q_ret1 rfl rfl ?_)))))
     replace H := H.nil
     exact fin ⟨congrArg Value.bool (decide_eq_false (by unfold goodI; omega)).symm, rfl⟩ H
    refine s_k 12 rfl (s_k 7 rfl (s_nil (q_then (c_ret (q_ret1 rfl rfl ?_)))))
    replace H := H.nil
    exact fin ⟨congrArg Value.bool (decide_eq_false (by unfold goodI; omega)).symm, rfl⟩ H
   refine s_k 12 rfl (s_k 12 rfl (s_nil (q_then (c_ret (q_ret1 rfl rfl ?_)))))
   replace H := H.nil
   exact fin ⟨congrArg Value.bool (decide_eq_false (by unfold goodI; omega)).symm, rfl⟩ H
  refine c_skip (q_blockN (q_then (c_seq (c_reg (s_val rfl rfl (r_fa rfl fo223_0 rfl) (s_val rfl rfl (r_ld rfl ty3 rfl (H.cellI 0 rfl rfl)) (s_val rfl rfl (r_ge rfl rfl rfl) (s_1 rfl ?_))))))))
  refine s_dec (d := 27) rfl (fun h44 => ?_) (fun h44 => ?_)
  ·refine s_val rfl rfl (r_fa rfl fo223_0 rfl) (s_val rfl rfl (r_ld rfl ty3 rfl (H.cellI 0 rfl rfl)) (s_val rfl rfl (r_le rfl rfl rfl) (s_k 2 rfl ?_)))
   refine s_dec (d := 32) rfl (fun h45 => ?_) (fun h45 => ?_)
   ·refine s_val rfl rfl (r_fa rfl fo223_1 rfl) (s_val rfl rfl (r_ld rfl ty3 rfl (H.cellI 0 rfl rfl)) (s_1 rfl (s_val rfl rfl (r_ge rfl rfl rfl) (s_k 2 rfl ?_))))
    refine s_dec (d := 38) rfl (fun h46 => ?_) (fun h46 => ?_)
    ·refine s_val rfl rfl (r_fa rfl fo223_1 rfl) (s_val rfl rfl (r_ld rfl ty3 rfl (H.cellI 0 rfl rfl)) (s_1 rfl (s_val rfl rfl (r_le rfl rfl rfl) (s_k 2 rfl ?_))))
     refine s_dec (d := 44) rfl (fun h47 => ?_) (fun h47 => ?_)
     ·refine s_val rfl rfl (r_fa rfl fo223_2 rfl) (s_val rfl rfl (r_ld rfl ty9 rfl (H.cellI 0 rfl rfl)) (s_val rfl rfl (r_lenS rfl un9 rfl) (s_1 rfl (s_val rfl rfl (r_le rfl rfl rfl) (s_k 2 rfl (s_nil (q_then (c_ret (q_ret1 rfl rfl ?_)))))))))
      replace H := H.nil
      exact fin ⟨congrArg Value.bool (decide_eq_decide.2 (by unfold goodI; omega)), rfl⟩ H
     refine s_k 7 rfl (s_nil (q_then (c_ret (q_ret1 rfl rfl ?_))))
     replace H := H.nil
     exact fin ⟨congrArg Value.bool (decide_eq_false (by unfold goodI; omega)).symm, rfl⟩ H
    refine s_k 12 rfl (s_1 rfl (s_nil (q_then (c_ret (q_ret1 rfl rfl ?_)))))
    replace H := H.nil
    exact fin ⟨congrArg Value.bool (decide_eq_false (by unfold goodI; omega)).symm, rfl⟩ H
   refine s_k 12 rfl (s_k 7 rfl (s_nil (q_then (c_ret (q_ret1 rfl rfl ?_)))))
   replace H := H.nil
   exact fin ⟨congrArg Value.bool (decide_eq_false (by unfold goodI; omega)).symm, rfl⟩ H
  refine s_k 12 rfl (s_k 12 rfl (s_nil (q_then (c_ret (q_ret1 rfl rfl ?_)))))
  replace H := H.nil
  exact fin ⟨congrArg Value.bool (decide_eq_false (by unfold goodI; omega)).symm, rfl⟩ H
 refine c_reg (s_val rfl rfl (r_eq rfl rfl rfl) (s_1 rfl (s_nil (q_then ?_))))
 refine c_dec rfl (fun h48 => ?_) (fun h48 => ?_)
 ·refine c_reg (s_1 rfl (s_nil (q_blockN (q_then (c_seq (c_reg (s_val rfl rfl (r_fa rfl fo223_0 rfl) (s_val rfl rfl (r_ld rfl ty3 rfl (H.cellI 0 rfl rfl)) (s_val rfl rfl (r_ge rfl rfl rfl) (s_1 rfl ?_))))))))))
  refine s_dec (d := 27) rfl (fun h49 => ?_) (fun h49 => ?_)
  ·refine s_val rfl rfl (r_fa rfl fo223_0 rfl) (s_val rfl rfl (r_ld rfl ty3 rfl (H.cellI 0 rfl rfl)) (s_val rfl rfl (r_le rfl rfl rfl) (s_k 2 rfl ?_)))
   refine s_dec (d := 32) rfl (fun h50 => ?_) (fun h50 => ?_)
   ·refine s_val rfl rfl (r_fa rfl fo223_1 rfl) (s_val rfl rfl (r_ld rfl ty3 rfl (H.cellI 0 rfl rfl)) (s_1 rfl (s_val rfl rfl (r_ge rfl rfl rfl) (s_k 2 rfl ?_))))
    refine s_dec (d := 38) rfl (fun h51 => ?_) (fun h51 => ?_)
    ·refine s_val rfl rfl (r_fa rfl fo223_1 rfl) (s_val rfl rfl (r_ld rfl ty3 rfl (H.cellI 0 rfl rfl)) (s_1 rfl (s_val rfl rfl (r_le rfl rfl rfl) (s_k 2 rfl ?_))))
     refine s_dec (d := 44) rfl (fun h52 => ?_) (fun h52 => ?_)
     ·refine s_val rfl rfl (r_fa rfl fo223_2 rfl) (s_val rfl rfl (r_ld rfl ty9 rfl (H.cellI 0 rfl rfl)) (s_val rfl rfl (r_lenS rfl un9 rfl) (s_1 rfl (s_val rfl rfl (r_le rfl rfl rfl) (s_k 2 rfl (s_nil (q_then (c_ret (q_ret1 rfl rfl ?_)))))))))
      replace H := H.nil
      exact fin ⟨congrArg Value.bool (decide_eq_decide.2 (by unfold goodI; omega)), rfl⟩ H
     refine s_k 7 rfl (s_nil (q_then (c_ret (q_ret1 rfl rfl ?_))))
     replace H := H.nil
     exact fin ⟨congrArg Value.bool (decide_eq_false (by unfold goodI; omega)).symm, rfl⟩ H
    refine s_k 12 rfl (s_1 rfl (s_nil (q_then (c_ret (q_ret1 rfl rfl ?_)))))
    replace H := H.nil
    exact fin ⟨congrArg Value.bool (decide_eq_false (by unfold goodI; omega)).symm, rfl⟩ H
   refine s_k 12 rfl (s_k 7 rfl (s_nil (q_then (c_ret (q_ret1 rfl rfl ?_)))))
   replace H := H.nil
   exact fin ⟨congrArg Value.bool (decide_eq_false (by unfold goodI; omega)).symm, rfl⟩ H
  refine s_k 12 rfl (s_k 12 rfl (s_nil (q_then (c_ret (q_ret1 rfl rfl ?_)))))
  replace H := H.nil
  exact fin ⟨congrArg Value.bool (decide_eq_false (by unfold goodI; omega)).symm, rfl⟩ H
 refine c_skip (q_blockN (q_then (c_seq (c_reg (s_val rfl rfl (r_fa rfl fo223_0 rfl) (s_val rfl rfl (r_ld rfl ty3 rfl (H.cellI 0 rfl rfl)) (s_val rfl rfl (r_ge rfl rfl rfl) (s_1 rfl ?_))))))))
 refine s_dec (d := 27) rfl (fun h53 => ?_) (fun h53 => ?_)
 ·refine s_val rfl rfl (r_fa rfl fo223_0 rfl) (s_val rfl rfl (r_ld rfl ty3 rfl (H.cellI 0 rfl rfl)) (s_val rfl rfl (r_le rfl rfl rfl) (s_k 2 rfl ?_)))
  refine s_dec (d := 32) rfl (fun h54 => ?_) (fun h54 => ?_)
  ·refine s_val rfl rfl (r_fa rfl fo223_1 rfl) (s_val rfl rfl (r_ld rfl ty3 rfl (H.cellI 0 rfl rfl)) (s_1 rfl (s_val rfl rfl (r_ge rfl rfl rfl) (s_k 2 rfl ?_))))
   refine s_dec (d := 38) rfl (fun h55 => ?_) (fun h55 => ?_)
   ·refine s_val rfl rfl (r_fa rfl fo223_1 rfl) (s_val rfl rfl (r_ld rfl ty3 rfl (H.cellI 0 rfl rfl)) (s_1 rfl (s_val rfl rfl (r_le rfl rfl rfl) (s_k 2 rfl ?_))))
    refine s_dec (d := 44) rfl (fun h56 => ?_) (fun h56 => ?_)
    ·refine s_val rfl rfl (r_fa rfl fo223_2 rfl) (s_val rfl rfl (r_ld rfl ty9 rfl (H.cellI 0 rfl rfl)) (s_val rfl rfl (r_lenS rfl un9 rfl) (s_1 rfl (s_val rfl rfl (r_le rfl rfl rfl) (s_k 2 rfl (s_nil (q_then (c_ret (q_ret1 rfl rfl ?_)))))))))
     replace H := H.nil
     exact fin ⟨congrArg Value.bool (decide_eq_decide.2 (by unfold goodI; omega)), rfl⟩ H
    refine s_k 7 rfl (s_nil (q_then (c_ret (q_ret1 rfl rfl ?_))))
    replace H := H.nil
    exact fin ⟨congrArg Value.bool (decide_eq_false (by unfold goodI; omega)).symm, rfl⟩ H
   refine s_k 12 rfl (s_1 rfl (s_nil (q_then (c_ret (q_ret1 rfl rfl ?_)))))
   replace H := H.nil
   exact fin ⟨congrArg Value.bool (decide_eq_false (by unfold goodI; omega)).symm, rfl⟩ H
  refine s_k 12 rfl (s_k 7 rfl (s_nil (q_then (c_ret (q_ret1 rfl rfl ?_)))))
  replace H := H.nil
  exact fin ⟨congrArg Value.bool (decide_eq_false (by unfold goodI; omega)).symm, rfl⟩ H
 refine s_k 12 rfl (s_k 12 rfl (s_nil (q_then (c_ret (q_ret1 rfl rfl ?_)))))
 replace H := H.nil
 exact fin ⟨congrArg Value.bool (decide_eq_false (by unfold goodI; omega)).symm, rfl⟩ H
theorem pbad_ok (vxs : Value) (xs : List Ins) :
    Cn Tryz.prog 195 [vxs] [] [rsl kIns vxs xs] (fun v Bs => v = .int .i64 (badI xs) ∧ Bs = []) := by
 intro w0 F0 H
 obtain ⟨A1, c2, rfl, hc3, hm4, hp5⟩ := H.fR 0 rfl
 refine enter Tryz.func195 rfl rfl (Nat.le_of_ble_eq_true rfl) (c_seq (c_reg (s_1 rfl (s_nil (q_then ?_)))))
 replace H : Hd _ _ _ [] [rsl kIns (.slice A1 xs.length c2) xs] := H
 refine c_seq (c_seq (c_reg (s_k 2 rfl (s_val rfl rfl (r_lenL rfl un23 rfl) (s_val rfl rfl (r_min (z := min ((xs.length : Nat) : Int) 40) rfl rfl rfl rfl) (s_val rfl rfl (r_cutP rfl sl23 rfl rfl (by omega) (by omega) rfl) (s_val rfl rfl (r_lenL rfl un23 rfl) (s_1 rfl (s_nil (q_then (c_block (c_loop (σ := Nat) (fun k => [(0, .slice A1 xs.length c2), (9, .slice A1 ((min ((xs.length : Nat) : Int) 40).toNat) c2), (10, .int .i64 (((min ((xs.length : Nat) : Int) 40).toNat : Nat) : Int)), (11, .int .i64 ((k : Nat) : Int))]) (fun k w => (Hd w0 F0 w [] [rsl kIns (.slice A1 xs.length c2) xs]) ∧ (k ≤ xs.length ∧ k ≤ 40) ∧ (∀ y ∈ xs.take k, badT xs.length y = false)) (fun k => xs.length - k) 0 ⟨rfl, rfl, rfl, rfl, trivial⟩ ⟨H, by omega, by simp⟩ ?_))))))))))))
 rintro k w ⟨H, hk, hn⟩
 refine c_seq (c_reg (s_val rfl rfl (r_lt rfl rfl rfl) (s_nil (q_then (c_seq ?_)))))
 refine c_dec rfl (fun h6 => ?_) (fun h6 => ?_)
 ·refine c_skip (q_then (c_seq (c_block (c_seq (c_reg (s_1 rfl ?_))))))
  obtain ⟨x7, hx8⟩ : ∃ z9, xs[k]? = some z9 := ⟨_, List.getElem?_eq_getElem (show k < xs.length by omega)⟩
  have th9 := H.thR 0 rfl hx8
  refine s_val rfl rfl (r_iaE (p := oOf A1 + k * 3) rfl sl23 rfl rfl (by omega) (by omega) th9 rfl) (s_val rfl rfl (r_ldA (cs := [.int .i64 x7.op, .int .i64 x7.a, .string x7.s]) rfl ty223 rfl rfl (H.elsR 0 rfl hx8 rfl)) (s_alloc rfl rfl rfl zr223 H (fun b10 w H => (s_1 rfl (s_st rfl rfl rfl ty223 rfl rfl H rfl (Nat.le_of_ble_eq_true rfl) (fun u hu => by simp [Value.cells] at hu; rcases hu with rfl | rfl | rfl <;> rfl) (fun w H => ?_))))))
  replace H := H.h1 (A := blk b10 [.int .i64 x7.op, .int .i64 x7.a, .string x7.s] 223)
  refine s_nil (q_then (c_seq (c_reg (s_val rfl rfl (r_ldA (cs := [.int .i64 x7.op, .int .i64 x7.a, .string x7.s]) rfl ty223 rfl rfl (H.cellsI 0 rfl rfl)) (s_1 rfl (s_val rfl rfl (r_lenL rfl un23 rfl) (sc (pmay_ok x7 ((xs.length : Nat) : Int)) H l0 rfl rfl (e_fn kn224 rfl rfl) ?_)))))))
  rintro _ _ w ⟨rfl, rfl⟩ H
  refine s_val rfl rfl (r_notP rfl rfl) (s_nil (q_then ?_))
  refine c_dec rfl (fun h11 => ?_) (fun h11 => ?_)
  ·refine c_seq (c_reg (s_k 2 rfl (s_nil (q_then (c_ret (q_blockR (q_thenR (q_thenR (q_blockR (q_thenR (q_ret1 rfl rfl ?_)))))))))))
   replace H := H.nil
   exact fin ⟨by rw [badI_hit (by omega) hn hx8 (by simpa using h11)] <;> rfl, rfl⟩ H
  refine c_skip (q_blockN (q_then (c_reg (s_val rfl rfl (r_add (z := ((k + 1 : Nat) : Int)) rfl rfl rfl (by rw [w64 (by omega) (by omega)]; omega)) (s_1 rfl (s_nil ?_))))))
  replace H := H.nil
  exact q_round (s := k) (k + 1) ⟨rfl, rfl, rfl, rfl, trivial⟩ ⟨H, by omega, badT_good hn hx8 (by simpa using h11)⟩ (by (try dsimp only); omega)
 refine c_exit (q_thenE (q_thenE (q_blockE (q_then (c_seq (c_seq (c_reg (s_1 rfl (s_val rfl rfl (r_lenL rfl un23 rfl) (s_val rfl rfl (r_gt rfl rfl rfl) (s_nil (q_then ?_))))))))))))
 refine c_dec rfl (fun h12 => ?_) (fun h12 => ?_)
 ·exact c_seq (c_reg (s_1 rfl (s_nil (q_then (c_ret (q_thenR (q_ret1 rfl rfl (fin ⟨by rw [badI_none (k := k) (by omega) hn, if_pos (by omega)] <;> rfl, rfl⟩ H))))))))
 exact c_skip (q_then (c_seq (c_reg (s_1 rfl (s_nil (q_then (c_ret (q_ret1 rfl rfl (fin ⟨by rw [badI_none (k := k) (by omega) hn, if_neg (by omega)] <;> rfl, rfl⟩ H)))))))))
theorem pMay_ok (vxs : Value) (xs : List Ins) :
    Cn Tryz.prog 154 [vxs] [] [rsl kIns vxs xs] (fun v Bs => v = .bool (decide (badI xs < 0)) ∧ Bs = []) := by
 intro w0 F0 H
 obtain ⟨A1, c2, rfl, hc3, hm4, hp5⟩ := H.fR 0 rfl
 refine enter Tryz.func154 rfl rfl (Nat.le_of_ble_eq_true rfl) (c_seq (c_reg (s_1 rfl (s_nil (q_then ?_)))))
 replace H : Hd _ _ _ [] [rsl kIns (.slice A1 xs.length c2) xs] := H
 refine c_seq (c_reg (s_1 rfl (sc (pbad_ok (.slice A1 xs.length c2) xs) H (lR 0 rfl l0) rfl rfl (e_fn kn195 rfl rfl) ?_)))
 rintro _ _ w ⟨rfl, rfl⟩ H
 exact s_val rfl rfl (r_lt rfl rfl rfl) (s_1 rfl (s_nil (q_then (c_ret (q_ret1 rfl rfl (fin ⟨rfl, rfl⟩ H))))))
theorem play_ok (vp : Value) (p : List Ins) (key : ByteArray) (vv : Value) (vals : List ByteArray) (fuel : Int) (hpa : ∀ i ∈ p, In64 i.a) (hfu : In64 fuel) :
    Cn Tryz.prog 207 [vp, .string key, vv, .int .i64 fuel] [] [rsl kIns vp p, rsl kStr vv vals, gl] (fun v Bs => ((¬ badI p < 0 ∨ fuel < 0) ∧ v = .tuple #[.pointer none, .int .i64 2] ∧ Bs = []) ∨ (¬ (¬ badI p < 0 ∨ fuel < 0) ∧ ∃ r mb sv tv vv2 k, v = .tuple #[.pointer (some ⟨r, 0, none⟩), .int .i64 (playM dg p key (min fuel 2000).toNat (vm0 vals)).2] ∧ Bs = [blk r (runC vp key vv2 (min fuel 2000) (playM dg p key (min fuel 2000).toNat (vm0 vals)).1.pos k (playM dg p key (min fuel 2000).toNat (vm0 vals)).1.halted sv (playM dg p key (min fuel 2000).toNat (vm0 vals)).1.g tv (.map (some mb))) 288, osl kVal sv (playM dg p key (min fuel 2000).toNat (vm0 vals)).1.stk, osl kPair tv (playM dg p key (min fuel 2000).toNat (vm0 vals)).1.told, digsP mb])) := by
 intro w0 F0 H
 unfold In64 at hfu
 have hnum := num_in
 obtain ⟨A1, c2, rfl, hc3, hm4, hp5⟩ := H.fR 0 rfl
 obtain ⟨A6, c7, rfl, hc8, hm9, hp10⟩ := H.fR 1 rfl
 refine enter Tryz.func207 rfl rfl (Nat.le_of_ble_eq_true rfl) (c_seq (c_reg (s_k 2 rfl (s_nil (q_then ?_)))))
 replace H : Hd _ _ _ [] [rsl kIns (.slice A1 p.length c2) p, rsl kStr (.slice A6 vals.length c7) vals, gl] := H
 refine c_seq (c_seq (c_reg (s_1 rfl (sc (pMay_ok (.slice A1 p.length c2) p) H (lR 0 rfl l0) rfl rfl (e_fn kn154 rfl rfl) ?_))))
 rintro _ _ w ⟨rfl, rfl⟩ H
 refine s_val rfl rfl (r_notP rfl rfl) (s_1 rfl ?_)
 refine s_dec (d := 16) rfl (fun h11 => ?_) (fun h11 => ?_)
 ·refine s_k 3 rfl (s_nil (q_then (c_yes rfl (c_seq (c_reg (s_k 2 rfl (s_nil (q_then (c_ret (q_thenR (q_ret2 rfl rfl rfl ?_)))))))))))
  replace H : Hd _ _ _ [] [rsl kIns (.slice A1 p.length c2) p, rsl kStr (.slice A6 vals.length c7) vals, gl] := H
  exact fin (.inl ⟨.inl h11, rfl, rfl⟩) H
 refine s_1 rfl (s_val rfl rfl (r_lt rfl rfl rfl) (s_1 rfl (s_nil (q_then ?_))))
 refine c_dec rfl (fun h12 => ?_) (fun h12 => ?_)
 ·refine c_seq (c_reg (s_k 2 rfl (s_nil (q_then (c_ret (q_thenR (q_ret2 rfl rfl rfl ?_)))))))
  replace H : Hd _ _ _ [] [rsl kIns (.slice A1 p.length c2) p, rsl kStr (.slice A6 vals.length c7) vals, gl] := H
  exact fin (.inl ⟨.inr h12, rfl, rfl⟩) H
 refine c_skip (q_then (c_seq ?_))
 have hbad := h11
 have hgood := may_all (Classical.not_not.1 hbad)
 refine c_reg (s_k 4 rfl (s_val rfl rfl (r_min (z := min fuel 2000) rfl rfl rfl rfl) (s_mkmap rfl rfl rfl H (fun b13 w H => (s_val rfl rfl (r_bd (parts := [(0, .tmp 20), (1, .tmp 21), (2, .tmp 22), (3, .tmp 24), (10, .tmp 25)]) (vs := [.slice A1 p.length c2, .string key, .slice A6 vals.length c7, .int .i64 (min fuel 2000), .map (some b13)]) (cs := [.slice A1 p.length c2, .string key, .slice A6 vals.length c7, .int .i64 (min fuel 2000), .int .i64 0, .int .i64 0, .bool false, .slice none 0 0, .bool false, .int .i64 0, .string ⟨#[]⟩, .bool false, .int .i64 0, .string ⟨#[]⟩, .bool false, .int .i64 0, .string ⟨#[]⟩, .bool false, .int .i64 0, .string ⟨#[]⟩, .bool false, .int .i64 0, .string ⟨#[]⟩, .bool false, .int .i64 0, .string ⟨#[]⟩, .bool false, .int .i64 0, .string ⟨#[]⟩, .bool false, .int .i64 0, .string ⟨#[]⟩, .slice none 0 0, .map (some b13)]) rfl bd288 rfl rfl) (s_box rfl rfl rfl rfl H (fun b14 w H => ?_)))))))
 refine s_1 rfl (s_nil (q_then ?_))
 replace H : Hd _ _ _ [blk b14 [.slice A1 p.length c2, .string key, .slice A6 vals.length c7, .int .i64 (min fuel 2000), .int .i64 0, .int .i64 0, .bool false, .slice none 0 0, .bool false, .int .i64 0, .string ⟨#[]⟩, .bool false, .int .i64 0, .string ⟨#[]⟩, .bool false, .int .i64 0, .string ⟨#[]⟩, .bool false, .int .i64 0, .string ⟨#[]⟩, .bool false, .int .i64 0, .string ⟨#[]⟩, .bool false, .int .i64 0, .string ⟨#[]⟩, .bool false, .int .i64 0, .string ⟨#[]⟩, .bool false, .int .i64 0, .string ⟨#[]⟩, .slice none 0 0, .map (some b13)] 288, mapI b13 []] [rsl kIns (.slice A1 p.length c2) p, rsl kStr (.slice A6 vals.length c7) vals, gl] := H
 refine c_seq (c_block ?_)
 replace H := digs_new (t := 234) H
 replace H := (H.newnil kPair).newnil kVal
 replace H : Hd w0 F0 w [blk b14 (runC (.slice A1 p.length c2) key (.slice A6 vals.length c7) (min fuel 2000) 0 0 false (.slice none 0 0) (fun _ => val0) (.slice none 0 0) (.map (some b13))) 288, osl kVal (.slice none 0 0) [], osl kPair (.slice none 0 0) [], digsP b13] [rsl kIns (.slice A1 p.length c2) p, rsl kStr (.slice A6 vals.length c7) vals, gl] := start_order H
 replace H := H.dupR 1 rfl
 refine c_loop (σ := Nat × VM × Value × Value × Value) (fun (k, m, sv, tv, vv2) => [(0, .slice A1 p.length c2), (10, .pointer (some ⟨b14, 0, none⟩))]) (fun (k, m, sv, tv, vv2) w => (Hd w0 F0 w [blk b14 (runC (.slice A1 p.length c2) key vv2 (min fuel 2000) m.pos ((k : Nat) : Int) m.halted sv m.g tv (.map (some b13))) 288, osl kVal sv m.stk, osl kPair tv m.told, digsP b13] [rsl kStr vv2 m.vals, rsl kIns (.slice A1 p.length c2) p, rsl kStr (.slice A6 vals.length c7) vals, gl]) ∧ ((k : Int) ≤ min fuel 2000) ∧ (Inv p.length m) ∧ (playM dg p key ((min fuel 2000).toNat - k) m = playM dg p key (min fuel 2000).toNat (vm0 vals))) (fun (k, m, sv, tv, vv2) => (min fuel 2000).toNat - k) (0, vm0 vals, .slice none 0 0, .slice none 0 0, .slice A6 vals.length c7) ⟨rfl, rfl, trivial⟩ ⟨H, by (try dsimp only); omega, inv0 _ _, rfl⟩ ?_
 rintro ⟨k, m, sv, tv, vv2⟩ w ⟨H, hk, hinv, hpl⟩
 have hps := hinv.pos
 refine c_seq (c_seq (c_reg (s_1 rfl (s_val rfl rfl (r_nilP rfl rfl) (s_val rfl rfl (r_fa rfl fo288_4 rfl) (s_val rfl rfl (r_ld rfl ty3 rfl (H.cellI 0 rfl rfl)) (s_1 rfl (s_val rfl rfl (r_lenL rfl un23 rfl) (s_val rfl rfl (r_lt rfl rfl rfl) (s_1 rfl ?_))))))))))
 refine s_dec (d := 35) rfl (fun h15 => ?_) (fun h15 => ?_)
 ·refine s_1 rfl (s_val rfl rfl (r_nilP rfl rfl) (s_val rfl rfl (r_fa rfl fo288_6 rfl) (s_val rfl rfl (r_ld rfl ty4 rfl (H.cellI 0 rfl rfl)) (s_val rfl rfl (r_not rfl rfl rfl) (s_1 rfl (s_nil (q_then ?_)))))))
  refine c_cond (b := !m.halted) rfl (fun h16 => ?_) (fun h16 => ?_)
  ·refine c_skip (q_then (c_block (c_seq (c_seq ?_))))
   have hrun : m.pos < (p.length : Int) ∧ m.halted = false := ⟨h15, by simpa using h16⟩
   refine c_draw mo (by kernel_rfl) H (u_1 rfl (u_val rfl rfl (fun w H => r_nilP rfl rfl) (u_val rfl rfl (fun w H => r_fa rfl fo288_5 rfl) (u_val rfl rfl (fun w H => r_ld rfl ty3 rfl (H.cellI 0 rfl rfl)) (u_1 rfl (u_val rfl rfl (fun w H => r_nilP rfl rfl) (u_val rfl rfl (fun w H => r_fa rfl fo288_3 rfl) (u_val rfl rfl (fun w H => r_ld rfl ty3 rfl (H.cellI 0 rfl rfl)) (u_val rfl rfl (fun w H => r_ge rfl rfl rfl) (u_end (fun w H => (q_then ?_))))))))))))
   refine c_dec rfl (fun h17 => ?_) (fun h17 => ?_)
   ·refine c_seq (c_reg (s_k 3 rfl (s_nil (q_then (c_ret (q_thenR (q_blockR (q_thenR (q_blockR (q_thenR (q_ret2 rfl rfl rfl ?_)))))))))))
    have e : playM dg p key (min fuel 2000).toNat (vm0 vals) = (m, 3) := by rw [← hpl, show (min fuel 2000).toNat - k = 0 by omega]; exact play_dry hrun
    replace H := H.dropR
    replace H : Hd _ _ _ [blk b14 (runC (.slice A1 p.length c2) key vv2 (min fuel 2000) m.pos ((k : Nat) : Int) m.halted sv m.g tv (.map (some b13))) 288, osl kVal sv m.stk, osl kPair tv m.told, digsP b13] [rsl kIns (.slice A1 p.length c2) p, rsl kStr (.slice A6 vals.length c7) vals, gl] := H
    exact fin (.inr ⟨fun h => h.elim hbad (fun h => absurd h (by omega)), b14, b13, sv, tv, vv2, ((k : Nat) : Int), by rw [e] <;> rfl, by rw [e] <;> rfl⟩) H
   refine c_skip (q_then (c_seq (c_reg (s_1 rfl (s_val rfl rfl (r_nilP rfl rfl) (s_val rfl rfl (r_fa rfl fo288_5 rfl) (s_val rfl rfl (r_ld rfl ty3 rfl (H.cellI 0 rfl rfl)) (s_val rfl rfl (r_add (z := ((k + 1 : Nat) : Int)) rfl rfl rfl (by rw [w64 (by omega) (by omega)]; omega)) (s_val rfl rfl (r_nilP rfl rfl) (s_val rfl rfl (r_fa rfl fo288_5 rfl) (s_st rfl rfl rfl ty3 rfl rfl H rfl (Nat.le_of_ble_eq_true rfl) (fun u hu => by simp [Value.cells] at hu; subst hu; rfl) (fun w H => ?_))))))))))))
   replace H : Hd _ _ _ [blk b14 (runC (.slice A1 p.length c2) key vv2 (min fuel 2000) m.pos ((k + 1 : Nat) : Int) m.halted sv m.g tv (.map (some b13))) 288, osl kVal sv m.stk, osl kPair tv m.told, digsP b13] [rsl kStr vv2 m.vals, rsl kIns (.slice A1 p.length c2) p, rsl kStr (.slice A6 vals.length c7) vals, gl] := H
   refine s_nil (q_then (c_seq (c_reg (s_k 2 rfl (s_val rfl rfl (r_nilP rfl rfl) (s_val rfl rfl (r_fa rfl fo288_4 rfl) (s_val rfl rfl (r_ld rfl ty3 rfl (H.cellI 0 rfl rfl)) ?_)))))))
   obtain ⟨x18, hx19⟩ : ∃ z9, p[(m.pos).toNat]? = some z9 := ⟨_, List.getElem?_eq_getElem (show (m.pos).toNat < p.length by omega)⟩
   have th20 := H.thR 1 rfl hx19
   refine s_val rfl rfl (r_iaE (p := oOf A1 + ((m.pos).toNat) * 3) rfl sl23 rfl rfl (by omega) (by omega) th20 (by omega)) (s_val rfl rfl (r_ldA (cs := [.int .i64 x18.op, .int .i64 x18.a, .string x18.s]) rfl ty223 rfl rfl (H.elsR 1 rfl hx19 rfl)) (s_alloc rfl rfl rfl zr223 H (fun b21 w H => (s_st rfl rfl rfl ty223 rfl rfl H rfl (Nat.le_of_ble_eq_true rfl) (fun u hu => by simp [Value.cells] at hu; rcases hu with rfl | rfl | rfl <;> rfl) (fun w H => ?_)))))
   replace H := H.h1 (A := blk b21 [.int .i64 x18.op, .int .i64 x18.a, .string x18.s] 223)
   refine s_nil (q_then (c_seq (c_reg (s_1 rfl (s_val rfl rfl (r_nilP rfl rfl) (s_val rfl rfl (r_fa rfl fo288_4 rfl) (s_val rfl rfl (r_ld rfl ty3 rfl (H.cellI 1 rfl rfl)) (s_val rfl rfl (r_add (z := m.pos + 1) rfl rfl rfl (w64 (by omega) (by omega))) (s_val rfl rfl (r_nilP rfl rfl) (s_val rfl rfl (r_fa rfl fo288_4 rfl) ?_))))))))))
   replace H := H.p1
   refine s_st rfl rfl rfl ty3 rfl rfl H rfl (Nat.le_of_ble_eq_true rfl) (fun u hu => by simp [Value.cells] at hu; subst hu; rfl) (fun w H => ?_)
   replace H := H.h1 (A := blk b14 (runC (.slice A1 p.length c2) key vv2 (min fuel 2000) (m.pos + 1) ((k + 1 : Nat) : Int) m.halted sv m.g tv (.map (some b13))) 288)
   refine s_nil (q_then (c_seq (c_reg (s_1 rfl (s_val rfl rfl (r_ldA (cs := [.int .i64 x18.op, .int .i64 x18.a, .string x18.s]) rfl ty223 rfl rfl (H.cellsI 1 rfl rfl)) ?_)))))
   replace H := H.p4.p4.p4.p3
   refine sc (does_ok b14 (.slice A1 p.length c2) key vv2 (min fuel 2000) (m.pos + 1) ((k + 1 : Nat) : Int) m.halted sv m.g tv b13 m.stk m.told m.vals x18 p.length hinv.len hinv.told hinv.ok (hgood _ (at_mem hx19))) H (lR 0 rfl (lR 3 rfl l0)) rfl rfl (e_fn kn243 rfl rfl) ?_
   rintro _ _ w ⟨s22, t23, vv24, rfl, hsuf25, rfl⟩ H
   replace H := H.h3 (A := blk b14 (runC (.slice A1 p.length c2) key vv24 (min fuel 2000) ((doesM dg key {m with pos := m.pos + 1} x18).1.pos) ((k + 1 : Nat) : Int) ((doesM dg key {m with pos := m.pos + 1} x18).1.halted) s22 ((doesM dg key {m with pos := m.pos + 1} x18).1.g) t23 (.map (some b13))) 288) (B := osl kVal s22 ((doesM dg key {m with pos := m.pos + 1} x18).1.stk)) (C := osl kPair t23 ((doesM dg key {m with pos := m.pos + 1} x18).1.told))
   refine s_1 rfl (s_nil (q_then (c_seq (c_reg (s_1 rfl (s_val rfl rfl (r_ne rfl rfl rfl) (s_nil (q_then ?_))))))))
   refine c_dec rfl (fun h26 => ?_) (fun h26 => ?_)
   ·refine c_seq (c_reg (s_k 4 rfl (s_nil (q_then (c_ret (q_blockR (q_thenR (q_blockR (q_thenR (q_ret2 rfl rfl rfl ?_))))))))))
    replace H := H.k4
    have e : playM dg p key (min fuel 2000).toNat (vm0 vals) = doesM dg key {m with pos := m.pos + 1} x18 := by rw [← hpl, show (min fuel 2000).toNat - k = ((min fuel 2000).toNat - (k + 1)) + 1 by omega]; exact play_fail hrun hx19 h26
    replace H := H.dropR
    replace H : Hd _ _ _ [blk b14 (runC (.slice A1 p.length c2) key vv24 (min fuel 2000) ((doesM dg key {m with pos := m.pos + 1} x18).1.pos) ((k + 1 : Nat) : Int) ((doesM dg key {m with pos := m.pos + 1} x18).1.halted) s22 ((doesM dg key {m with pos := m.pos + 1} x18).1.g) t23 (.map (some b13))) 288, osl kVal s22 ((doesM dg key {m with pos := m.pos + 1} x18).1.stk), osl kPair t23 ((doesM dg key {m with pos := m.pos + 1} x18).1.told), digsP b13] [rsl kIns (.slice A1 p.length c2) p, rsl kStr (.slice A6 vals.length c7) vals, gl] := H
    exact fin (.inr ⟨fun h => h.elim hbad (fun h => absurd h (by omega)), b14, b13, s22, t23, vv24, ((k + 1 : Nat) : Int), by rw [e] <;> rfl, by rw [e] <;> rfl⟩) H
   refine c_skip (q_blockN ?_)
   replace H := H.k4.addR (fun G h => hsuf25 _ _ (h _ (List.mem_of_getElem? (i := 0) rfl)))
   replace H : Hd w0 F0 w [blk b14 (runC (.slice A1 p.length c2) key vv24 (min fuel 2000) ((doesM dg key {m with pos := m.pos + 1} x18).1.pos) ((k + 1 : Nat) : Int) ((doesM dg key {m with pos := m.pos + 1} x18).1.halted) s22 ((doesM dg key {m with pos := m.pos + 1} x18).1.g) t23 (.map (some b13))) 288, osl kVal s22 ((doesM dg key {m with pos := m.pos + 1} x18).1.stk), osl kPair t23 ((doesM dg key {m with pos := m.pos + 1} x18).1.told), digsP b13] [rsl kStr vv24 ((doesM dg key {m with pos := m.pos + 1} x18).1.vals), rsl kIns (.slice A1 p.length c2) p, rsl kStr (.slice A6 vals.length c7) vals, gl] := H.pickR [0, 2, 3, 4]
   have hj : (min fuel 2000).toNat - k = ((min fuel 2000).toNat - (k + 1)) + 1 := by omega
   have hpl2 : playM dg p key ((min fuel 2000).toNat - (k + 1)) (doesM dg key {m with pos := m.pos + 1} x18).1 = playM dg p key (min fuel 2000).toNat (vm0 vals) := by rw [← hpl, hj]; exact (play_go (m := m) hrun hx19 h26).symm
   have hinv2 : Inv p.length (doesM dg key {m with pos := m.pos + 1} x18).1 := inv_does hnum (inv_next hinv hrun.1) (hgood _ (at_mem hx19)) (hpa _ (at_mem hx19)) (Classical.not_not.1 h26)
   exact q_round (s := (k, m, undef, undef, undef)) (k + 1, (doesM dg key {m with pos := m.pos + 1} x18).1, s22, t23, vv24) ⟨rfl, rfl, trivial⟩ ⟨H, by (try dsimp only); omega, hinv2, hpl2⟩ (by (try dsimp only); omega)
  refine c_exit (q_thenE (q_thenE (q_blockE (q_then (c_seq (c_reg (s_k 3 rfl (s_nil (q_then (c_ret (q_ret2 rfl rfl rfl ?_)))))))))))
  have e : playM dg p key (min fuel 2000).toNat (vm0 vals) = (m, 0) := by rw [← hpl]; exact play_stop _ (fun h => by have h2 := h.2; rw [h2] at h16; simp at h16)
  replace H := H.dropR
  replace H : Hd _ _ _ [blk b14 (runC (.slice A1 p.length c2) key vv2 (min fuel 2000) m.pos ((k : Nat) : Int) m.halted sv m.g tv (.map (some b13))) 288, osl kVal sv m.stk, osl kPair tv m.told, digsP b13] [rsl kIns (.slice A1 p.length c2) p, rsl kStr (.slice A6 vals.length c7) vals, gl] := H
  exact fin (.inr ⟨fun h => h.elim hbad (fun h => absurd h (by omega)), b14, b13, sv, tv, vv2, ((k : Nat) : Int), by rw [e] <;> rfl, by rw [e] <;> rfl⟩) H
 refine s_k 6 rfl (s_nil (q_then (c_no rfl (c_exit (q_thenE (q_thenE (q_blockE (q_then (c_seq (c_reg (s_k 3 rfl (s_nil (q_then (c_ret (q_ret2 rfl rfl rfl ?_)))))))))))))))
 have e : playM dg p key (min fuel 2000).toNat (vm0 vals) = (m, 0) := by rw [← hpl]; exact play_stop _ (fun h => absurd h.1 h15)
 replace H := H.dropR
 replace H : Hd _ _ _ [blk b14 (runC (.slice A1 p.length c2) key vv2 (min fuel 2000) m.pos ((k : Nat) : Int) m.halted sv m.g tv (.map (some b13))) 288, osl kVal sv m.stk, osl kPair tv m.told, digsP b13] [rsl kIns (.slice A1 p.length c2) p, rsl kStr (.slice A6 vals.length c7) vals, gl] := H
 exact fin (.inr ⟨fun h => h.elim hbad (fun h => absurd h (by omega)), b14, b13, sv, tv, vv2, ((k : Nat) : Int), by rw [e] <;> rfl, by rw [e] <;> rfl⟩) H
theorem vmRun_ok (vp : Value) (p : List Ins) (key : ByteArray) (vv : Value) (vals : List ByteArray) (fuel : Int) (hpa : ∀ i ∈ p, In64 i.a) (hfu : In64 fuel) :
    Cn Tryz.prog 175 [vp, .string key, vv, .int .i64 fuel] [] [rsl kIns vp p, rsl kStr vv vals, gl] (fun v Bs => ∃ u, v = .tuple #[u, .int .i64 (runM dg p key vals fuel).2] ∧ Bs = [osl kPair u (runM dg p key vals fuel).1]) := by
 intro w0 F0 H
 refine enter Tryz.func175 rfl rfl (Nat.le_of_ble_eq_true rfl) (c_seq (c_reg (s_k 2 rfl (s_nil (q_then (c_seq ?_))))))
 by_cases hb : ¬ badI p < 0 ∨ fuel < 0
 ·refine c_reg (s_k 4 rfl (sc (play_ok vp p key vv vals fuel hpa hfu) H (lR 0 rfl (lR 1 rfl (lR 2 rfl l0))) rfl rfl (e_fn kn207 rfl rfl) ?_))
  rintro _ _ w ht H
  obtain ⟨_, rfl, rfl⟩ := ht.resolve_right (fun h => h.1 hb)
  refine s_k 5 rfl (s_nil (q_then ?_))
  replace H : Hd _ _ _ [] [rsl kIns vp p, rsl kStr vv vals, gl] := H
  refine c_seq (c_seq (c_reg (s_1 rfl (s_val rfl rfl (r_ne rfl rfl rfl) (s_nil (q_then (c_yes rfl (c_seq (c_reg (s_k 3 rfl (s_nil (q_then (c_ret (q_thenR (q_ret2 rfl rfl rfl ?_)))))))))))))))
  have e : runM dg p key vals fuel = ([], 2) := if_pos hb
  replace H := H.newnil kPair
  exact fin ⟨_, by rw [e] <;> rfl, by rw [e] <;> rfl⟩ H
 refine c_reg (s_k 4 rfl (sc (play_ok vp p key vv vals fuel hpa hfu) H (lR 0 rfl (lR 1 rfl (lR 2 rfl l0))) rfl rfl (e_fn kn207 rfl rfl) ?_))
 rintro _ _ w ht H
 obtain ⟨_, r, mb, sv, tv, vv2, k, rfl, rfl⟩ := ht.resolve_left (fun h => hb h.1)
 refine s_k 5 rfl (s_nil (q_then ?_))
 replace H : Hd _ _ _ [blk r (runC vp key vv2 (min fuel 2000) ((playM dg p key (min fuel 2000).toNat (vm0 vals)).1.pos) k ((playM dg p key (min fuel 2000).toNat (vm0 vals)).1.halted) sv ((playM dg p key (min fuel 2000).toNat (vm0 vals)).1.g) tv (.map (some mb))) 288, osl kVal sv ((playM dg p key (min fuel 2000).toNat (vm0 vals)).1.stk), osl kPair tv ((playM dg p key (min fuel 2000).toNat (vm0 vals)).1.told), digsP mb] [rsl kIns vp p, rsl kStr vv vals, gl] := H
 refine c_seq (c_seq (c_reg (s_1 rfl (s_val rfl rfl (r_ne rfl rfl rfl) (s_nil (q_then ?_))))))
 refine c_dec rfl (fun h1 => ?_) (fun h1 => ?_)
 ·refine c_seq (c_reg (s_k 3 rfl (s_nil (q_then (c_ret (q_thenR (q_ret2 rfl rfl rfl ?_)))))))
  have e : runM dg p key vals fuel = ([], (playM dg p key (min fuel 2000).toNat (vm0 vals)).2) := by unfold runM; rw [if_neg hb, if_pos h1]
  replace H := H.nil |>.newnil kPair
  exact fin ⟨_, by rw [e] <;> rfl, by rw [e] <;> rfl⟩ H
 refine c_skip (q_then (c_seq (c_reg (s_1 rfl (s_val rfl rfl (r_nilP rfl rfl) (s_val rfl rfl (r_fa rfl fo288_9 rfl) (s_val rfl rfl (r_ld rfl ty35 rfl (H.cellI 0 rfl rfl)) (s_k 2 rfl (s_nil (q_then (c_ret (q_ret2 rfl rfl rfl ?_))))))))))))
 have e : runM dg p key vals fuel = ((playM dg p key (min fuel 2000).toNat (vm0 vals)).1.told, 0) := by unfold runM; rw [if_neg hb, if_neg h1]
 replace H := H.p2.k1
 exact fin ⟨_, by rw [e] <;> rfl, by rw [e] <;> rfl⟩ H
theorem nanS_ok (s : ByteArray) :
    Cn Tryz.prog 279 [.string s] [] [] (fun v Bs => v = .bool false ∧ Bs = []) := by
 intro w0 F0 H
 exact enter Tryz.func279 rfl rfl (Nat.le_of_ble_eq_true rfl) (c_seq (c_reg (s_1 rfl (s_nil (q_then (c_seq (c_reg (s_k 2 rfl (s_val rfl rfl (r_neS rfl rfl rfl) (s_1 rfl (s_nil (q_then (c_ret (q_ret1 rfl rfl (fin ⟨congrArg Value.bool (decide_eq_false (fun h => h rfl)), rfl⟩ H)))))))))))))))
theorem cmpS_ok (a : ByteArray) (b : ByteArray) :
    Cn Tryz.prog 245 [.string a, .string b] [] [] (fun v Bs => v = .int .i64 (cmpK a b) ∧ Bs = []) := by
 intro w0 F0 H
 refine enter Tryz.func245 rfl rfl (Nat.le_of_ble_eq_true rfl) (c_seq (c_reg (s_1 rfl (s_nil (q_then (c_seq (c_reg (s_1 rfl (sc (nanS_ok a) H l0 rfl rfl (e_fn kn279 rfl rfl) ?_)))))))))
 rintro _ _ w ⟨rfl, rfl⟩ H
 refine s_1 rfl (s_nil (q_then (c_seq (c_reg (s_1 rfl (sc (nanS_ok b) H l0 rfl rfl (e_fn kn279 rfl rfl) ?_))))))
 rintro _ _ w ⟨rfl, rfl⟩ H
 refine s_1 rfl (s_nil (q_then (c_seq (c_seq (c_reg (s_1 rfl (s_nil (q_then (c_no rfl (c_skip (q_then (c_seq (c_seq (c_reg (s_1 rfl (s_nil (q_then (c_no rfl (c_skip (q_then (c_seq (c_seq (c_reg (s_k 2 rfl (s_val rfl rfl (r_ltS rfl rfl rfl) (s_nil (q_then ?_)))))))))))))))))))))))))))
 refine c_dec rfl (fun h1 => ?_) (fun h1 => ?_)
 ·exact c_seq (c_reg (s_1 rfl (s_nil (q_then (c_ret (q_thenR (q_ret1 rfl rfl (fin ⟨by rw [cmpK_lt h1] <;> rfl, rfl⟩ H))))))))
 refine c_skip (q_then (c_seq (c_seq (c_reg (s_k 2 rfl (s_val rfl rfl (r_gtS rfl rfl rfl) (s_nil (q_then ?_))))))))
 refine c_cond (b := !(ltS a b || decide (a = b))) rfl (fun h2 => ?_) (fun h2 => ?_)
 ·exact c_seq (c_reg (s_1 rfl (s_nil (q_then (c_ret (q_thenR (q_ret1 rfl rfl (fin ⟨by rw [cmpK_gt h1 h2] <;> rfl, rfl⟩ H))))))))
 exact c_skip (q_then (c_seq (c_reg (s_1 rfl (s_nil (q_then (c_ret (q_ret1 rfl rfl (fin ⟨by rw [cmpK_eq h1 h2] <;> rfl, rfl⟩ H)))))))))
theorem order_ok (p q : Pair) :
    Cn Tryz.prog 209 [.agg #[.string p.key, .string p.val], .agg #[.string q.key, .string q.val]] [] [] (fun v Bs => v = .int .i64 (cmpK p.key q.key) ∧ Bs = []) := by
 intro w0 F0 H
 refine enter Tryz.func209 rfl rfl (Nat.le_of_ble_eq_true rfl) (c_seq (c_reg (s_box rfl rfl rfl rfl H (fun b1 w H => (s_box rfl rfl rfl rfl H (fun b2 w H => (s_1 rfl (s_nil (q_then ?_)))))))))
 replace H : Hd _ _ _ [blk b2 [.string q.key, .string q.val] 106, blk b1 [.string p.key, .string p.val] 106] [] := H
 refine c_seq (c_reg (s_val rfl rfl (r_fa rfl fo106_0 rfl) (s_val rfl rfl (r_ld rfl ty9 rfl (H.cellI 1 rfl rfl)) (s_val rfl rfl (r_fa rfl fo106_0 rfl) (s_val rfl rfl (r_ld rfl ty9 rfl (H.cellI 0 rfl rfl)) (sc (cmpS_ok p.key q.key) H l0 rfl rfl (e_fn kn245 rfl rfl) ?_))))))
 rintro _ _ w ⟨rfl, rfl⟩ H
 refine s_1 rfl (s_nil (q_then (c_ret (q_ret1 rfl rfl ?_))))
 replace H := H.nil
 exact fin ⟨rfl, rfl⟩ H
theorem swapRange_ok (v : Value) (xs : List Pair) (a : Nat) (b : Nat) (n : Nat) (h1 : a + n ≤ b) (h2 : b + n ≤ xs.length) (hb : xs.length ≤ 1000000) :
    Cn Tryz.prog 329 [v, .int .i64 ((a : Nat) : Int), .int .i64 ((b : Nat) : Int), .int .i64 ((n : Nat) : Int), .func (.func 209) #[] #[]] [osl kPair v xs] [] (fun _ Bs => ∃ ys, Bs = [osl kPair v ys] ∧ Via xs ys (swapI a b n)) := by
 intro w0 F0 H
 obtain ⟨A1, c2, rfl, hc3, hm4, hp5⟩ := H.fA 0 rfl
 refine enter Tryz.func329 rfl rfl (Nat.le_of_ble_eq_true rfl) (c_seq (c_reg (s_1 rfl (s_nil (q_then ?_)))))
 replace H : Hd _ _ _ [osl kPair (.slice A1 xs.length c2) xs] [] := H
 refine c_block (c_loop (σ := Nat × List Pair) (fun (k, ys) => [(0, .slice A1 xs.length c2), (1, .int .i64 ((a : Nat) : Int)), (2, .int .i64 ((b : Nat) : Int)), (3, .int .i64 ((n : Nat) : Int)), (10, .int .i64 ((k : Nat) : Int))]) (fun (k, ys) w => (Hd w0 F0 w [osl kPair (.slice A1 xs.length c2) ys] []) ∧ (k ≤ n) ∧ (Via xs ys (swapI a b k))) (fun (k, ys) => n - k) (0, xs) ⟨rfl, rfl, rfl, rfl, rfl, trivial⟩ ⟨H, by omega, via_refl xs (fun t => by unfold swapI; rw [if_neg (by omega), if_neg (by omega)])⟩ ?_)
 rintro ⟨k, ys⟩ w ⟨H, hk, hv⟩
 have hl := hv.1
 refine c_seq (c_seq (c_reg (s_k 2 rfl (s_val rfl rfl (r_lt rfl rfl rfl) (s_nil (q_then ?_))))))
 refine c_dec rfl (fun h6 => ?_) (fun h6 => ?_)
 ·refine c_skip (q_then (c_seq (c_block (c_ord (.e 0 (.e 1 (.e 2 (.e 3 (.e 4 (.e 5 (.e 6 (.e 7 (.e 8 (.e 9 (.e 10 (.e 11 (.e 12 (.e 14 (.e 15 (.e 16 (.e 17 (.e 18 (.p 13 19 (.e 20 (.m 21 (.e 22 (.m 23 .z))))))))))))))))))))))) (fun w => ∃ Ar, Hd w0 F0 w (Ar) []) mo (by kernel_rfl) (fun w H => ⟨_, H⟩) H (fun w H => (d_1 rfl (d_1 rfl (d_1 rfl (d_val rfl rfl rfl (fun w ⟨Ar, H⟩ => r_add (z := ((a + k : Nat) : Int)) rfl rfl rfl (by rw [w64 (by omega) (by omega)]; omega)) (d_1 rfl (d_1 rfl (d_1 rfl (d_val rfl rfl rfl (fun w ⟨Ar, H⟩ => r_add (z := ((b + k : Nat) : Int)) rfl rfl rfl (by rw [w64 (by omega) (by omega)]; omega)) (d_1 rfl (d_1 rfl (d_1 rfl (d_val rfl rfl rfl (fun w ⟨Ar, H⟩ => r_add (z := ((b + k : Nat) : Int)) rfl rfl rfl (by rw [w64 (by omega) (by omega)]; omega)) ?_)))))))))))))))))
  obtain ⟨x7, hx8⟩ : ∃ z9, ys[b + k]? = some z9 := ⟨_, List.getElem?_eq_getElem (show b + k < ys.length by omega)⟩
  have th9 := H.thA 0 rfl hx8
  refine d_val rfl rfl rfl (fun w ⟨Ar, H⟩ => r_iaE (p := oOf A1 + (b + k) * 2) rfl sl35 rfl rfl (by omega) (by omega) th9 rfl) (d_1 rfl (d_1 rfl (d_1 rfl (d_val rfl rfl rfl (fun w ⟨Ar, H⟩ => r_add (z := ((a + k : Nat) : Int)) rfl rfl rfl (by rw [w64 (by omega) (by omega)]; omega)) ?_))))
  obtain ⟨x10, hx11⟩ : ∃ z9, ys[a + k]? = some z9 := ⟨_, List.getElem?_eq_getElem (show a + k < ys.length by omega)⟩
  have th12 := H.thA 0 rfl hx11
  refine d_val rfl rfl rfl (fun w ⟨Ar, H⟩ => r_iaE (p := oOf A1 + (a + k) * 2) rfl sl35 rfl rfl (by omega) (by omega) th12 rfl) (d_pair rfl rfl rfl rfl rfl rfl rfl rfl (by decide) (r_ldA (cs := [.string x7.key, .string x7.val]) rfl ty106 rfl rfl (H.elsA 0 rfl hx8 rfl)) (r_ldA (cs := [.string x10.key, .string x10.val]) rfl ty106 rfl rfl (H.elsA 0 rfl hx11 rfl)) ?_)
  have th13 := H.thA 0 rfl hx11
  refine d_val rfl rfl rfl (fun w ⟨Ar, H⟩ => r_iaE (p := oOf A1 + (a + k) * 2) rfl sl35 rfl rfl (by omega) (by omega) th13 rfl) (d_main rfl (s_stO (i := a + k) (a := x7) rfl rfl rfl ty106 rfl rfl rfl H (by omega) rfl (fun w H => ?_)))
  replace H := H.h1 (A := osl kPair (.slice A1 xs.length c2) (ys.set (a + k) x7))
  refine d_back ⟨_, H⟩ ?_
  obtain ⟨x14, hx15⟩ : ∃ z9, (ys.set (a + k) x7)[b + k]? = some z9 := ⟨_, List.getElem?_eq_getElem (show b + k < (ys.set (a + k) x7).length by simp only [List.length_set]; omega)⟩
  have th16 := H.thA 0 rfl hx15
  refine d_val rfl rfl rfl (fun w ⟨Ar, H⟩ => r_iaE (p := oOf A1 + (b + k) * 2) rfl sl35 rfl rfl (by omega) (by omega) th16 rfl) (d_main rfl (s_stO (i := b + k) (a := x10) rfl rfl rfl ty106 rfl rfl rfl H (by simp only [List.length_set]; omega) rfl (fun w H => ?_)))
  replace H := H.h1 (A := osl kPair (.slice A1 xs.length c2) ((ys.set (a + k) x7).set (b + k) x10))
  exact d_back ⟨_, H⟩ (d_nil (q_blockN (q_then (c_reg (s_1 rfl (s_val rfl rfl (r_add (z := ((k + 1 : Nat) : Int)) rfl rfl rfl (by rw [w64 (by omega) (by omega)]; omega)) (s_1 rfl (s_nil (q_round (s := (k, ys)) (k + 1, (ys.set (a + k) x7).set (b + k) x10) ⟨rfl, rfl, rfl, rfl, rfl, trivial⟩ ⟨H, by omega, via_set2 (by omega) hv hx11 hx8⟩ (by (try dsimp only); omega))))))))))
 exact c_exit (q_thenE (q_thenE (q_blockE (q_end rfl (fin ⟨_, rfl, (by omega : k = n) ▸ hv⟩ H)))))
theorem rotate_ok (v : Value) (xs : List Pair) (a : Nat) (m : Nat) (b : Nat) (h1 : a < m) (h2 : m < b) (h3 : b ≤ xs.length) (hb : xs.length ≤ 1000000) :
    Cn Tryz.prog 306 [v, .int .i64 ((a : Nat) : Int), .int .i64 ((m : Nat) : Int), .int .i64 ((b : Nat) : Int), .func (.func 209) #[] #[]] [osl kPair v xs] [] (fun _ Bs => ∃ ys, Bs = [osl kPair v ys] ∧ Via xs ys (rotI a m b)) := by
 intro w0 F0 H
 obtain ⟨A1, c2, rfl, hc3, hm4, hp5⟩ := H.fA 0 rfl
 refine enter Tryz.func306 rfl rfl (Nat.le_of_ble_eq_true rfl) (c_seq (c_reg (s_k 2 rfl (s_val rfl rfl (r_sub (z := ((m - a : Nat) : Int)) rfl rfl rfl (by rw [w64 (by omega) (by omega)]; omega)) (s_1 rfl (s_nil (q_then ?_)))))))
 replace H : Hd _ _ _ [osl kPair (.slice A1 xs.length c2) xs] [] := H
 refine c_seq (c_reg (s_k 2 rfl (s_val rfl rfl (r_sub (z := ((b - m : Nat) : Int)) rfl rfl rfl (by rw [w64 (by omega) (by omega)]; omega)) (s_1 rfl (s_nil (q_then (c_seq (c_block (c_loop (σ := Nat × Nat × List Pair) (fun (i, j, ys) => [(0, .slice A1 xs.length c2), (2, .int .i64 ((m : Nat) : Int)), (4, .func (.func 209) #[] #[]), (10, .int .i64 ((i : Nat) : Int)), (11, .int .i64 ((j : Nat) : Int))]) (fun (i, j, ys) w => (Hd w0 F0 w [osl kPair (.slice A1 xs.length c2) ys] []) ∧ (0 < i ∧ i ≤ m ∧ 0 < j ∧ m + j ≤ xs.length) ∧ (ys.length = xs.length) ∧ (∀ t, xs[rotI a m b t]? = ys[rotI (m - i) m (m + j) t]?)) (fun (i, j, ys) => i + j) (m - a, b - m, xs) ⟨rfl, rfl, rfl, rfl, rfl, trivial⟩ ⟨H, by (try dsimp only); omega, rfl, fun t => by (try dsimp only); rw [show m - (m - a) = a by omega, show m + (b - m) = b by omega]⟩ ?_)))))))))
 rintro ⟨i, j, ys⟩ w ⟨H, hi, hl, hv⟩
 refine c_seq (c_seq (c_reg (s_k 2 rfl (s_val rfl rfl (r_ne rfl rfl rfl) (s_nil (q_then ?_))))))
 refine c_dec rfl (fun h6 => ?_) (fun h6 => ?_)
 ·refine c_skip (q_then (c_block (c_seq (c_reg (s_k 2 rfl (s_val rfl rfl (r_gt rfl rfl rfl) (s_nil (q_then ?_))))))))
  refine c_dec rfl (fun h7 => ?_) (fun h7 => ?_)
  ·refine c_seq (c_reg (s_k 3 rfl (s_val rfl rfl (r_sub (z := ((m - i : Nat) : Int)) rfl rfl rfl (by rw [w64 (by omega) (by omega)]; omega)) (s_k 3 rfl (sc (swapRange_ok (.slice A1 xs.length c2) ys (m - i) m j (by omega) (by omega) (by omega)) H l0 rfl rfl (e_fn kn329 rfl rfl) ?_)))))
   rintro _ _ w ⟨ys8, rfl, hv9⟩ H
   replace H := H.h1 (A := osl kPair (.slice A1 xs.length c2) ys8)
   refine s_nil (q_then (c_reg (s_k 2 rfl (s_val rfl rfl (r_sub (z := ((i - j : Nat) : Int)) rfl rfl rfl (by rw [w64 (by omega) (by omega)]; omega)) (s_1 rfl (s_nil (q_blockN ?_)))))))
   have hw := rot_gt (m := m) (i := i) (j := j) (by omega) (by omega) hv9
   exact q_round (s := (i, j, ys)) (i - j, j, ys8) ⟨rfl, rfl, rfl, rfl, rfl, trivial⟩ ⟨H, by (try dsimp only); omega, by (try dsimp only); rw [hv9.1]; exact hl, fun t => (hv t).trans (hw t)⟩ (by (try dsimp only); omega)
  refine c_seq (c_reg (s_k 3 rfl (s_val rfl rfl (r_sub (z := ((m - i : Nat) : Int)) rfl rfl rfl (by rw [w64 (by omega) (by omega)]; omega)) (s_k 2 rfl (s_val rfl rfl (r_add (z := ((m + j : Nat) : Int)) rfl rfl rfl (by rw [w64 (by omega) (by omega)]; omega)) (s_1 rfl (s_val rfl rfl (r_sub (z := ((m + j - i : Nat) : Int)) rfl rfl rfl (by rw [w64 (by omega) (by omega)]; omega)) (s_k 2 rfl (sc (swapRange_ok (.slice A1 xs.length c2) ys (m - i) (m + j - i) i (by omega) (by omega) (by omega)) H l0 rfl rfl (e_fn kn329 rfl rfl) ?_)))))))))
  rintro _ _ w ⟨ys10, rfl, hv11⟩ H
  replace H := H.h1 (A := osl kPair (.slice A1 xs.length c2) ys10)
  refine s_nil (q_then (c_reg (s_k 2 rfl (s_val rfl rfl (r_sub (z := ((j - i : Nat) : Int)) rfl rfl rfl (by rw [w64 (by omega) (by omega)]; omega)) (s_1 rfl (s_nil (q_blockN ?_)))))))
  have hw := rot_lt (m := m) (i := i) (j := j) (by omega) (by omega) hv11
  exact q_round (s := (i, j, ys)) (i, j - i, ys10) ⟨rfl, rfl, rfl, rfl, rfl, trivial⟩ ⟨H, by (try dsimp only); omega, by (try dsimp only); rw [hv11.1]; exact hl, fun t => (hv t).trans (hw t)⟩ (by (try dsimp only); omega)
 refine c_exit (q_thenE (q_thenE (q_blockE (q_then (c_reg (s_k 3 rfl (s_val rfl rfl (r_sub (z := ((m - i : Nat) : Int)) rfl rfl rfl (by rw [w64 (by omega) (by omega)]; omega)) (s_k 3 rfl (sc (swapRange_ok (.slice A1 xs.length c2) ys (m - i) m i (by omega) (by omega) (by omega)) H l0 rfl rfl (e_fn kn329 rfl rfl) ?_)))))))))
 rintro _ _ w ⟨ys12, rfl, hv13⟩ H
 refine s_nil (q_end rfl ?_)
 obtain rfl : i = j := by omega
 exact fin ⟨_, rfl, hv13.1.trans hl, fun t => by rw [hv, hv13.2, rot_eq (by omega)] <;> rfl⟩ H
theorem insSort_ok (v : Value) (xs : List Pair) (a : Nat) (b : Nat) (h1 : a ≤ b) (h2 : b ≤ xs.length) (hb : xs.length ≤ 1000000) :
    Cn Tryz.prog 277 [v, .int .i64 ((a : Nat) : Int), .int .i64 ((b : Nat) : Int), .func (.func 209) #[] #[]] [osl kPair v xs] [] (fun _ Bs => ∃ ys, Bs = [osl kPair v ys] ∧ Sorts xs ys a b) := by
 intro w0 F0 H
 obtain ⟨A1, c2, rfl, hc3, hm4, hp5⟩ := H.fA 0 rfl
 refine enter Tryz.func277 rfl rfl (Nat.le_of_ble_eq_true rfl) (c_seq (c_reg (s_1 rfl (s_val rfl rfl (r_add (z := ((a + 1 : Nat) : Int)) rfl rfl rfl (by rw [w64 (by omega) (by omega)]; omega)) (s_1 rfl (s_nil (q_then ?_)))))))
 replace H : Hd _ _ _ [osl kPair (.slice A1 xs.length c2) xs] [] := H
 refine c_block (c_loop (σ := Nat × List Pair) (fun (i, ys) => [(0, .slice A1 xs.length c2), (1, .int .i64 ((a : Nat) : Int)), (2, .int .i64 ((b : Nat) : Int)), (3, .func (.func 209) #[] #[]), (8, .int .i64 ((i : Nat) : Int))]) (fun (i, ys) w => (Hd w0 F0 w [osl kPair (.slice A1 xs.length c2) ys] []) ∧ (a + 1 ≤ i ∧ (i ≤ b ∨ i = a + 1)) ∧ (Stab xs ys) ∧ (InI xs ys a b) ∧ (SrtI ys a i)) (fun (i, ys) => b - i) (a + 1, xs) ⟨rfl, rfl, rfl, rfl, rfl, trivial⟩ ⟨H, by (try dsimp only); omega, Stab.refl _, InI.refl _ _ _, SrtI.one xs (Nat.le_refl _)⟩ ?_)
 rintro ⟨i, ys⟩ w ⟨H, hi, hst, hin, hso⟩
 have hl := hin.1
 refine c_seq (c_seq (c_reg (s_k 2 rfl (s_val rfl rfl (r_lt rfl rfl rfl) (s_nil (q_then ?_))))))
 refine c_dec rfl (fun h6 => ?_) (fun h6 => ?_)
 ·refine c_skip (q_then (c_seq (c_block (c_seq (c_reg (s_k 2 rfl (s_nil (q_then (c_block (c_loop (σ := Nat × List Pair) (fun (j, zs) => [(0, .slice A1 xs.length c2), (1, .int .i64 ((a : Nat) : Int)), (2, .int .i64 ((b : Nat) : Int)), (3, .func (.func 209) #[] #[]), (8, .int .i64 ((i : Nat) : Int)), (9, .int .i64 ((j : Nat) : Int))]) (fun (j, zs) w => (Hd w0 F0 w [osl kPair (.slice A1 xs.length c2) zs] []) ∧ (a ≤ j ∧ j ≤ i) ∧ (Stab xs zs) ∧ (InI xs zs a b) ∧ (ButI zs a (i + 1) j)) (fun (j, zs) => j) (i, ys) ⟨rfl, rfl, rfl, rfl, rfl, rfl, trivial⟩ ⟨H, by (try dsimp only); omega, hst, hin, but_start hso⟩ ?_))))))))))
  rintro ⟨j, zs⟩ w ⟨H, hj, hst2, hin2, hbu⟩
  have hl2 := hin2.1
  refine c_seq (c_seq (c_ord (.e 0 (.e 1 (.e 2 (.e 3 (.e 4 (.e 5 (.e 6 (.e 7 (.e 8 (.e 9 (.e 10 (.e 11 (.e 12 (.e 13 (.m 14 (.e 15 (.e 16 .z))))))))))))))))) (fun w => ∃ Ar, Hd w0 F0 w (osl kPair (.slice A1 xs.length c2) zs :: Ar) []) mo (by kernel_rfl) (fun w H => ⟨_, H⟩) H (fun w H => (d_1 rfl (d_1 rfl (d_val rfl rfl rfl (fun w ⟨Ar, H⟩ => r_gt rfl rfl rfl) (d_1 rfl ?_)))))))
  refine d_dec (d := 21) rfl (fun h7 => ?_) (fun h7 => ?_)
  ·refine d_1 rfl (d_1 rfl (d_1 rfl ?_))
   obtain ⟨x8, hx9⟩ : ∃ z9, zs[j]? = some z9 := ⟨_, List.getElem?_eq_getElem (show j < zs.length by omega)⟩
   have th10 := H.thA 0 rfl hx9
   refine d_val rfl rfl rfl (fun w ⟨Ar, H⟩ => r_iaE (p := oOf A1 + j * 2) rfl sl35 rfl rfl (by omega) (by omega) th10 rfl) (d_val rfl rfl rfl (fun w ⟨Ar, H⟩ => r_ldA (cs := [.string x8.key, .string x8.val]) rfl ty106 rfl rfl (H.elsA 0 rfl hx9 rfl)) (d_1 rfl (d_1 rfl (d_val rfl rfl rfl (fun w ⟨Ar, H⟩ => r_sub (z := ((j - 1 : Nat) : Int)) rfl rfl rfl (by rw [w64 (by omega) (by omega)]; omega)) ?_))))
   obtain ⟨x11, hx12⟩ : ∃ z9, zs[j - 1]? = some z9 := ⟨_, List.getElem?_eq_getElem (show j - 1 < zs.length by omega)⟩
   have th13 := H.thA 0 rfl hx12
   refine d_val rfl rfl rfl (fun w ⟨Ar, H⟩ => r_iaE (p := oOf A1 + (j - 1) * 2) rfl sl35 rfl rfl (by omega) (by omega) th13 rfl) (d_val rfl rfl rfl (fun w ⟨Ar, H⟩ => r_ldA (cs := [.string x11.key, .string x11.val]) rfl ty106 rfl rfl (H.elsA 0 rfl hx12 rfl)) (d_main rfl (sc (order_ok x8 x11) H l0 rfl rfl (e_val (vs := [.agg #[.string x8.key, .string x8.val], .agg #[.string x11.key, .string x11.val]]) (fs := #[]) (cs := #[]) kn209 rfl rfl rfl) ?_)))
   rintro _ _ w ⟨rfl, rfl⟩ H
   refine d_back ⟨_, H⟩ (d_val rfl rfl rfl (fun w ⟨Ar, H⟩ => r_lt rfl rfl rfl) (d_1 rfl (d_nil (q_then ?_))))
   refine c_dec rfl (fun h14 => ?_) (fun h14 => ?_)
   ·refine c_skip (q_then (c_seq (c_block (c_ord (.e 0 (.e 1 (.e 2 (.e 3 (.e 4 (.e 5 (.e 6 (.e 7 (.e 8 (.e 10 (.e 11 (.e 12 (.p 9 13 (.e 14 (.m 15 (.e 16 (.m 17 .z))))))))))))))))) (fun w => ∃ Ar, Hd w0 F0 w (Ar) []) mo (by kernel_rfl) (fun w H => ⟨_, H⟩) H (fun w H => (d_1 rfl (d_1 rfl (d_1 rfl (d_1 rfl (d_val rfl rfl rfl (fun w ⟨Ar, H⟩ => r_sub (z := ((j - 1 : Nat) : Int)) rfl rfl rfl (by rw [w64 (by omega) (by omega)]; omega)) (d_1 rfl (d_1 rfl (d_val rfl rfl rfl (fun w ⟨Ar, H⟩ => r_sub (z := ((j - 1 : Nat) : Int)) rfl rfl rfl (by rw [w64 (by omega) (by omega)]; omega)) ?_)))))))))))))
    have th15 := H.thA 0 rfl hx12
    refine d_val rfl rfl rfl (fun w ⟨Ar, H⟩ => r_iaE (p := oOf A1 + (j - 1) * 2) rfl sl35 rfl rfl (by omega) (by omega) th15 rfl) (d_1 rfl (d_1 rfl ?_))
    have th16 := H.thA 0 rfl hx9
    refine d_val rfl rfl rfl (fun w ⟨Ar, H⟩ => r_iaE (p := oOf A1 + j * 2) rfl sl35 rfl rfl (by omega) (by omega) th16 rfl) (d_pair rfl rfl rfl rfl rfl rfl rfl rfl (by decide) (r_ldA (cs := [.string x11.key, .string x11.val]) rfl ty106 rfl rfl (H.elsA 0 rfl hx12 rfl)) (r_ldA (cs := [.string x8.key, .string x8.val]) rfl ty106 rfl rfl (H.elsA 0 rfl hx9 rfl)) ?_)
    have th17 := H.thA 0 rfl hx9
    refine d_val rfl rfl rfl (fun w ⟨Ar, H⟩ => r_iaE (p := oOf A1 + j * 2) rfl sl35 rfl rfl (by omega) (by omega) th17 rfl) (d_main rfl (s_stO (i := j) (a := x11) rfl rfl rfl ty106 rfl rfl rfl H (by omega) rfl (fun w H => ?_)))
    replace H : Hd _ _ _ [osl kPair (.slice A1 xs.length c2) (zs.set j x11)] [] := H
    refine d_back ⟨_, H⟩ ?_
    obtain ⟨x18, hx19⟩ : ∃ z9, (zs.set j x11)[j - 1]? = some z9 := ⟨_, List.getElem?_eq_getElem (show j - 1 < (zs.set j x11).length by simp only [List.length_set]; omega)⟩
    have th20 := H.thA 0 rfl hx19
    refine d_val rfl rfl rfl (fun w ⟨Ar, H⟩ => r_iaE (p := oOf A1 + (j - 1) * 2) rfl sl35 rfl rfl (by omega) (by omega) th20 rfl) (d_main rfl (s_stO (i := j - 1) (a := x8) rfl rfl rfl ty106 rfl rfl rfl H (by simp only [List.length_set]; omega) rfl (fun w H => ?_)))
    replace H := H.h1 (A := osl kPair (.slice A1 xs.length c2) ((zs.set j x11).set (j - 1) x8))
    refine d_back ⟨_, H⟩ (d_nil (q_blockN (q_then (c_reg (s_1 rfl (s_val rfl rfl (r_sub (z := ((j - 1 : Nat) : Int)) rfl rfl rfl (by rw [w64 (by omega) (by omega)]; omega)) (s_1 rfl (s_nil ?_))))))))
    have hsw := swap_stab' (by omega) hx12 hx9 (cmpK_neg.1 h14)
    exact q_round (s := (j, zs)) (j - 1, (zs.set j x11).set (j - 1) x8) ⟨rfl, rfl, rfl, rfl, rfl, rfl, trivial⟩ ⟨H, by (try dsimp only); omega, hst2.trans hsw.1, hin2.trans (hsw.2.wider (by omega) (by omega)), but_step' hbu (by omega) hx12 hx9 (cmpK_neg.1 h14) (by omega)⟩ (by (try dsimp only); omega)
   exact c_exit (q_thenE (q_thenE (q_blockE (q_blockN (q_then (c_reg (s_1 rfl (s_val rfl rfl (r_add (z := ((i + 1 : Nat) : Int)) rfl rfl rfl (by rw [w64 (by omega) (by omega)]; omega)) (s_1 rfl (s_nil (q_round (s := (i, ys)) (i + 1, zs) ⟨rfl, rfl, rfl, rfl, rfl, trivial⟩ ⟨H, by (try dsimp only); omega, hst2, hin2, but_stop' hbu (by omega) hx12 hx9 (cmpK_nneg h14)⟩ (by (try dsimp only); omega))))))))))))
  exact d_1 rfl (d_1 rfl (d_1 rfl (d_1 rfl (d_1 rfl (d_1 rfl (d_1 rfl (d_1 rfl (d_1 rfl (d_1 rfl (d_mno rfl ⟨_, H⟩ rfl rfl (d_1 rfl (d_1 rfl (d_nil (q_then (c_no rfl (c_exit (q_thenE (q_thenE (q_blockE (q_blockN (q_then (c_reg (s_1 rfl (s_val rfl rfl (r_add (z := ((i + 1 : Nat) : Int)) rfl rfl rfl (by rw [w64 (by omega) (by omega)]; omega)) (s_1 rfl (s_nil (q_round (s := (i, ys)) (i + 1, zs) ⟨rfl, rfl, rfl, rfl, rfl, trivial⟩ ⟨H, by (try dsimp only); omega, hst2, hin2, but_low ((by omega : j = a) ▸ hbu)⟩ (by (try dsimp only); omega))))))))))))))))))))))))))))
 exact c_exit (q_thenE (q_thenE (q_blockE (q_end rfl (fin ⟨_, rfl, hst, hin, hso.sub (Nat.le_refl _) (by omega)⟩ H)))))
theorem symMerge_step (N : Nat) (ih : ∀ (v : Value) (xs : List Pair) (a m b : Nat), b - a < N → a < m → m < b → b ≤ xs.length → xs.length ≤ 1000000 → SrtI xs a m → SrtI xs m b → Cn Tryz.prog 278 [v, .int .i64 ((a : Nat) : Int), .int .i64 ((m : Nat) : Int), .int .i64 ((b : Nat) : Int), .func (.func 209) #[] #[]] [osl kPair v xs] [] (fun _ Bs => ∃ ys, Bs = [osl kPair v ys] ∧ Sorts xs ys a b)) (v : Value) (xs : List Pair) (a : Nat) (m : Nat) (b : Nat) (hN : b - a < N + 1) (h1 : a < m) (h2 : m < b) (h3 : b ≤ xs.length) (hb : xs.length ≤ 1000000) (hs1 : SrtI xs a m) (hs2 : SrtI xs m b) :
    Cn Tryz.prog 278 [v, .int .i64 ((a : Nat) : Int), .int .i64 ((m : Nat) : Int), .int .i64 ((b : Nat) : Int), .func (.func 209) #[] #[]] [osl kPair v xs] [] (fun _ Bs => ∃ ys, Bs = [osl kPair v ys] ∧ Sorts xs ys a b) := by
 intro w0 F0 H
 obtain ⟨A1, c2, rfl, hc3, hm4, hp5⟩ := H.fA 0 rfl
 refine enter Tryz.func278 rfl rfl (Nat.le_of_ble_eq_true rfl) (c_seq (c_seq (c_reg (s_k 2 rfl (s_val rfl rfl (r_sub (z := ((m - a : Nat) : Int)) rfl rfl rfl (by rw [w64 (by omega) (by omega)]; omega)) (s_val rfl rfl (r_eq rfl rfl rfl) (s_nil (q_then ?_))))))))
 replace H : Hd _ _ _ [osl kPair (.slice A1 xs.length c2) xs] [] := H
 refine c_dec rfl (fun h6 => ?_) (fun h6 => ?_)
 ·refine c_seq ?_
  have hm : m = a + 1 := by omega
  obtain ⟨x0, hx0⟩ : ∃ z9, xs[a]? = some z9 := ⟨_, List.getElem?_eq_getElem (show a < xs.length by omega)⟩
  refine c_reg (s_k 2 rfl (s_nil (q_then (c_seq (c_reg (s_k 2 rfl (s_nil (q_then (c_seq (c_block (c_loop (σ := Nat × Nat) (fun (i, j) => [(0, .slice A1 xs.length c2), (1, .int .i64 ((a : Nat) : Int)), (2, .int .i64 ((m : Nat) : Int)), (3, .int .i64 ((b : Nat) : Int)), (4, .func (.func 209) #[] #[]), (10, .int .i64 ((i : Nat) : Int)), (11, .int .i64 ((j : Nat) : Int))]) (fun (i, j) w => (Hd w0 F0 w [osl kPair (.slice A1 xs.length c2) xs] []) ∧ (m ≤ i ∧ i ≤ j ∧ j ≤ b) ∧ (i = m ∨ ∃ u, xs[i - 1]? = some u ∧ ltS u.key x0.key = true) ∧ (j = b ∨ ∃ u, xs[j]? = some u ∧ ltS u.key x0.key = false)) (fun (i, j) => j - i) (m, b) ⟨rfl, rfl, rfl, rfl, rfl, rfl, rfl, trivial⟩ ⟨H, by (try dsimp only); omega, .inl rfl, .inl rfl⟩ ?_)))))))))))
  rintro ⟨i, j⟩ w ⟨H, hij, hlow, hup⟩
  refine c_seq (c_seq (c_reg (s_k 2 rfl (s_val rfl rfl (r_lt rfl rfl rfl) (s_nil (q_then ?_))))))
  refine c_dec rfl (fun h7 => ?_) (fun h7 => ?_)
  ·refine c_skip (q_then (c_block (c_seq (c_reg (s_k 2 rfl (s_val rfl rfl (r_add (z := ((i + j : Nat) : Int)) rfl rfl rfl (by rw [w64 (by omega) (by omega)]; omega)) (s_val rfl rfl (r_i2i (z := ((i + j : Nat) : Int)) rfl rfl un3 un158 (wu64 (by omega) (by omega))) (s_val rfl rfl (r_shr (z := (((i + j) / 2 : Nat) : Int)) rfl rfl rfl (by omega) (half_u64 _)) (s_val rfl rfl (r_i2i (z := (((i + j) / 2 : Nat) : Int)) rfl rfl un158 un3 (w64 (by omega) (by omega))) (s_1 rfl (s_nil (q_then (c_seq (c_ord (.e 0 (.e 1 (.e 2 (.e 3 (.e 4 (.e 5 (.e 6 (.e 7 (.e 8 (.m 9 (.e 10 .z))))))))))) (fun w => ∃ Ar, Hd w0 F0 w (osl kPair (.slice A1 xs.length c2) xs :: Ar) []) mo (by kernel_rfl) (fun w H => ⟨_, H⟩) H (fun w H => (d_1 rfl (d_1 rfl (d_1 rfl ?_))))))))))))))))))
   obtain ⟨x8, hx9⟩ : ∃ z9, xs[(i + j) / 2]? = some z9 := ⟨_, List.getElem?_eq_getElem (show (i + j) / 2 < xs.length by omega)⟩
   have th10 := H.thA 0 rfl hx9
   refine d_val rfl rfl rfl (fun w ⟨Ar, H⟩ => r_iaE (p := oOf A1 + ((i + j) / 2) * 2) rfl sl35 rfl rfl (by omega) (by omega) th10 rfl) (d_val rfl rfl rfl (fun w ⟨Ar, H⟩ => r_ldA (cs := [.string x8.key, .string x8.val]) rfl ty106 rfl rfl (H.elsA 0 rfl hx9 rfl)) (d_1 rfl (d_1 rfl ?_)))
   obtain ⟨x11, hx12⟩ : ∃ z9, xs[a]? = some z9 := ⟨_, List.getElem?_eq_getElem (show a < xs.length by omega)⟩
   have th13 := H.thA 0 rfl hx12
   refine d_val rfl rfl rfl (fun w ⟨Ar, H⟩ => r_iaE (p := oOf A1 + a * 2) rfl sl35 rfl rfl (by omega) (by omega) th13 rfl) (d_val rfl rfl rfl (fun w ⟨Ar, H⟩ => r_ldA (cs := [.string x11.key, .string x11.val]) rfl ty106 rfl rfl (H.elsA 0 rfl hx12 rfl)) (d_main rfl (sc (order_ok x8 x11) H l0 rfl rfl (e_val (vs := [.agg #[.string x8.key, .string x8.val], .agg #[.string x11.key, .string x11.val]]) (fs := #[]) (cs := #[]) kn209 rfl rfl rfl) ?_)))
   rintro _ _ w ⟨rfl, rfl⟩ H
   refine d_back ⟨_, H⟩ (d_val rfl rfl rfl (fun w ⟨Ar, H⟩ => r_lt rfl rfl rfl) (d_nil (q_then ?_)))
   refine c_dec rfl (fun h14 => ?_) (fun h14 => ?_)
   ·obtain rfl : x11 = x0 := Option.some.inj (hx12.symm.trans hx0)
    exact c_reg (s_1 rfl (s_val rfl rfl (r_add (z := (((i + j) / 2 + 1 : Nat) : Int)) rfl rfl rfl (by rw [w64 (by omega) (by omega)]; omega)) (s_1 rfl (s_nil (q_blockN (q_round (s := (i, j)) ((i + j) / 2 + 1, j) ⟨rfl, rfl, rfl, rfl, rfl, rfl, rfl, trivial⟩ ⟨H, by (try dsimp only); omega, .inr ⟨x8, by rw [Nat.add_sub_cancel]; exact hx9, cmpK_neg.1 h14⟩, hup⟩ (by (try dsimp only); omega)))))))
   obtain rfl : x11 = x0 := Option.some.inj (hx12.symm.trans hx0)
   exact c_reg (s_k 2 rfl (s_nil (q_blockN (q_round (s := (i, j)) (i, (i + j) / 2) ⟨rfl, rfl, rfl, rfl, rfl, rfl, rfl, trivial⟩ ⟨H, by (try dsimp only); omega, hlow, .inr ⟨x8, hx9, cmpK_nneg h14⟩⟩ (by (try dsimp only); omega)))))
  refine c_exit (q_thenE (q_thenE (q_blockE (q_then (c_seq (c_seq (c_reg (s_k 2 rfl (s_nil (q_then (c_block (c_loop (σ := Nat × List Pair) (fun (k, ys) => [(0, .slice A1 xs.length c2), (1, .int .i64 ((a : Nat) : Int)), (2, .int .i64 ((m : Nat) : Int)), (3, .int .i64 ((b : Nat) : Int)), (4, .func (.func 209) #[] #[]), (10, .int .i64 ((i : Nat) : Int)), (13, .int .i64 ((k : Nat) : Int))]) (fun (k, ys) w => (Hd w0 F0 w [osl kPair (.slice A1 xs.length c2) ys] []) ∧ (a ≤ k ∧ k + 1 ≤ i) ∧ (Via xs ys (rotI a m (k + 1)))) (fun (k, ys) => i - k) (a, xs) ⟨rfl, rfl, rfl, rfl, rfl, rfl, rfl, trivial⟩ ⟨H, by (try dsimp only); omega, by rw [hm]; exact via_one xs a⟩ ?_))))))))))))
  rintro ⟨k, ys⟩ w ⟨H, hk, hv⟩
  have hl := hv.1
  refine c_seq (c_seq (c_reg (s_k 2 rfl (s_val rfl rfl (r_sub (z := ((i - 1 : Nat) : Int)) rfl rfl rfl (by rw [w64 (by omega) (by omega)]; omega)) (s_val rfl rfl (r_lt rfl rfl rfl) (s_nil (q_then ?_)))))))
  refine c_dec rfl (fun h15 => ?_) (fun h15 => ?_)
  ·refine c_skip (q_then (c_seq (c_block (c_ord (.e 0 (.e 1 (.e 2 (.e 3 (.e 4 (.e 5 (.e 6 (.e 7 (.e 8 (.e 10 (.e 11 (.e 12 (.p 9 13 (.e 14 (.m 15 (.e 16 (.m 17 .z))))))))))))))))) (fun w => ∃ Ar, Hd w0 F0 w (Ar) []) mo (by kernel_rfl) (fun w H => ⟨_, H⟩) H (fun w H => (d_1 rfl (d_1 rfl (d_1 rfl (d_1 rfl (d_val rfl rfl rfl (fun w ⟨Ar, H⟩ => r_add (z := ((k + 1 : Nat) : Int)) rfl rfl rfl (by rw [w64 (by omega) (by omega)]; omega)) (d_1 rfl (d_1 rfl (d_val rfl rfl rfl (fun w ⟨Ar, H⟩ => r_add (z := ((k + 1 : Nat) : Int)) rfl rfl rfl (by rw [w64 (by omega) (by omega)]; omega)) ?_)))))))))))))
   obtain ⟨x16, hx17⟩ : ∃ z9, ys[k + 1]? = some z9 := ⟨_, List.getElem?_eq_getElem (show k + 1 < ys.length by omega)⟩
   have th18 := H.thA 0 rfl hx17
   refine d_val rfl rfl rfl (fun w ⟨Ar, H⟩ => r_iaE (p := oOf A1 + (k + 1) * 2) rfl sl35 rfl rfl (by omega) (by omega) th18 rfl) (d_1 rfl (d_1 rfl ?_))
   obtain ⟨x19, hx20⟩ : ∃ z9, ys[k]? = some z9 := ⟨_, List.getElem?_eq_getElem (show k < ys.length by omega)⟩
   have th21 := H.thA 0 rfl hx20
   refine d_val rfl rfl rfl (fun w ⟨Ar, H⟩ => r_iaE (p := oOf A1 + k * 2) rfl sl35 rfl rfl (by omega) (by omega) th21 rfl) (d_pair rfl rfl rfl rfl rfl rfl rfl rfl (by decide) (r_ldA (cs := [.string x16.key, .string x16.val]) rfl ty106 rfl rfl (H.elsA 0 rfl hx17 rfl)) (r_ldA (cs := [.string x19.key, .string x19.val]) rfl ty106 rfl rfl (H.elsA 0 rfl hx20 rfl)) ?_)
   have th22 := H.thA 0 rfl hx20
   refine d_val rfl rfl rfl (fun w ⟨Ar, H⟩ => r_iaE (p := oOf A1 + k * 2) rfl sl35 rfl rfl (by omega) (by omega) th22 rfl) (d_main rfl (s_stO (i := k) (a := x16) rfl rfl rfl ty106 rfl rfl rfl H (by omega) rfl (fun w H => ?_)))
   replace H := H.h1 (A := osl kPair (.slice A1 xs.length c2) (ys.set k x16))
   refine d_back ⟨_, H⟩ ?_
   obtain ⟨x23, hx24⟩ : ∃ z9, (ys.set k x16)[k + 1]? = some z9 := ⟨_, List.getElem?_eq_getElem (show k + 1 < (ys.set k x16).length by simp only [List.length_set]; omega)⟩
   have th25 := H.thA 0 rfl hx24
   refine d_val rfl rfl rfl (fun w ⟨Ar, H⟩ => r_iaE (p := oOf A1 + (k + 1) * 2) rfl sl35 rfl rfl (by omega) (by omega) th25 rfl) (d_main rfl (s_stO (i := k + 1) (a := x19) rfl rfl rfl ty106 rfl rfl rfl H (by simp only [List.length_set]; omega) rfl (fun w H => ?_)))
   replace H := H.h1 (A := osl kPair (.slice A1 xs.length c2) ((ys.set k x16).set (k + 1) x19))
   exact d_back ⟨_, H⟩ (d_nil (q_blockN (q_then (c_reg (s_1 rfl (s_val rfl rfl (r_add (z := ((k + 1 : Nat) : Int)) rfl rfl rfl (by rw [w64 (by omega) (by omega)]; omega)) (s_1 rfl (s_nil (q_round (s := (k, ys)) (k + 1, (ys.set k x16).set (k + 1) x19) ⟨rfl, rfl, rfl, rfl, rfl, rfl, rfl, trivial⟩ ⟨H, by (try dsimp only); omega, via_up' hm (by omega) hv hx20 hx17⟩ (by (try dsimp only); omega))))))))))
  refine c_exit (q_thenE (q_thenE (q_blockE (q_then (c_ret (q_thenR (q_ret0 rfl ?_)))))))
  obtain rfl : j = i := by omega
  obtain rfl : j = k + 1 := by omega
  exact fin ⟨_, rfl, merge_left' hm hv (by omega) (by omega) (by omega) hs2 hx0 hlow hup⟩ H
 refine c_skip (q_then (c_seq (c_seq (c_reg (s_k 2 rfl (s_val rfl rfl (r_sub (z := ((b - m : Nat) : Int)) rfl rfl rfl (by rw [w64 (by omega) (by omega)]; omega)) (s_val rfl rfl (r_eq rfl rfl rfl) (s_nil (q_then ?_)))))))))
 refine c_dec rfl (fun h26 => ?_) (fun h26 => ?_)
 ·refine c_seq ?_
  have hm : b = m + 1 := by omega
  obtain ⟨x0, hx0⟩ : ∃ z9, xs[m]? = some z9 := ⟨_, List.getElem?_eq_getElem (show m < xs.length by omega)⟩
  refine c_reg (s_k 2 rfl (s_nil (q_then (c_seq (c_reg (s_k 2 rfl (s_nil (q_then (c_seq (c_block (c_loop (σ := Nat × Nat) (fun (i, j) => [(0, .slice A1 xs.length c2), (1, .int .i64 ((a : Nat) : Int)), (2, .int .i64 ((m : Nat) : Int)), (3, .int .i64 ((b : Nat) : Int)), (4, .func (.func 209) #[] #[]), (14, .int .i64 ((i : Nat) : Int)), (15, .int .i64 ((j : Nat) : Int))]) (fun (i, j) w => (Hd w0 F0 w [osl kPair (.slice A1 xs.length c2) xs] []) ∧ (a ≤ i ∧ i ≤ j ∧ j ≤ m) ∧ (i = a ∨ ∃ u, xs[i - 1]? = some u ∧ ltS x0.key u.key = false) ∧ (j = m ∨ ∃ u, xs[j]? = some u ∧ ltS x0.key u.key = true)) (fun (i, j) => j - i) (a, m) ⟨rfl, rfl, rfl, rfl, rfl, rfl, rfl, trivial⟩ ⟨H, by (try dsimp only); omega, .inl rfl, .inl rfl⟩ ?_)))))))))))
  rintro ⟨i, j⟩ w ⟨H, hij, hlow, hup⟩
  refine c_seq (c_seq (c_reg (s_k 2 rfl (s_val rfl rfl (r_lt rfl rfl rfl) (s_nil (q_then ?_))))))
  refine c_dec rfl (fun h27 => ?_) (fun h27 => ?_)
  ·refine c_skip (q_then (c_block (c_seq (c_reg (s_k 2 rfl (s_val rfl rfl (r_add (z := ((i + j : Nat) : Int)) rfl rfl rfl (by rw [w64 (by omega) (by omega)]; omega)) (s_val rfl rfl (r_i2i (z := ((i + j : Nat) : Int)) rfl rfl un3 un158 (wu64 (by omega) (by omega))) (s_val rfl rfl (r_shr (z := (((i + j) / 2 : Nat) : Int)) rfl rfl rfl (by omega) (half_u64 _)) (s_val rfl rfl (r_i2i (z := (((i + j) / 2 : Nat) : Int)) rfl rfl un158 un3 (w64 (by omega) (by omega))) (s_1 rfl (s_nil (q_then (c_seq (c_ord (.e 0 (.e 1 (.e 2 (.e 3 (.e 4 (.e 5 (.e 6 (.e 7 (.e 8 (.m 9 (.e 10 (.e 11 .z)))))))))))) (fun w => ∃ Ar, Hd w0 F0 w (osl kPair (.slice A1 xs.length c2) xs :: Ar) []) mo (by kernel_rfl) (fun w H => ⟨_, H⟩) H (fun w H => (d_1 rfl (d_1 rfl (d_1 rfl ?_))))))))))))))))))
   obtain ⟨x28, hx29⟩ : ∃ z9, xs[m]? = some z9 := ⟨_, List.getElem?_eq_getElem (show m < xs.length by omega)⟩
   have th30 := H.thA 0 rfl hx29
   refine d_val rfl rfl rfl (fun w ⟨Ar, H⟩ => r_iaE (p := oOf A1 + m * 2) rfl sl35 rfl rfl (by omega) (by omega) th30 rfl) (d_val rfl rfl rfl (fun w ⟨Ar, H⟩ => r_ldA (cs := [.string x28.key, .string x28.val]) rfl ty106 rfl rfl (H.elsA 0 rfl hx29 rfl)) (d_1 rfl (d_1 rfl ?_)))
   obtain ⟨x31, hx32⟩ : ∃ z9, xs[(i + j) / 2]? = some z9 := ⟨_, List.getElem?_eq_getElem (show (i + j) / 2 < xs.length by omega)⟩
   have th33 := H.thA 0 rfl hx32
   refine d_val rfl rfl rfl (fun w ⟨Ar, H⟩ => r_iaE (p := oOf A1 + ((i + j) / 2) * 2) rfl sl35 rfl rfl (by omega) (by omega) th33 rfl) (d_val rfl rfl rfl (fun w ⟨Ar, H⟩ => r_ldA (cs := [.string x31.key, .string x31.val]) rfl ty106 rfl rfl (H.elsA 0 rfl hx32 rfl)) (d_main rfl (sc (order_ok x28 x31) H l0 rfl rfl (e_val (vs := [.agg #[.string x28.key, .string x28.val], .agg #[.string x31.key, .string x31.val]]) (fs := #[]) (cs := #[]) kn209 rfl rfl rfl) ?_)))
   rintro _ _ w ⟨rfl, rfl⟩ H
   refine d_back ⟨_, H⟩ (d_val rfl rfl rfl (fun w ⟨Ar, H⟩ => r_lt rfl rfl rfl) (d_val rfl rfl rfl (fun w ⟨Ar, H⟩ => r_notP rfl rfl) (d_nil (q_then ?_))))
   refine c_dec rfl (fun h34 => ?_) (fun h34 => ?_)
   ·obtain rfl : x28 = x0 := Option.some.inj (hx29.symm.trans hx0)
    exact c_reg (s_1 rfl (s_val rfl rfl (r_add (z := (((i + j) / 2 + 1 : Nat) : Int)) rfl rfl rfl (by rw [w64 (by omega) (by omega)]; omega)) (s_1 rfl (s_nil (q_blockN (q_round (s := (i, j)) ((i + j) / 2 + 1, j) ⟨rfl, rfl, rfl, rfl, rfl, rfl, rfl, trivial⟩ ⟨H, by (try dsimp only); omega, .inr ⟨x31, by rw [Nat.add_sub_cancel]; exact hx32, cmpK_nneg h34⟩, hup⟩ (by (try dsimp only); omega)))))))
   obtain rfl : x28 = x0 := Option.some.inj (hx29.symm.trans hx0)
   exact c_reg (s_k 2 rfl (s_nil (q_blockN (q_round (s := (i, j)) (i, (i + j) / 2) ⟨rfl, rfl, rfl, rfl, rfl, rfl, rfl, trivial⟩ ⟨H, by (try dsimp only); omega, hlow, .inr ⟨x31, hx32, cmpK_neg.1 (Classical.not_not.1 h34)⟩⟩ (by (try dsimp only); omega)))))
  refine c_exit (q_thenE (q_thenE (q_blockE (q_then (c_seq (c_seq (c_reg (s_k 2 rfl (s_nil (q_then (c_block (c_loop (σ := Nat × List Pair) (fun (k, ys) => [(0, .slice A1 xs.length c2), (1, .int .i64 ((a : Nat) : Int)), (2, .int .i64 ((m : Nat) : Int)), (3, .int .i64 ((b : Nat) : Int)), (4, .func (.func 209) #[] #[]), (14, .int .i64 ((i : Nat) : Int)), (17, .int .i64 ((k : Nat) : Int))]) (fun (k, ys) w => (Hd w0 F0 w [osl kPair (.slice A1 xs.length c2) ys] []) ∧ (i ≤ k ∧ k ≤ m) ∧ (Via xs ys (rotI k m b))) (fun (k, ys) => k) (m, xs) ⟨rfl, rfl, rfl, rfl, rfl, rfl, rfl, trivial⟩ ⟨H, by (try dsimp only); omega, by rw [hm]; exact via_one' xs m⟩ ?_))))))))))))
  rintro ⟨k, ys⟩ w ⟨H, hk, hv⟩
  have hl := hv.1
  refine c_seq (c_seq (c_reg (s_k 2 rfl (s_val rfl rfl (r_gt rfl rfl rfl) (s_nil (q_then ?_))))))
  refine c_dec rfl (fun h35 => ?_) (fun h35 => ?_)
  ·refine c_skip (q_then (c_seq (c_block (c_ord (.e 0 (.e 1 (.e 2 (.e 3 (.e 4 (.e 5 (.e 6 (.e 7 (.e 8 (.e 10 (.e 11 (.e 12 (.p 9 13 (.e 14 (.m 15 (.e 16 (.m 17 .z))))))))))))))))) (fun w => ∃ Ar, Hd w0 F0 w (Ar) []) mo (by kernel_rfl) (fun w H => ⟨_, H⟩) H (fun w H => (d_1 rfl (d_1 rfl (d_1 rfl (d_1 rfl (d_val rfl rfl rfl (fun w ⟨Ar, H⟩ => r_sub (z := ((k - 1 : Nat) : Int)) rfl rfl rfl (by rw [w64 (by omega) (by omega)]; omega)) (d_1 rfl (d_1 rfl (d_val rfl rfl rfl (fun w ⟨Ar, H⟩ => r_sub (z := ((k - 1 : Nat) : Int)) rfl rfl rfl (by rw [w64 (by omega) (by omega)]; omega)) ?_)))))))))))))
   obtain ⟨x36, hx37⟩ : ∃ z9, ys[k - 1]? = some z9 := ⟨_, List.getElem?_eq_getElem (show k - 1 < ys.length by omega)⟩
   have th38 := H.thA 0 rfl hx37
   refine d_val rfl rfl rfl (fun w ⟨Ar, H⟩ => r_iaE (p := oOf A1 + (k - 1) * 2) rfl sl35 rfl rfl (by omega) (by omega) th38 rfl) (d_1 rfl (d_1 rfl ?_))
   obtain ⟨x39, hx40⟩ : ∃ z9, ys[k]? = some z9 := ⟨_, List.getElem?_eq_getElem (show k < ys.length by omega)⟩
   have th41 := H.thA 0 rfl hx40
   refine d_val rfl rfl rfl (fun w ⟨Ar, H⟩ => r_iaE (p := oOf A1 + k * 2) rfl sl35 rfl rfl (by omega) (by omega) th41 rfl) (d_pair rfl rfl rfl rfl rfl rfl rfl rfl (by decide) (r_ldA (cs := [.string x36.key, .string x36.val]) rfl ty106 rfl rfl (H.elsA 0 rfl hx37 rfl)) (r_ldA (cs := [.string x39.key, .string x39.val]) rfl ty106 rfl rfl (H.elsA 0 rfl hx40 rfl)) ?_)
   have th42 := H.thA 0 rfl hx40
   refine d_val rfl rfl rfl (fun w ⟨Ar, H⟩ => r_iaE (p := oOf A1 + k * 2) rfl sl35 rfl rfl (by omega) (by omega) th42 rfl) (d_main rfl (s_stO (i := k) (a := x36) rfl rfl rfl ty106 rfl rfl rfl H (by omega) rfl (fun w H => ?_)))
   replace H := H.h1 (A := osl kPair (.slice A1 xs.length c2) (ys.set k x36))
   refine d_back ⟨_, H⟩ ?_
   obtain ⟨x43, hx44⟩ : ∃ z9, (ys.set k x36)[k - 1]? = some z9 := ⟨_, List.getElem?_eq_getElem (show k - 1 < (ys.set k x36).length by simp only [List.length_set]; omega)⟩
   have th45 := H.thA 0 rfl hx44
   refine d_val rfl rfl rfl (fun w ⟨Ar, H⟩ => r_iaE (p := oOf A1 + (k - 1) * 2) rfl sl35 rfl rfl (by omega) (by omega) th45 rfl) (d_main rfl (s_stO (i := k - 1) (a := x39) rfl rfl rfl ty106 rfl rfl rfl H (by simp only [List.length_set]; omega) rfl (fun w H => ?_)))
   replace H := H.h1 (A := osl kPair (.slice A1 xs.length c2) ((ys.set k x36).set (k - 1) x39))
   exact d_back ⟨_, H⟩ (d_nil (q_blockN (q_then (c_reg (s_1 rfl (s_val rfl rfl (r_sub (z := ((k - 1 : Nat) : Int)) rfl rfl rfl (by rw [w64 (by omega) (by omega)]; omega)) (s_1 rfl (s_nil (q_round (s := (k, ys)) (k - 1, (ys.set k x36).set (k - 1) x39) ⟨rfl, rfl, rfl, rfl, rfl, rfl, rfl, trivial⟩ ⟨H, by (try dsimp only); omega, via_down' hm (by omega) (by omega) hv hx40 hx37⟩ (by (try dsimp only); omega))))))))))
  refine c_exit (q_thenE (q_thenE (q_blockE (q_then (c_ret (q_thenR (q_ret0 rfl ?_)))))))
  obtain rfl : j = i := by omega
  obtain rfl : j = k := by omega
  exact fin ⟨_, rfl, merge_right' hm hv (by omega) (by omega) (by omega) hs1 hx0 hlow hup⟩ H
 refine c_skip (q_then (c_seq (c_reg (s_k 2 rfl (s_val rfl rfl (r_add (z := ((a + b : Nat) : Int)) rfl rfl rfl (by rw [w64 (by omega) (by omega)]; omega)) (s_val rfl rfl (r_i2i (z := ((a + b : Nat) : Int)) rfl rfl un3 un158 (wu64 (by omega) (by omega))) (s_val rfl rfl (r_shr (z := (((a + b) / 2 : Nat) : Int)) rfl rfl rfl (by omega) (half_u64 _)) (s_val rfl rfl (r_i2i (z := (((a + b) / 2 : Nat) : Int)) rfl rfl un158 un3 (w64 (by omega) (by omega))) (s_1 rfl (s_nil (q_then (c_seq ?_))))))))))))
 generalize hmd : (a + b) / 2 = md
 refine c_reg (s_k 2 rfl (s_val rfl rfl (r_add (z := ((md + m : Nat) : Int)) rfl rfl rfl (by rw [w64 (by omega) (by omega)]; omega)) (s_1 rfl (s_nil (q_then (c_seq (c_reg (s_k 2 rfl (s_nil (q_then (c_seq (c_seq (c_reg (s_k 2 rfl (s_val rfl rfl (r_gt rfl rfl rfl) (s_nil (q_then ?_)))))))))))))))))
 refine c_dec rfl (fun h46 => ?_) (fun h46 => ?_)
 ·refine c_seq (c_reg (s_k 2 rfl (s_val rfl rfl (r_sub (z := ((md + m - b : Nat) : Int)) rfl rfl rfl (by rw [w64 (by omega) (by omega)]; omega)) (s_1 rfl (s_nil (q_then (c_reg (s_k 2 rfl (s_nil (q_then (c_seq (c_reg (s_1 rfl (s_val rfl rfl (r_sub (z := ((md + m - 1 : Nat) : Int)) rfl rfl rfl (by rw [w64 (by omega) (by omega)]; omega)) (s_1 rfl (s_nil (q_then (c_seq (c_block (c_loop (σ := Nat × Nat) (fun (i, j) => [(0, .slice A1 xs.length c2), (1, .int .i64 ((a : Nat) : Int)), (2, .int .i64 ((m : Nat) : Int)), (3, .int .i64 ((b : Nat) : Int)), (4, .func (.func 209) #[] #[]), (18, .int .i64 ((md : Nat) : Int)), (19, .int .i64 ((md + m : Nat) : Int)), (20, .int .i64 ((i : Nat) : Int)), (21, .int .i64 ((j : Nat) : Int)), (22, .int .i64 ((md + m - 1 : Nat) : Int))]) (fun (i, j) w => (Hd w0 F0 w [osl kPair (.slice A1 xs.length c2) xs] []) ∧ (md + m - b ≤ i ∧ i ≤ j ∧ j ≤ md) ∧ (i = md + m - b ∨ ∃ u v, xs[i - 1]? = some u ∧ xs[md + m - i]? = some v ∧ ltS v.key u.key = false) ∧ (j = md ∨ ∃ u v, xs[md + m - j - 1]? = some u ∧ xs[j]? = some v ∧ ltS u.key v.key = true)) (fun (i, j) => j - i) (md + m - b, md) ⟨rfl, rfl, rfl, rfl, rfl, rfl, rfl, rfl, rfl, rfl, trivial⟩ ⟨H, by (try dsimp only); omega, .inl rfl, .inl rfl⟩ ?_))))))))))))))))))))
  rintro ⟨i, j⟩ w ⟨H, hij, hlow, hup⟩
  refine c_seq (c_seq (c_reg (s_k 2 rfl (s_val rfl rfl (r_lt rfl rfl rfl) (s_nil (q_then ?_))))))
  refine c_dec rfl (fun h47 => ?_) (fun h47 => ?_)
  ·refine c_skip (q_then (c_block (c_seq (c_reg (s_k 2 rfl (s_val rfl rfl (r_add (z := ((i + j : Nat) : Int)) rfl rfl rfl (by rw [w64 (by omega) (by omega)]; omega)) (s_val rfl rfl (r_i2i (z := ((i + j : Nat) : Int)) rfl rfl un3 un158 (wu64 (by omega) (by omega))) (s_val rfl rfl (r_shr (z := (((i + j) / 2 : Nat) : Int)) rfl rfl rfl (by omega) (half_u64 _)) (s_val rfl rfl (r_i2i (z := (((i + j) / 2 : Nat) : Int)) rfl rfl un158 un3 (w64 (by omega) (by omega))) (s_1 rfl (s_nil (q_then (c_seq (c_ord (.e 0 (.e 1 (.e 2 (.e 3 (.e 4 (.e 5 (.e 6 (.e 7 (.e 8 (.e 9 (.e 10 (.m 11 (.e 12 (.e 13 .z)))))))))))))) (fun w => ∃ Ar, Hd w0 F0 w (osl kPair (.slice A1 xs.length c2) xs :: Ar) []) mo (by kernel_rfl) (fun w H => ⟨_, H⟩) H (fun w H => (d_1 rfl (d_1 rfl (d_1 rfl (d_1 rfl (d_val rfl rfl rfl (fun w ⟨Ar, H⟩ => r_sub (z := ((md + m - 1 - ((i + j) / 2) : Nat) : Int)) rfl rfl rfl (by rw [w64 (by omega) (by omega)]; omega)) ?_))))))))))))))))))))
   obtain ⟨x48, hx49⟩ : ∃ z9, xs[md + m - 1 - ((i + j) / 2)]? = some z9 := ⟨_, List.getElem?_eq_getElem (show md + m - 1 - ((i + j) / 2) < xs.length by omega)⟩
   have th50 := H.thA 0 rfl hx49
   refine d_val rfl rfl rfl (fun w ⟨Ar, H⟩ => r_iaE (p := oOf A1 + (md + m - 1 - ((i + j) / 2)) * 2) rfl sl35 rfl rfl (by omega) (by omega) th50 rfl) (d_val rfl rfl rfl (fun w ⟨Ar, H⟩ => r_ldA (cs := [.string x48.key, .string x48.val]) rfl ty106 rfl rfl (H.elsA 0 rfl hx49 rfl)) (d_1 rfl (d_1 rfl ?_)))
   obtain ⟨x51, hx52⟩ : ∃ z9, xs[(i + j) / 2]? = some z9 := ⟨_, List.getElem?_eq_getElem (show (i + j) / 2 < xs.length by omega)⟩
   have th53 := H.thA 0 rfl hx52
   refine d_val rfl rfl rfl (fun w ⟨Ar, H⟩ => r_iaE (p := oOf A1 + ((i + j) / 2) * 2) rfl sl35 rfl rfl (by omega) (by omega) th53 rfl) (d_val rfl rfl rfl (fun w ⟨Ar, H⟩ => r_ldA (cs := [.string x51.key, .string x51.val]) rfl ty106 rfl rfl (H.elsA 0 rfl hx52 rfl)) (d_main rfl (sc (order_ok x48 x51) H l0 rfl rfl (e_val (vs := [.agg #[.string x48.key, .string x48.val], .agg #[.string x51.key, .string x51.val]]) (fs := #[]) (cs := #[]) kn209 rfl rfl rfl) ?_)))
   rintro _ _ w ⟨rfl, rfl⟩ H
   refine d_back ⟨_, H⟩ (d_val rfl rfl rfl (fun w ⟨Ar, H⟩ => r_lt rfl rfl rfl) (d_val rfl rfl rfl (fun w ⟨Ar, H⟩ => r_notP rfl rfl) (d_nil (q_then ?_))))
   refine c_dec rfl (fun h54 => ?_) (fun h54 => ?_)
   ·exact c_reg (s_1 rfl (s_val rfl rfl (r_add (z := (((i + j) / 2 + 1 : Nat) : Int)) rfl rfl rfl (by rw [w64 (by omega) (by omega)]; omega)) (s_1 rfl (s_nil (q_blockN (q_round (s := (i, j)) ((i + j) / 2 + 1, j) ⟨rfl, rfl, rfl, rfl, rfl, rfl, rfl, rfl, rfl, rfl, trivial⟩ ⟨H, by (try dsimp only); omega, .inr ⟨x51, x48, by rw [Nat.add_sub_cancel]; exact hx52, by rw [show md + m - ((i + j) / 2 + 1) = md + m - 1 - (i + j) / 2 by omega]; exact hx49, cmpK_nneg h54⟩, hup⟩ (by (try dsimp only); omega)))))))
   exact c_reg (s_k 2 rfl (s_nil (q_blockN (q_round (s := (i, j)) (i, (i + j) / 2) ⟨rfl, rfl, rfl, rfl, rfl, rfl, rfl, rfl, rfl, rfl, trivial⟩ ⟨H, by (try dsimp only); omega, hlow, .inr ⟨x48, x51, by rw [show md + m - (i + j) / 2 - 1 = md + m - 1 - (i + j) / 2 by omega]; exact hx49, hx52, cmpK_neg.1 (Classical.not_not.1 h54)⟩⟩ (by (try dsimp only); omega)))))
  refine c_exit (q_thenE (q_thenE (q_blockE (q_then (c_seq ?_)))))
  obtain rfl : j = i := by omega
  have hlow2 : j = a ∨ md + m - j = b ∨ ∃ u v, xs[j - 1]? = some u ∧ xs[md + m - j]? = some v ∧ ltS v.key u.key = false := hlow.elim (fun h => .inr (.inl (by omega))) (fun h => .inr (.inr h))
  have hup2 : j = m ∨ md + m - j = m ∨ ∃ u v, xs[md + m - j - 1]? = some u ∧ xs[j]? = some v ∧ ltS u.key v.key = true := hup.elim (fun h => .inr (.inl (by omega))) (fun h => .inr (.inr h))
  have hbd : a ≤ j ∧ j ≤ m ∧ m ≤ md + m - j ∧ md + m - j ≤ b ∧ md = j + (md + m - j - m) := by omega
  refine c_reg (s_k 2 rfl (s_val rfl rfl (r_sub (z := ((md + m - j : Nat) : Int)) rfl rfl rfl (by rw [w64 (by omega) (by omega)]; omega)) (s_1 rfl (s_nil (q_then ?_)))))
  refine c_cut (σ := List Pair) (fun ys => [(0, .slice A1 xs.length c2), (1, .int .i64 ((a : Nat) : Int)), (2, .int .i64 ((m : Nat) : Int)), (3, .int .i64 ((b : Nat) : Int)), (4, .func (.func 209) #[] #[]), (18, .int .i64 ((md : Nat) : Int)), (20, .int .i64 ((j : Nat) : Int)), (24, .int .i64 ((md + m - j : Nat) : Int))]) (fun ys w => (Hd w0 F0 w [osl kPair (.slice A1 xs.length c2) ys] []) ∧ (Via xs ys (rotI j m (md + m - j)))) ?_ ?_
  ·refine c_seq (c_reg (s_k 2 rfl (s_val rfl rfl (r_lt rfl rfl rfl) (s_1 rfl ?_))))
   refine s_dec (d := 181) rfl (fun h55 => ?_) (fun h55 => ?_)
   ·refine s_k 2 rfl (s_val rfl rfl (r_lt rfl rfl rfl) (s_1 rfl (s_nil (q_then ?_))))
    refine c_dec rfl (fun h56 => ?_) (fun h56 => ?_)
    ·refine c_reg (s_k 5 rfl (sc (rotate_ok (.slice A1 xs.length c2) xs j m (md + m - j) (by omega) (by omega) (by omega) (by omega)) H l0 rfl rfl (e_fn kn306 rfl rfl) ?_))
     rintro _ _ w ⟨ys57, rfl, hv58⟩ H
     exact s_nil (q_cut ys57 ⟨rfl, rfl, rfl, rfl, rfl, rfl, rfl, rfl, trivial⟩ ⟨H, hv58⟩)
    exact c_skip (q_cut xs ⟨rfl, rfl, rfl, rfl, rfl, rfl, rfl, rfl, trivial⟩ ⟨H, via_none xs (by omega) (by omega) (by omega)⟩)
   exact s_k 4 rfl (s_nil (q_then (c_no rfl (c_skip (q_cut xs ⟨rfl, rfl, rfl, rfl, rfl, rfl, rfl, rfl, trivial⟩ ⟨H, via_none xs (by omega) (by omega) (by omega)⟩)))))
  rintro ys w ⟨H, hv⟩
  have hl := hv.1
  have hru := rot_runs hv hbd.1 hbd.2.1 hbd.2.2.1 hbd.2.2.2.1 hbd.2.2.2.2 hs1 hs2
  refine c_cut (σ := List Pair) (fun zs => [(0, .slice A1 xs.length c2), (1, .int .i64 ((a : Nat) : Int)), (2, .int .i64 ((m : Nat) : Int)), (3, .int .i64 ((b : Nat) : Int)), (4, .func (.func 209) #[] #[]), (18, .int .i64 ((md : Nat) : Int)), (20, .int .i64 ((j : Nat) : Int)), (24, .int .i64 ((md + m - j : Nat) : Int))]) (fun zs w => (Hd w0 F0 w [osl kPair (.slice A1 xs.length c2) zs] []) ∧ (Sorts ys zs a md)) ?_ ?_
  ·refine c_seq (c_reg (s_k 2 rfl (s_val rfl rfl (r_lt rfl rfl rfl) (s_1 rfl ?_))))
   refine s_dec (d := 195) rfl (fun h59 => ?_) (fun h59 => ?_)
   ·refine s_k 2 rfl (s_val rfl rfl (r_lt rfl rfl rfl) (s_1 rfl (s_nil (q_then ?_))))
    refine c_dec rfl (fun h60 => ?_) (fun h60 => ?_)
    ·refine c_reg (s_k 5 rfl (sc (ih (.slice A1 xs.length c2) ys a j md (by omega) (by omega) (by omega) (by omega) (by omega) hru.1 hru.2.1) H l0 rfl rfl (e_fn kn278 rfl rfl) ?_))
     rintro _ _ w ⟨ys61, rfl, hv62⟩ H
     exact s_nil (q_cut ys61 ⟨rfl, rfl, rfl, rfl, rfl, rfl, rfl, rfl, trivial⟩ ⟨H, hv62⟩)
    exact c_skip (q_cut ys ⟨rfl, rfl, rfl, rfl, rfl, rfl, rfl, rfl, trivial⟩ ⟨H, Sorts.refl (runs_skip hru.1 hru.2.1 (by omega) hbd.1)⟩)
   exact s_k 4 rfl (s_nil (q_then (c_no rfl (c_skip (q_cut ys ⟨rfl, rfl, rfl, rfl, rfl, rfl, rfl, rfl, trivial⟩ ⟨H, Sorts.refl (runs_skip hru.1 hru.2.1 (by omega) hbd.1)⟩)))))
  rintro zs w ⟨H, hz⟩
  have hl3 := hz.ins.1
  have hr3 : SrtI zs md (md + m - j) := hru.2.2.1.same (fun t h1 h2 => hz.ins.2.1 t (by omega))
  have hr4 : SrtI zs (md + m - j) b := hru.2.2.2.same (fun t h1 h2 => hz.ins.2.1 t (by omega))
  refine c_seq (c_reg (s_k 2 rfl (s_val rfl rfl (r_lt rfl rfl rfl) (s_1 rfl ?_))))
  refine s_dec (d := 209) rfl (fun h63 => ?_) (fun h63 => ?_)
  ·refine s_k 2 rfl (s_val rfl rfl (r_lt rfl rfl rfl) (s_1 rfl (s_nil (q_then ?_))))
   refine c_dec rfl (fun h64 => ?_) (fun h64 => ?_)
   ·refine c_reg (s_k 5 rfl (sc (ih (.slice A1 xs.length c2) zs md (md + m - j) b (by omega) (by omega) (by omega) (by omega) (by omega) hr3 hr4) H l0 rfl rfl (e_fn kn278 rfl rfl) ?_))
    rintro _ _ w ⟨ys65, rfl, hv66⟩ H
    exact s_nil (q_end rfl (fin ⟨_, rfl, merge_parts hv hbd.1 hbd.2.1 hbd.2.2.1 hbd.2.2.2.1 (by omega) hbd.2.2.2.2 hs1 hs2 hlow2 hup2 hz hv66⟩ H))
   exact c_skip (q_end rfl (fin ⟨_, rfl, merge_parts hv hbd.1 hbd.2.1 hbd.2.2.1 hbd.2.2.2.1 (by omega) hbd.2.2.2.2 hs1 hs2 hlow2 hup2 hz (Sorts.refl (runs_skip hr3 hr4 (by omega) (by omega)))⟩ H))
  exact s_k 4 rfl (s_nil (q_then (c_no rfl (c_skip (q_end rfl (fin ⟨_, rfl, merge_parts hv hbd.1 hbd.2.1 hbd.2.2.1 hbd.2.2.2.1 (by omega) hbd.2.2.2.2 hs1 hs2 hlow2 hup2 hz (Sorts.refl (runs_skip hr3 hr4 (by omega) (by omega)))⟩ H))))))
 refine c_seq (c_reg (s_k 2 rfl (s_nil (q_then (c_reg (s_k 2 rfl (s_nil (q_then (c_seq (c_reg (s_1 rfl (s_val rfl rfl (r_sub (z := ((md + m - 1 : Nat) : Int)) rfl rfl rfl (by rw [w64 (by omega) (by omega)]; omega)) (s_1 rfl (s_nil (q_then (c_seq (c_block (c_loop (σ := Nat × Nat) (fun (i, j) => [(0, .slice A1 xs.length c2), (1, .int .i64 ((a : Nat) : Int)), (2, .int .i64 ((m : Nat) : Int)), (3, .int .i64 ((b : Nat) : Int)), (4, .func (.func 209) #[] #[]), (18, .int .i64 ((md : Nat) : Int)), (19, .int .i64 ((md + m : Nat) : Int)), (20, .int .i64 ((i : Nat) : Int)), (21, .int .i64 ((j : Nat) : Int)), (22, .int .i64 ((md + m - 1 : Nat) : Int))]) (fun (i, j) w => (Hd w0 F0 w [osl kPair (.slice A1 xs.length c2) xs] []) ∧ (a ≤ i ∧ i ≤ j ∧ j ≤ m) ∧ (i = a ∨ ∃ u v, xs[i - 1]? = some u ∧ xs[md + m - i]? = some v ∧ ltS v.key u.key = false) ∧ (j = m ∨ ∃ u v, xs[md + m - j - 1]? = some u ∧ xs[j]? = some v ∧ ltS u.key v.key = true)) (fun (i, j) => j - i) (a, m) ⟨rfl, rfl, rfl, rfl, rfl, rfl, rfl, rfl, rfl, rfl, trivial⟩ ⟨H, by (try dsimp only); omega, .inl rfl, .inl rfl⟩ ?_))))))))))))))))))
 rintro ⟨i, j⟩ w ⟨H, hij, hlow, hup⟩
 refine c_seq (c_seq (c_reg (s_k 2 rfl (s_val rfl rfl (r_lt rfl rfl rfl) (s_nil (q_then ?_))))))
 refine c_dec rfl (fun h67 => ?_) (fun h67 => ?_)
 ·refine c_skip (q_then (c_block (c_seq (c_reg (s_k 2 rfl (s_val rfl rfl (r_add (z := ((i + j : Nat) : Int)) rfl rfl rfl (by rw [w64 (by omega) (by omega)]; omega)) (s_val rfl rfl (r_i2i (z := ((i + j : Nat) : Int)) rfl rfl un3 un158 (wu64 (by omega) (by omega))) (s_val rfl rfl (r_shr (z := (((i + j) / 2 : Nat) : Int)) rfl rfl rfl (by omega) (half_u64 _)) (s_val rfl rfl (r_i2i (z := (((i + j) / 2 : Nat) : Int)) rfl rfl un158 un3 (w64 (by omega) (by omega))) (s_1 rfl (s_nil (q_then (c_seq (c_ord (.e 0 (.e 1 (.e 2 (.e 3 (.e 4 (.e 5 (.e 6 (.e 7 (.e 8 (.e 9 (.e 10 (.m 11 (.e 12 (.e 13 .z)))))))))))))) (fun w => ∃ Ar, Hd w0 F0 w (osl kPair (.slice A1 xs.length c2) xs :: Ar) []) mo (by kernel_rfl) (fun w H => ⟨_, H⟩) H (fun w H => (d_1 rfl (d_1 rfl (d_1 rfl (d_1 rfl (d_val rfl rfl rfl (fun w ⟨Ar, H⟩ => r_sub (z := ((md + m - 1 - ((i + j) / 2) : Nat) : Int)) rfl rfl rfl (by rw [w64 (by omega) (by omega)]; omega)) ?_))))))))))))))))))))
  obtain ⟨x68, hx69⟩ : ∃ z9, xs[md + m - 1 - ((i + j) / 2)]? = some z9 := ⟨_, List.getElem?_eq_getElem (show md + m - 1 - ((i + j) / 2) < xs.length by omega)⟩
  have th70 := H.thA 0 rfl hx69
  refine d_val rfl rfl rfl (fun w ⟨Ar, H⟩ => r_iaE (p := oOf A1 + (md + m - 1 - ((i + j) / 2)) * 2) rfl sl35 rfl rfl (by omega) (by omega) th70 rfl) (d_val rfl rfl rfl (fun w ⟨Ar, H⟩ => r_ldA (cs := [.string x68.key, .string x68.val]) rfl ty106 rfl rfl (H.elsA 0 rfl hx69 rfl)) (d_1 rfl (d_1 rfl ?_)))
  obtain ⟨x71, hx72⟩ : ∃ z9, xs[(i + j) / 2]? = some z9 := ⟨_, List.getElem?_eq_getElem (show (i + j) / 2 < xs.length by omega)⟩
  have th73 := H.thA 0 rfl hx72
  refine d_val rfl rfl rfl (fun w ⟨Ar, H⟩ => r_iaE (p := oOf A1 + ((i + j) / 2) * 2) rfl sl35 rfl rfl (by omega) (by omega) th73 rfl) (d_val rfl rfl rfl (fun w ⟨Ar, H⟩ => r_ldA (cs := [.string x71.key, .string x71.val]) rfl ty106 rfl rfl (H.elsA 0 rfl hx72 rfl)) (d_main rfl (sc (order_ok x68 x71) H l0 rfl rfl (e_val (vs := [.agg #[.string x68.key, .string x68.val], .agg #[.string x71.key, .string x71.val]]) (fs := #[]) (cs := #[]) kn209 rfl rfl rfl) ?_)))
  rintro _ _ w ⟨rfl, rfl⟩ H
  refine d_back ⟨_, H⟩ (d_val rfl rfl rfl (fun w ⟨Ar, H⟩ => r_lt rfl rfl rfl) (d_val rfl rfl rfl (fun w ⟨Ar, H⟩ => r_notP rfl rfl) (d_nil (q_then ?_))))
  refine c_dec rfl (fun h74 => ?_) (fun h74 => ?_)
  ·exact c_reg (s_1 rfl (s_val rfl rfl (r_add (z := (((i + j) / 2 + 1 : Nat) : Int)) rfl rfl rfl (by rw [w64 (by omega) (by omega)]; omega)) (s_1 rfl (s_nil (q_blockN (q_round (s := (i, j)) ((i + j) / 2 + 1, j) ⟨rfl, rfl, rfl, rfl, rfl, rfl, rfl, rfl, rfl, rfl, trivial⟩ ⟨H, by (try dsimp only); omega, .inr ⟨x71, x68, by rw [Nat.add_sub_cancel]; exact hx72, by rw [show md + m - ((i + j) / 2 + 1) = md + m - 1 - (i + j) / 2 by omega]; exact hx69, cmpK_nneg h74⟩, hup⟩ (by (try dsimp only); omega)))))))
  exact c_reg (s_k 2 rfl (s_nil (q_blockN (q_round (s := (i, j)) (i, (i + j) / 2) ⟨rfl, rfl, rfl, rfl, rfl, rfl, rfl, rfl, rfl, rfl, trivial⟩ ⟨H, by (try dsimp only); omega, hlow, .inr ⟨x68, x71, by rw [show md + m - (i + j) / 2 - 1 = md + m - 1 - (i + j) / 2 by omega]; exact hx69, hx72, cmpK_neg.1 (Classical.not_not.1 h74)⟩⟩ (by (try dsimp only); omega)))))
 refine c_exit (q_thenE (q_thenE (q_blockE (q_then (c_seq ?_)))))
 obtain rfl : j = i := by omega
 have hlow2 : j = a ∨ md + m - j = b ∨ ∃ u v, xs[j - 1]? = some u ∧ xs[md + m - j]? = some v ∧ ltS v.key u.key = false := hlow.elim (fun h => .inl (by omega)) (fun h => .inr (.inr h))
 have hup2 : j = m ∨ md + m - j = m ∨ ∃ u v, xs[md + m - j - 1]? = some u ∧ xs[j]? = some v ∧ ltS u.key v.key = true := hup.elim (fun h => .inl (by omega)) (fun h => .inr (.inr h))
 have hbd : a ≤ j ∧ j ≤ m ∧ m ≤ md + m - j ∧ md + m - j ≤ b ∧ md = j + (md + m - j - m) := by omega
 refine c_reg (s_k 2 rfl (s_val rfl rfl (r_sub (z := ((md + m - j : Nat) : Int)) rfl rfl rfl (by rw [w64 (by omega) (by omega)]; omega)) (s_1 rfl (s_nil (q_then ?_)))))
 refine c_cut (σ := List Pair) (fun ys => [(0, .slice A1 xs.length c2), (1, .int .i64 ((a : Nat) : Int)), (2, .int .i64 ((m : Nat) : Int)), (3, .int .i64 ((b : Nat) : Int)), (4, .func (.func 209) #[] #[]), (18, .int .i64 ((md : Nat) : Int)), (20, .int .i64 ((j : Nat) : Int)), (24, .int .i64 ((md + m - j : Nat) : Int))]) (fun ys w => (Hd w0 F0 w [osl kPair (.slice A1 xs.length c2) ys] []) ∧ (Via xs ys (rotI j m (md + m - j)))) ?_ ?_
 ·refine c_seq (c_reg (s_k 2 rfl (s_val rfl rfl (r_lt rfl rfl rfl) (s_1 rfl ?_))))
  refine s_dec (d := 181) rfl (fun h75 => ?_) (fun h75 => ?_)
  ·refine s_k 2 rfl (s_val rfl rfl (r_lt rfl rfl rfl) (s_1 rfl (s_nil (q_then ?_))))
   refine c_dec rfl (fun h76 => ?_) (fun h76 => ?_)
   ·refine c_reg (s_k 5 rfl (sc (rotate_ok (.slice A1 xs.length c2) xs j m (md + m - j) (by omega) (by omega) (by omega) (by omega)) H l0 rfl rfl (e_fn kn306 rfl rfl) ?_))
    rintro _ _ w ⟨ys77, rfl, hv78⟩ H
    exact s_nil (q_cut ys77 ⟨rfl, rfl, rfl, rfl, rfl, rfl, rfl, rfl, trivial⟩ ⟨H, hv78⟩)
   exact c_skip (q_cut xs ⟨rfl, rfl, rfl, rfl, rfl, rfl, rfl, rfl, trivial⟩ ⟨H, via_none xs (by omega) (by omega) (by omega)⟩)
  exact s_k 4 rfl (s_nil (q_then (c_no rfl (c_skip (q_cut xs ⟨rfl, rfl, rfl, rfl, rfl, rfl, rfl, rfl, trivial⟩ ⟨H, via_none xs (by omega) (by omega) (by omega)⟩)))))
 rintro ys w ⟨H, hv⟩
 have hl := hv.1
 have hru := rot_runs hv hbd.1 hbd.2.1 hbd.2.2.1 hbd.2.2.2.1 hbd.2.2.2.2 hs1 hs2
 refine c_cut (σ := List Pair) (fun zs => [(0, .slice A1 xs.length c2), (1, .int .i64 ((a : Nat) : Int)), (2, .int .i64 ((m : Nat) : Int)), (3, .int .i64 ((b : Nat) : Int)), (4, .func (.func 209) #[] #[]), (18, .int .i64 ((md : Nat) : Int)), (20, .int .i64 ((j : Nat) : Int)), (24, .int .i64 ((md + m - j : Nat) : Int))]) (fun zs w => (Hd w0 F0 w [osl kPair (.slice A1 xs.length c2) zs] []) ∧ (Sorts ys zs a md)) ?_ ?_
 ·refine c_seq (c_reg (s_k 2 rfl (s_val rfl rfl (r_lt rfl rfl rfl) (s_1 rfl ?_))))
  refine s_dec (d := 195) rfl (fun h79 => ?_) (fun h79 => ?_)
  ·refine s_k 2 rfl (s_val rfl rfl (r_lt rfl rfl rfl) (s_1 rfl (s_nil (q_then ?_))))
   refine c_dec rfl (fun h80 => ?_) (fun h80 => ?_)
   ·refine c_reg (s_k 5 rfl (sc (ih (.slice A1 xs.length c2) ys a j md (by omega) (by omega) (by omega) (by omega) (by omega) hru.1 hru.2.1) H l0 rfl rfl (e_fn kn278 rfl rfl) ?_))
    rintro _ _ w ⟨ys81, rfl, hv82⟩ H
    exact s_nil (q_cut ys81 ⟨rfl, rfl, rfl, rfl, rfl, rfl, rfl, rfl, trivial⟩ ⟨H, hv82⟩)
   exact c_skip (q_cut ys ⟨rfl, rfl, rfl, rfl, rfl, rfl, rfl, rfl, trivial⟩ ⟨H, Sorts.refl (runs_skip hru.1 hru.2.1 (by omega) hbd.1)⟩)
  exact s_k 4 rfl (s_nil (q_then (c_no rfl (c_skip (q_cut ys ⟨rfl, rfl, rfl, rfl, rfl, rfl, rfl, rfl, trivial⟩ ⟨H, Sorts.refl (runs_skip hru.1 hru.2.1 (by omega) hbd.1)⟩)))))
 rintro zs w ⟨H, hz⟩
 have hl3 := hz.ins.1
 have hr3 : SrtI zs md (md + m - j) := hru.2.2.1.same (fun t h1 h2 => hz.ins.2.1 t (by omega))
 have hr4 : SrtI zs (md + m - j) b := hru.2.2.2.same (fun t h1 h2 => hz.ins.2.1 t (by omega))
 refine c_seq (c_reg (s_k 2 rfl (s_val rfl rfl (r_lt rfl rfl rfl) (s_1 rfl ?_))))
 refine s_dec (d := 209) rfl (fun h83 => ?_) (fun h83 => ?_)
 ·refine s_k 2 rfl (s_val rfl rfl (r_lt rfl rfl rfl) (s_1 rfl (s_nil (q_then ?_))))
  refine c_dec rfl (fun h84 => ?_) (fun h84 => ?_)
  ·refine c_reg (s_k 5 rfl (sc (ih (.slice A1 xs.length c2) zs md (md + m - j) b (by omega) (by omega) (by omega) (by omega) (by omega) hr3 hr4) H l0 rfl rfl (e_fn kn278 rfl rfl) ?_))
   rintro _ _ w ⟨ys85, rfl, hv86⟩ H
   exact s_nil (q_end rfl (fin ⟨_, rfl, merge_parts hv hbd.1 hbd.2.1 hbd.2.2.1 hbd.2.2.2.1 (by omega) hbd.2.2.2.2 hs1 hs2 hlow2 hup2 hz hv86⟩ H))
  exact c_skip (q_end rfl (fin ⟨_, rfl, merge_parts hv hbd.1 hbd.2.1 hbd.2.2.1 hbd.2.2.2.1 (by omega) hbd.2.2.2.2 hs1 hs2 hlow2 hup2 hz (Sorts.refl (runs_skip hr3 hr4 (by omega) (by omega)))⟩ H))
 exact s_k 4 rfl (s_nil (q_then (c_no rfl (c_skip (q_end rfl (fin ⟨_, rfl, merge_parts hv hbd.1 hbd.2.1 hbd.2.2.1 hbd.2.2.2.1 (by omega) hbd.2.2.2.2 hs1 hs2 hlow2 hup2 hz (Sorts.refl (runs_skip hr3 hr4 (by omega) (by omega)))⟩ H))))))
theorem symMerge_all : ∀ (N : Nat) (v : Value) (xs : List Pair) (a m b : Nat), b - a < N → a < m → m < b → b ≤ xs.length → xs.length ≤ 1000000 → SrtI xs a m → SrtI xs m b → Cn Tryz.prog 278 [v, .int .i64 ((a : Nat) : Int), .int .i64 ((m : Nat) : Int), .int .i64 ((b : Nat) : Int), .func (.func 209) #[] #[]] [osl kPair v xs] [] (fun _ Bs => ∃ ys, Bs = [osl kPair v ys] ∧ Sorts xs ys a b)
 | 0, _, _, _, _, _, h => absurd h (Nat.not_lt_zero _)
 | N + 1, v, xs, a, m, b, h => fun h1 h2 h3 h4 h5 h6 => symMerge_step N (symMerge_all N) v xs a m b h h1 h2 h3 h4 h5 h6
theorem stable_ok (v : Value) (xs : List Pair) (n : Nat) (hn : n = xs.length) (hb : xs.length ≤ 1000000) :
    Cn Tryz.prog 244 [v, .int .i64 ((n : Nat) : Int), .func (.func 209) #[] #[]] [osl kPair v xs] [] (fun _ Bs => ∃ ys, Bs = [osl kPair v ys] ∧ ys = srt xs) := by
 intro w0 F0 H
 obtain ⟨A1, c2, rfl, hc3, hm4, hp5⟩ := H.fA 0 rfl
 refine enter Tryz.func244 rfl rfl (Nat.le_of_ble_eq_true rfl) (c_seq (c_reg (s_1 rfl (s_nil (q_then ?_)))))
 replace H : Hd _ _ _ [osl kPair (.slice A1 xs.length c2) xs] [] := H
 refine c_seq (c_reg (s_k 3 rfl (s_nil (q_then (c_seq (c_block (c_loop (σ := Nat × List Pair) (fun (a, ys) => [(0, .slice A1 xs.length c2), (1, .int .i64 ((n : Nat) : Int)), (2, .func (.func 209) #[] #[]), (6, .int .i64 20), (7, .int .i64 ((a : Nat) : Int)), (8, .int .i64 ((a + 20 : Nat) : Int))]) (fun (a, ys) w => (Hd w0 F0 w [osl kPair (.slice A1 xs.length c2) ys] []) ∧ (a % 20 = 0 ∧ a ≤ n ∧ ys.length = xs.length) ∧ (Stab xs ys) ∧ (BlkS ys 0 a 20)) (fun (a, ys) => n - a) (0, xs) ⟨rfl, rfl, rfl, rfl, rfl, rfl, trivial⟩ ⟨H, by (try dsimp only); omega, Stab.refl _, BlkS.nil _ _⟩ ?_)))))))
 rintro ⟨a, ys⟩ w ⟨H, ha, hst, hbl⟩
 refine c_seq (c_seq (c_reg (s_k 2 rfl (s_val rfl rfl (r_le rfl rfl rfl) (s_nil (q_then ?_))))))
 refine c_dec rfl (fun h6 => ?_) (fun h6 => ?_)
 ·refine c_skip (q_then (c_block (c_seq (c_reg (s_k 4 rfl (sc (insSort_ok (.slice A1 xs.length c2) ys a (a + 20) (by omega) (by omega) (by omega)) H l0 rfl rfl (e_fn kn277 rfl rfl) ?_))))))
  rintro _ _ w ⟨ys7, rfl, hv8⟩ H
  replace H := H.h1 (A := osl kPair (.slice A1 xs.length c2) ys7)
  exact s_nil (q_then (c_seq (c_reg (s_k 2 rfl (s_nil (q_then (c_reg (s_k 2 rfl (s_val rfl rfl (r_add (z := ((a + 20 + 20 : Nat) : Int)) rfl rfl rfl (by rw [w64 (by omega) (by omega)]; omega)) (s_1 rfl (s_nil (q_blockN (q_round (s := (a, ys)) (a + 20, ys7) ⟨rfl, rfl, rfl, rfl, rfl, rfl, trivial⟩ ⟨H, by (try dsimp only); rw [hv8.ins.1]; omega, hst.trans hv8.stab, hbl.more (c := a / 20) (by omega) (Nat.le_refl _) hv8.ins hv8.srt⟩ (by (try dsimp only); omega))))))))))))))
 refine c_exit (q_thenE (q_thenE (q_blockE (q_then (c_seq (c_reg (s_k 4 rfl (sc (insSort_ok (.slice A1 xs.length c2) ys a n (by omega) (by omega) (by omega)) H l0 rfl rfl (e_fn kn277 rfl rfl) ?_))))))))
 rintro _ _ w ⟨ys9, rfl, hv10⟩ H
 replace H := H.h1 (A := osl kPair (.slice A1 xs.length c2) ys9)
 refine s_nil (q_then (c_block (c_loop (σ := Nat × List Pair) (fun (bs, ys) => [(0, .slice A1 xs.length c2), (1, .int .i64 ((n : Nat) : Int)), (2, .func (.func 209) #[] #[]), (6, .int .i64 ((bs : Nat) : Int))]) (fun (bs, ys) w => (Hd w0 F0 w [osl kPair (.slice A1 xs.length c2) ys] []) ∧ (20 ≤ bs ∧ bs ≤ 4000000 ∧ ys.length = xs.length) ∧ (Stab xs ys) ∧ (BlkS ys 0 n bs)) (fun (bs, ys) => n - bs) (20, ys9) ⟨rfl, rfl, rfl, rfl, trivial⟩ ⟨H, by (try dsimp only); rw [hv10.ins.1]; omega, hst.trans hv10.stab, hbl.more (c := a / 20) (by omega) (by omega) hv10.ins hv10.srt⟩ ?_)))
 rintro ⟨bs, ys⟩ w ⟨H, hbs, hst2, hbl2⟩
 refine c_seq (c_seq (c_reg (s_k 2 rfl (s_val rfl rfl (r_lt rfl rfl rfl) (s_nil (q_then ?_))))))
 refine c_dec rfl (fun h11 => ?_) (fun h11 => ?_)
 ·refine c_skip (q_then (c_block (c_seq (c_reg (s_1 rfl (s_val rfl rfl (r_mul (z := ((2 * bs : Nat) : Int)) rfl rfl rfl (by rw [w64 (by omega) (by omega)]; omega)) (s_k 2 rfl (s_nil (q_then (c_seq (c_block (c_loop (σ := Nat × List Pair) (fun (a, zs) => [(0, .slice A1 xs.length c2), (1, .int .i64 ((n : Nat) : Int)), (2, .func (.func 209) #[] #[]), (6, .int .i64 ((bs : Nat) : Int)), (7, .int .i64 ((a : Nat) : Int)), (8, .int .i64 ((a + 2 * bs : Nat) : Int))]) (fun (a, zs) w => (Hd w0 F0 w [osl kPair (.slice A1 xs.length c2) zs] []) ∧ (a ≤ n ∧ zs.length = xs.length) ∧ (∃ c, a = c * (2 * bs)) ∧ (Stab xs zs) ∧ (BlkS zs 0 a (2 * bs)) ∧ (BlkS zs a n bs)) (fun (a, zs) => n - a) (0, ys) ⟨rfl, rfl, rfl, rfl, rfl, congrArg (fun z => some (Value.int .i64 z)) (by (try dsimp only); omega), trivial⟩ ⟨H, by (try dsimp only); omega, ⟨0, by simp⟩, hst2, BlkS.nil _ _, hbl2⟩ ?_))))))))))))
  rintro ⟨a, zs⟩ w ⟨H, ha3, hac, hst3, hlo, hhi⟩
  refine c_seq (c_seq (c_reg (s_k 2 rfl (s_val rfl rfl (r_le rfl rfl rfl) (s_nil (q_then ?_))))))
  refine c_dec rfl (fun h12 => ?_) (fun h12 => ?_)
  ·refine c_skip (q_then (c_block (c_seq (c_reg (s_k 4 rfl (s_val rfl rfl (r_add (z := ((a + bs : Nat) : Int)) rfl rfl rfl (by rw [w64 (by omega) (by omega)]; omega)) (s_k 2 rfl (sc (symMerge_all (a + 2 * bs - a + 1) (.slice A1 xs.length c2) zs a (a + bs) (a + 2 * bs) (by omega) (by omega) (by omega) (by omega) (by omega) (blk_two hhi hac (by omega)).1 ((blk_two hhi hac (by omega)).2 _ (by omega) (by omega))) H l0 rfl rfl (e_fn kn278 rfl rfl) ?_))))))))
   rintro _ _ w ⟨ys13, rfl, hv14⟩ H
   replace H := H.h1 (A := osl kPair (.slice A1 xs.length c2) ys13)
   exact s_nil (q_then (c_seq (c_reg (s_k 2 rfl (s_nil (q_then (c_reg (s_k 2 rfl (s_val rfl rfl (r_mul (z := ((2 * bs : Nat) : Int)) rfl rfl rfl (by rw [w64 (by omega) (by omega)]; omega)) (s_val rfl rfl (r_add (z := ((a + 2 * bs + 2 * bs : Nat) : Int)) rfl rfl rfl (by rw [w64 (by omega) (by omega)]; omega)) (s_1 rfl (s_nil (q_blockN (q_round (s := (a, zs)) (a + 2 * bs, ys13) ⟨rfl, rfl, rfl, rfl, rfl, rfl, trivial⟩ ⟨H, by (try dsimp only); rw [hv14.ins.1]; omega, mul_next hac, hst3.trans hv14.stab, blk_next hlo hac (Nat.le_refl _) hv14, hhi.same (by omega) (fun t ht => hv14.ins.2.1 t (by omega))⟩ (by (try dsimp only); omega)))))))))))))))
  refine c_exit (q_thenE (q_thenE (q_blockE (q_then (c_seq (c_seq (c_reg (s_k 2 rfl (s_val rfl rfl (r_add (z := ((a + bs : Nat) : Int)) rfl rfl rfl (by rw [w64 (by omega) (by omega)]; omega)) (s_1 rfl (s_nil (q_then (c_seq (c_reg (s_k 2 rfl (s_val rfl rfl (r_lt rfl rfl rfl) (s_nil (q_then ?_))))))))))))))))))
  refine c_dec rfl (fun h15 => ?_) (fun h15 => ?_)
  ·refine c_reg (s_k 5 rfl (sc (symMerge_all (n - a + 1) (.slice A1 xs.length c2) zs a (a + bs) n (by omega) (by omega) (by omega) (by omega) (by omega) (blk_two hhi hac (by omega)).1 ((blk_two hhi hac (by omega)).2 _ (by omega) (by omega))) H l0 rfl rfl (e_fn kn278 rfl rfl) ?_))
   rintro _ _ w ⟨ys16, rfl, hv17⟩ H
   replace H := H.h1 (A := osl kPair (.slice A1 xs.length c2) ys16)
   refine s_nil (q_then ?_)
   have hfin := blk_next hlo hac (by omega) hv17
   have hlen4 := hv17.ins.1
   exact c_reg (s_1 rfl (s_val rfl rfl (r_mul (z := ((bs * 2 : Nat) : Int)) rfl rfl rfl (by rw [w64 (by omega) (by omega)]; omega)) (s_1 rfl (s_nil (q_blockN (q_round (s := (bs, ys)) (bs * 2, ys16) ⟨rfl, rfl, rfl, rfl, trivial⟩ ⟨H, by (try dsimp only); omega, hst3.trans hv17.stab, by (try dsimp only); rw [Nat.mul_comm bs 2]; exact hfin⟩ (by (try dsimp only); omega)))))))
  refine c_skip (q_then ?_)
  have hfin := blk_next hlo hac (by omega) (Sorts.refl (blk_rest hhi hac (by omega)))
  exact c_reg (s_1 rfl (s_val rfl rfl (r_mul (z := ((bs * 2 : Nat) : Int)) rfl rfl rfl (by rw [w64 (by omega) (by omega)]; omega)) (s_1 rfl (s_nil (q_blockN (q_round (s := (bs, ys)) (bs * 2, zs) ⟨rfl, rfl, rfl, rfl, trivial⟩ ⟨H, by (try dsimp only); omega, hst3, by (try dsimp only); rw [Nat.mul_comm bs 2]; exact hfin⟩ (by (try dsimp only); omega)))))))
 exact c_exit (q_thenE (q_thenE (q_blockE (q_end rfl (fin ⟨_, rfl, srt_of hst2 (SrtI.ord (by rw [hbs.2.2, ← hn]; exact hbl2.all (by omega)))⟩ H)))))
theorem sortStable_ok (v : Value) (xs : List Pair) (hb : xs.length ≤ 1000000) :
    Cn Tryz.prog 208 [v, .func (.func 209) #[] #[]] [osl kPair v xs] [] (fun _ Bs => ∃ ys, Bs = [osl kPair v ys] ∧ ys = srt xs) := by
 intro w0 F0 H
 obtain ⟨A1, c2, rfl, hc3, hm4, hp5⟩ := H.fA 0 rfl
 refine enter Tryz.func208 rfl rfl (Nat.le_of_ble_eq_true rfl) (c_reg (s_k 2 rfl (s_val rfl rfl (r_lenL rfl un35 rfl) (s_1 rfl ?_))))
 replace H : Hd _ _ _ [osl kPair (.slice A1 xs.length c2) xs] [] := H
 refine sc (stable_ok (.slice A1 xs.length c2) xs xs.length (by omega) (by omega)) H l0 rfl rfl (e_fn kn244 rfl rfl) ?_
 rintro _ _ w ⟨ys6, rfl, hv7⟩ H
 exact s_nil (q_end rfl (fin ⟨_, rfl, hv7⟩ H))
theorem clone_ok (vxs : Value) (xs : List Pair) (hb : xs.length ≤ 1000000) :
    Cn Tryz.prog 123 [vxs] [] [rsl kPair vxs xs] (fun v Bs => Bs = [osl kPair v xs]) := by
 intro w0 F0 H
 obtain ⟨A1, c2, rfl, hc3, hm4, hp5⟩ := H.fR 0 rfl
 refine enter Tryz.func123 rfl rfl (Nat.le_of_ble_eq_true rfl) (c_seq (c_reg (s_1 rfl (s_nil (q_then ?_)))))
 replace H : Hd _ _ _ [] [rsl kPair (.slice A1 xs.length c2) xs] := H
 refine c_seq (c_seq (c_reg (s_1 rfl (s_val rfl rfl (r_seq0 rfl un35 rfl rfl) (s_nil (q_then ?_))))))
 refine c_cond (b := (A1 : Option Addr).isNone) rfl (fun h6 => ?_) (fun h6 => ?_)
 ·refine c_seq (c_reg (s_1 rfl (s_nil (q_then (c_ret (q_thenR (q_ret1 rfl rfl ?_)))))))
  obtain rfl := H.nilR 0 rfl h6
  replace H := H.newnil kPair
  exact fin rfl H
 refine c_skip (q_then (c_seq (c_reg (s_bsl0 rfl rfl rfl sl35 H (fun b7 w H => (s_1 rfl ?_))))))
 replace H := H.newnilA kPair (some ⟨b7, 0, none⟩)
 refine s_appF (xs := []) (ys := xs) rfl rfl rfl sl35 zr106 rfl (by decide) rfl rfl H (by simp only [List.length_nil]; omega) (fun F hA hR => hR _ (List.mem_of_getElem? (i := 0) rfl)) (fun v8 w H => ?_)
 replace H := H.h2 (A := osl kPair v8 ([] ++ xs)) (B := blk b7 [] 106)
 refine s_1 rfl (s_nil (q_then (c_ret (q_ret1 rfl rfl ?_))))
 rw [List.nil_append] at H
 replace H := H.k1
 exact fin rfl H
theorem pairSort_ok (vxs : Value) (xs : List Pair) (hb : xs.length ≤ 1000000) :
    Cn Tryz.prog 176 [vxs] [] [rsl kPair vxs xs] (fun v Bs => Bs = [osl kPair v (srt xs)]) := by
 intro w0 F0 H
 obtain ⟨A1, c2, rfl, hc3, hm4, hp5⟩ := H.fR 0 rfl
 refine enter Tryz.func176 rfl rfl (Nat.le_of_ble_eq_true rfl) (c_seq (c_reg (s_1 rfl (s_nil (q_then ?_)))))
 replace H : Hd _ _ _ [] [rsl kPair (.slice A1 xs.length c2) xs] := H
 refine c_seq (c_reg (s_1 rfl (sc (clone_ok (.slice A1 xs.length c2) xs (by first | omega | decide)) H (lR 0 rfl l0) rfl rfl (e_fn kn123 rfl rfl) ?_)))
 rintro v6 _ w rfl H
 replace H := H.h1 (A := osl kPair v6 xs)
 refine s_1 rfl (s_nil (q_then (c_seq (c_reg (s_1 rfl (sc (sortStable_ok v6 xs  (by omega)) H l0 rfl rfl (e_fn kn208 rfl rfl) ?_))))))
 rintro _ _ w ⟨ys7, rfl, hv8⟩ H
 replace H := H.h1 (A := osl kPair v6 ys7)
 refine s_nil (q_then (c_seq (c_reg (s_k 2 rfl (s_nil (q_then (c_ret (q_ret1 rfl rfl ?_))))))))
 subst hv8
 exact fin rfl H
theorem isSorted_ok (v : Value) (xs : List Pair) (hb : xs.length ≤ 1000000) :
    Cn Tryz.prog 251 [v, .func (.func 209) #[] #[]] [] [rsl kPair v xs] (fun v Bs => v = .bool (decide (Ord xs)) ∧ Bs = []) := by
 intro w0 F0 H
 obtain ⟨A1, c2, rfl, hc3, hm4, hp5⟩ := H.fR 0 rfl
 refine enter Tryz.func251 rfl rfl (Nat.le_of_ble_eq_true rfl) (c_seq (c_reg (s_1 rfl (s_nil (q_then ?_)))))
 replace H : Hd _ _ _ [] [rsl kPair (.slice A1 xs.length c2) xs] := H
 refine c_seq (c_seq ?_)
 by_cases h0 : xs.length = 0
 ·refine c_reg (s_1 rfl (s_val rfl rfl (r_lenL rfl un35 rfl) (s_val rfl rfl (r_sub (z := ((xs.length : Nat) : Int) - 1) rfl rfl rfl (w64 (by omega) (by omega))) (s_1 rfl (s_nil (q_then (c_block (c_loop (σ := Unit) (fun u => [(0, .slice A1 xs.length c2), (1, .func (.func 209) #[] #[]), (5, .int .i64 (((xs.length : Nat) : Int) - 1))]) (fun u w => (Hd w0 F0 w [] [rsl kPair (.slice A1 xs.length c2) xs])) (fun u => 0) () ⟨rfl, rfl, rfl, trivial⟩ H ?_))))))))
  rintro u w H
  refine c_seq (c_seq (c_reg (s_1 rfl (s_val rfl rfl (r_gt rfl rfl rfl) (s_nil (q_then ?_))))))
  refine c_dec rfl (fun h6 => ?_) (fun h6 => ?_)
  ·exfalso; omega
  refine c_exit (q_thenE (q_thenE (q_blockE (q_then (c_seq (c_reg (s_1 rfl (s_nil (q_then (c_ret (q_ret1 rfl rfl ?_)))))))))))
  have ho : Ord xs := by rw [List.eq_nil_of_length_eq_zero h0]; exact List.Pairwise.nil
  exact fin ⟨by rw [decide_eq_true ho] <;> rfl, rfl⟩ H
 refine c_reg (s_1 rfl (s_val rfl rfl (r_lenL rfl un35 rfl) (s_val rfl rfl (r_sub (z := ((xs.length - 1 : Nat) : Int)) rfl rfl rfl (by rw [w64 (by omega) (by omega)]; omega)) (s_1 rfl (s_nil (q_then (c_block (c_loop (σ := Nat) (fun j => [(0, .slice A1 xs.length c2), (1, .func (.func 209) #[] #[]), (5, .int .i64 ((j : Nat) : Int))]) (fun j w => (Hd w0 F0 w [] [rsl kPair (.slice A1 xs.length c2) xs]) ∧ (j < xs.length) ∧ (AdjI xs j)) (fun j => j) (xs.length - 1) ⟨rfl, rfl, rfl, trivial⟩ ⟨H, by (try dsimp only); omega, adj_end xs⟩ ?_))))))))
 rintro j w ⟨H, hj, had⟩
 refine c_seq (c_seq (c_reg (s_1 rfl (s_val rfl rfl (r_gt rfl rfl rfl) (s_nil (q_then ?_))))))
 refine c_dec rfl (fun h7 => ?_) (fun h7 => ?_)
 ·refine c_skip (q_then (c_seq (c_block (c_seq (c_ord (.e 0 (.e 1 (.e 2 (.e 3 (.e 4 (.e 5 (.e 6 (.e 7 (.e 8 (.e 9 (.m 10 (.e 11 .z)))))))))))) (fun w => ∃ Ar, Hd w0 F0 w (Ar) [rsl kPair (.slice A1 xs.length c2) xs]) mo (by kernel_rfl) (fun w H => ⟨_, H⟩) H (fun w H => (d_1 rfl (d_1 rfl (d_1 rfl ?_)))))))))
  obtain ⟨x8, hx9⟩ : ∃ z9, xs[j]? = some z9 := ⟨_, List.getElem?_eq_getElem (show j < xs.length by omega)⟩
  have th10 := H.thR 0 rfl hx9
  refine d_val rfl rfl rfl (fun w ⟨Ar, H⟩ => r_iaE (p := oOf A1 + j * 2) rfl sl35 rfl rfl (by omega) (by omega) th10 rfl) (d_val rfl rfl rfl (fun w ⟨Ar, H⟩ => r_ldA (cs := [.string x8.key, .string x8.val]) rfl ty106 rfl rfl (H.elsR 0 rfl hx9 rfl)) (d_1 rfl (d_1 rfl (d_val rfl rfl rfl (fun w ⟨Ar, H⟩ => r_sub (z := ((j - 1 : Nat) : Int)) rfl rfl rfl (by rw [w64 (by omega) (by omega)]; omega)) ?_))))
  obtain ⟨x11, hx12⟩ : ∃ z9, xs[j - 1]? = some z9 := ⟨_, List.getElem?_eq_getElem (show j - 1 < xs.length by omega)⟩
  have th13 := H.thR 0 rfl hx12
  refine d_val rfl rfl rfl (fun w ⟨Ar, H⟩ => r_iaE (p := oOf A1 + (j - 1) * 2) rfl sl35 rfl rfl (by omega) (by omega) th13 rfl) (d_val rfl rfl rfl (fun w ⟨Ar, H⟩ => r_ldA (cs := [.string x11.key, .string x11.val]) rfl ty106 rfl rfl (H.elsR 0 rfl hx12 rfl)) (d_main rfl (sc (order_ok x8 x11) H l0 rfl rfl (e_val (vs := [.agg #[.string x8.key, .string x8.val], .agg #[.string x11.key, .string x11.val]]) (fs := #[]) (cs := #[]) kn209 rfl rfl rfl) ?_)))
  rintro _ _ w ⟨rfl, rfl⟩ H
  refine d_back ⟨_, H⟩ (d_val rfl rfl rfl (fun w ⟨Ar, H⟩ => r_lt rfl rfl rfl) (d_nil (q_then ?_)))
  refine c_dec rfl (fun h14 => ?_) (fun h14 => ?_)
  ·refine c_seq (c_reg (s_1 rfl (s_nil (q_then (c_ret (q_blockR (q_thenR (q_thenR (q_blockR (q_thenR (q_ret1 rfl rfl ?_)))))))))))
   have ho : ¬ Ord xs := fun ho => by have := ord_adj ho (by omega) hx9 hx12; rw [cmpK_neg.1 h14] at this; cases this
   exact fin ⟨by rw [decide_eq_false ho] <;> rfl, rfl⟩ H
  exact c_skip (q_blockN (q_then (c_reg (s_1 rfl (s_val rfl rfl (r_sub (z := ((j - 1 : Nat) : Int)) rfl rfl rfl (by rw [w64 (by omega) (by omega)]; omega)) (s_1 rfl (s_nil (q_round (s := j) (j - 1) ⟨rfl, rfl, rfl, trivial⟩ ⟨H, by (try dsimp only); omega, adj_more had (by omega) hx9 hx12 (cmpK_nneg h14)⟩ (by (try dsimp only); omega)))))))))
 refine c_exit (q_thenE (q_thenE (q_blockE (q_then (c_seq (c_reg (s_1 rfl (s_nil (q_then (c_ret (q_ret1 rfl rfl ?_)))))))))))
 have ho : Ord xs := adj_ord ((by omega : j = 0) ▸ had)
 exact fin ⟨by rw [decide_eq_true ho] <;> rfl, rfl⟩ H
theorem sorted_ok (vxs : Value) (xs : List Pair) (hb : xs.length ≤ 1000000) :
    Cn Tryz.prog 218 [vxs] [] [rsl kPair vxs xs] (fun v Bs => v = .bool (decide (Ord xs)) ∧ Bs = []) := by
 intro w0 F0 H
 obtain ⟨A1, c2, rfl, hc3, hm4, hp5⟩ := H.fR 0 rfl
 refine enter Tryz.func218 rfl rfl (Nat.le_of_ble_eq_true rfl) (c_seq (c_reg (s_1 rfl (s_nil (q_then ?_)))))
 replace H : Hd _ _ _ [] [rsl kPair (.slice A1 xs.length c2) xs] := H
 refine c_seq (c_reg (s_1 rfl (sc (isSorted_ok (.slice A1 xs.length c2) xs (by omega)) H (lR 0 rfl l0) rfl rfl (e_fn kn251 rfl rfl) ?_)))
 rintro _ _ w ⟨rfl, rfl⟩ H
 exact s_1 rfl (s_nil (q_then (c_ret (q_ret1 rfl rfl (fin ⟨rfl, rfl⟩ H)))))
theorem sortInt_ok (v : Value) (xs : List Int) (hb : xs.length ≤ 1000000) : Cn Tryz.prog 155 [v] [osl (kInt .i64) v xs] [] (fun _ Bs => Bs = [osl (kInt .i64) v (sortI xs)]) :=
 cn_sort (e1 := Value.int .i64) (s := sortI) (fun xs => by simp [sortI]) (by simp [sortI]) (fun p c w => Go.Proofs.Tryz.slices_Sort_int_none p c w) (fun b c xs w hH hbl hl => Go.Proofs.Tryz.slices_Sort_int b 0 c xs w hH hbl (by omega)) v xs hb
theorem compInt_ok (v : Value) (xs : List Int) (hb : xs.length ≤ 1000000) : Cn Tryz.prog 156 [v] [osl (kInt .i64) v xs] [] (fun u Bs => Bs = [osl (kInt .i64) u (Lib.compact xs)]) :=
 cn_compact (e1 := Value.int .i64) (s := Lib.compact) (z := 0) compact_le rfl (fun p c w => Go.Proofs.Tryz.slices_Compact_int_empty p c w) (fun b c xs w hH hl hc => Go.Proofs.Tryz.slices_Compact_int b 0 c xs w hH (by omega) hc) v xs hb
theorem sortStr_ok (v : Value) (xs : List ByteArray) (hb : xs.length ≤ 1000000) : Cn Tryz.prog 246 [v] [osl kStr v xs] [] (fun _ Bs => Bs = [osl kStr v (sortS xs)]) :=
 cn_sort (e1 := Value.string) (s := sortS) (fun xs => by simp [sortS]) (by simp [sortS]) (fun p c w => Go.Proofs.Tryz.slices_Sort_string_none p c w) (fun b c xs w hH hbl hl => by
  have h := Go.Proofs.Tryz.slices_Sort_string b 0 c (xs.map ofS) w (holdsS hH) hbl (by simp; omega)
  rw [List.length_map] at h
  refine h.mono ?_
  rintro e w' ⟨h1, n, os, h2⟩
  exact ⟨h1, n, os, by rw [h2, putS]; rfl⟩) v xs hb
theorem compStr_ok (v : Value) (xs : List ByteArray) (hb : xs.length ≤ 1000000) : Cn Tryz.prog 247 [v] [osl kStr v xs] [] (fun u Bs => Bs = [osl kStr u (compS xs)]) :=
 cn_compact (e1 := Value.string) (s := compS) (z := toS []) (fun xs => by have := compact_le (xs.map ofS); simpa [compS] using this) rfl (fun p c w => Go.Proofs.Tryz.slices_Compact_string_empty p c w) (fun b c xs w hH hl hc => by
  have h := Go.Proofs.Tryz.slices_Compact_string b 0 c (xs.map ofS) w (holdsS hH) (by simp; omega) (by simpa using hc)
  rw [List.length_map] at h
  refine h.mono ?_
  rintro e w' ⟨h1, n, h2⟩
  exact ⟨by rw [h1]; simp [compS], n, by rw [h2, putS]; simp [compS]⟩) v xs hb
end Go.Proofs.YthgehekecfpikaaGreatDoor.X
