/- ReducerNone: texts N4, XOrd, N5, XRecO, XTwo, XOkR, XRedL, XRedO, XAct, L1, XCat, S1, S2, N7, joined by a program of ours; what nothing names is left out. -/
import Derived.Test.YthgehekecfpikaaGreatDoorReducerNoneQ4
import Derived.KernelRfl
set_option linter.unusedVariables false
set_option linter.unusedSimpArgs false
set_option maxHeartbeats 8000000
namespace Go.Proofs.YthgehekecfpikaaGreatDoor.X
open Go
theorem redNew_ok (vS : Value) (vM : Value) (vC : Value) (vR : Value) (vK : Value) (C : Cf) (p : Int) (ep : Int) (vr : Value) (recs : List Rec) (hC : mayC C) (hp : In64 p) (he : In64 ep) (hgo : homeC C p ≠ 0 ∧ 1 ≤ ep) (hrs : ∀ r ∈ recs, (In64 r.sp ∧ r.set.length ≤ 1000) ∧ r.pairs.length ≤ 1000) (hrl : recs.length ≤ 100000) :
    Cn Tryz.prog 56 [.agg #[vS, .int .i64 C.J.parts, vM, vC, vR, .int .i64 C.J.chunk, .int .i64 C.J.window, .int .i64 C.J.fuel, vK, .int .i64 C.w, .int .i64 C.t, .int .i64 C.o], .int .i64 p, .int .i64 ep, vr] [] [rsl (kHd kPair) vS C.J.us, rsl kIns vM C.J.map, rsl kIns vC C.J.comb, rsl kIns vR C.J.red, rsl (kInt .i64) vK C.J.marks, rsl kRec vr recs] (fun v Bs => ∃ r : Nat, ∃ vS2 : Value, ∃ vM2 : Value, ∃ vC2 : Value, ∃ vR2 : Value, ∃ vK2 : Value, ∃ J2 : Job, ∃ hv : Nat → Value, ∃ sb : Nat, ∃ vs : Value, ∃ us : List (Value × List Int), v = .tuple #[.pointer (some ⟨r, 0, none⟩), .int .i64 0] ∧ Bs = [blk r (redC vS2 vM2 vC2 vR2 vK2 J2 C.w C.t C.o p ep ((newR J2.us.length p ep (recs.map Rec.p)).g) hv sb vs) 185, osl (kHd kPair) vS2 J2.us, osl kIns vM2 J2.map, osl kIns vC2 J2.comb, osl kIns vR2 J2.red, osl (kInt .i64) vK2 J2.marks, prsS ((newR J2.us.length p ep (recs.map Rec.p)).g) hv, osl (kHd (kInt .i64)) vs us, stgI 253 sb ([])] ∧ (SameJ J2 C.J) ∧ (us.map (·.2) = (newR J2.us.length p ep (recs.map Rec.p)).sets)) := by
 intro w0 F0 H
 obtain ⟨A1, c2, rfl, hc3, hm4, hp5⟩ := H.fR 0 rfl
 obtain ⟨A6, c7, rfl, hc8, hm9, hp10⟩ := H.fR 1 rfl
 obtain ⟨A11, c12, rfl, hc13, hm14, hp15⟩ := H.fR 2 rfl
 obtain ⟨A16, c17, rfl, hc18, hm19, hp20⟩ := H.fR 3 rfl
 obtain ⟨A21, c22, rfl, hc23, hm24, hp25⟩ := H.fR 4 rfl
 obtain ⟨A26, c27, rfl, hc28, hm29, hp30⟩ := H.fR 5 rfl
 refine enter Tryz.func56 rfl rfl (Nat.le_of_ble_eq_true rfl) (c_seq (c_reg (s_box rfl rfl rfl rfl H (fun b31 w H => (s_k 2 rfl (s_nil (q_then ?_)))))))
 replace H : Hd _ _ _ [blk b31 [.slice A1 C.J.us.length c2, .int .i64 C.J.parts, .slice A6 C.J.map.length c7, .slice A11 C.J.comb.length c12, .slice A16 C.J.red.length c17, .int .i64 C.J.chunk, .int .i64 C.J.window, .int .i64 C.J.fuel, .slice A21 C.J.marks.length c22, .int .i64 C.w, .int .i64 C.t, .int .i64 C.o] 28] [rsl (kHd kPair) (.slice A1 C.J.us.length c2) C.J.us, rsl kIns (.slice A6 C.J.map.length c7) C.J.map, rsl kIns (.slice A11 C.J.comb.length c12) C.J.comb, rsl kIns (.slice A16 C.J.red.length c17) C.J.red, rsl (kInt .i64) (.slice A21 C.J.marks.length c22) C.J.marks, rsl kRec (.slice A26 recs.length c27) recs] := H
 refine c_seq (c_seq (c_reg (s_val rfl rfl (r_ldA (cs := [.slice A1 C.J.us.length c2, .int .i64 C.J.parts, .slice A6 C.J.map.length c7, .slice A11 C.J.comb.length c12, .slice A16 C.J.red.length c17, .int .i64 C.J.chunk, .int .i64 C.J.window, .int .i64 C.J.fuel, .slice A21 C.J.marks.length c22, .int .i64 C.w, .int .i64 C.t, .int .i64 C.o]) rfl ty28 rfl rfl (H.cellsI 0 rfl rfl)) (s_1 rfl (sc (home_ok (.slice A1 C.J.us.length c2) (.slice A6 C.J.map.length c7) (.slice A11 C.J.comb.length c12) (.slice A16 C.J.red.length c17) (.slice A21 C.J.marks.length c22) C p (by first | assumption | omega)) H (lR 0 rfl (lR 1 rfl (lR 2 rfl (lR 3 rfl (lR 4 rfl l0))))) rfl rfl (e_fn kn71 rfl rfl) ?_)))))
 rintro _ _ w ⟨rfl, rfl⟩ H
 refine s_val rfl rfl (r_eq rfl rfl rfl) (s_1 rfl ?_)
 refine s_dec (d := 18) rfl (fun h32 => ?_) (fun h32 => ?_)
 ·exact (hgo.1 h32).elim
 refine s_1 rfl (s_val rfl rfl (r_lt rfl rfl rfl) (s_1 rfl (s_nil (q_then ?_))))
 replace H : Hd _ _ _ [blk b31 [.slice A1 C.J.us.length c2, .int .i64 C.J.parts, .slice A6 C.J.map.length c7, .slice A11 C.J.comb.length c12, .slice A16 C.J.red.length c17, .int .i64 C.J.chunk, .int .i64 C.J.window, .int .i64 C.J.fuel, .slice A21 C.J.marks.length c22, .int .i64 C.w, .int .i64 C.t, .int .i64 C.o] 28] [rsl (kHd kPair) (.slice A1 C.J.us.length c2) C.J.us, rsl kIns (.slice A6 C.J.map.length c7) C.J.map, rsl kIns (.slice A11 C.J.comb.length c12) C.J.comb, rsl kIns (.slice A16 C.J.red.length c17) C.J.red, rsl (kInt .i64) (.slice A21 C.J.marks.length c22) C.J.marks, rsl kRec (.slice A26 recs.length c27) recs] := H
 refine c_dec rfl (fun h33 => ?_) (fun h33 => ?_)
 ·exfalso; omega
 refine c_skip (q_then (c_seq (c_reg (s_val rfl rfl (r_ldA (cs := [.slice A1 C.J.us.length c2, .int .i64 C.J.parts, .slice A6 C.J.map.length c7, .slice A11 C.J.comb.length c12, .slice A16 C.J.red.length c17, .int .i64 C.J.chunk, .int .i64 C.J.window, .int .i64 C.J.fuel, .slice A21 C.J.marks.length c22, .int .i64 C.w, .int .i64 C.t, .int .i64 C.o]) rfl ty28 rfl rfl (H.cellsI 0 rfl rfl)) (sc (own_ok (.slice A1 C.J.us.length c2) (.slice A6 C.J.map.length c7) (.slice A11 C.J.comb.length c12) (.slice A16 C.J.red.length c17) (.slice A21 C.J.marks.length c22) C (by first | assumption | omega)) H (lR 0 rfl (lR 1 rfl (lR 2 rfl (lR 3 rfl (lR 4 rfl l0))))) rfl rfl (e_fn kn94 rfl rfl) ?_)))))
 rintro _ _ w ⟨J34, vS35, vM36, vC37, vR38, vK39, rfl, rfl, hf40⟩ H
 replace H := H.h5 (A := osl (kHd kPair) vS35 J34.us) (B := osl kIns vM36 J34.map) (C := osl kIns vC37 J34.comb) (D := osl kIns vR38 J34.red) (E := osl (kInt .i64) vK39 J34.marks)
 have hsj := hf40
 refine s_k 2 rfl (sc (stNew_ok) H l0 rfl rfl (e_fn kn128 rfl rfl) ?_)
 rintro _ _ w ⟨b41, rfl, rfl⟩ H
 obtain ⟨A42, c43, rfl, hc44, hm45, hp46⟩ := H.fA 1 rfl
 obtain ⟨A47, c48, rfl, hc49, hm50, hp51⟩ := H.fA 2 rfl
 obtain ⟨A52, c53, rfl, hc54, hm55, hp56⟩ := H.fA 3 rfl
 obtain ⟨A57, c58, rfl, hc59, hm60, hp61⟩ := H.fA 4 rfl
 obtain ⟨A62, c63, rfl, hc64, hm65, hp66⟩ := H.fA 5 rfl
 refine s_val rfl rfl (r_bd (parts := [(0, .tmp 23), (1, .tmp 24), (2, .tmp 25), (4, .tmp 26)]) (vs := [.agg #[.slice A42 J34.us.length c43, .int .i64 J34.parts, .slice A47 J34.map.length c48, .slice A52 J34.comb.length c53, .slice A57 J34.red.length c58, .int .i64 J34.chunk, .int .i64 J34.window, .int .i64 J34.fuel, .slice A62 J34.marks.length c63, .int .i64 C.w, .int .i64 C.t, .int .i64 C.o], .int .i64 p, .int .i64 ep, .pointer (some ⟨b41, 0, none⟩)]) (cs := [.slice A42 J34.us.length c43, .int .i64 J34.parts, .slice A47 J34.map.length c48, .slice A52 J34.comb.length c53, .slice A57 J34.red.length c58, .int .i64 J34.chunk, .int .i64 J34.window, .int .i64 J34.fuel, .slice A62 J34.marks.length c63, .int .i64 C.w, .int .i64 C.t, .int .i64 C.o, .int .i64 p, .int .i64 ep, .bool false, .slice none 0 0, .bool false, .int .i64 0, .int .i64 0, .bool false, .slice none 0 0, .bool false, .int .i64 0, .int .i64 0, .bool false, .slice none 0 0, .bool false, .int .i64 0, .int .i64 0, .bool false, .slice none 0 0, .bool false, .int .i64 0, .int .i64 0, .bool false, .slice none 0 0, .bool false, .int .i64 0, .int .i64 0, .bool false, .slice none 0 0, .bool false, .int .i64 0, .int .i64 0, .pointer (some ⟨b41, 0, none⟩), .slice none 0 0]) rfl bd185 rfl rfl) ?_
 refine s_box rfl rfl rfl rfl H (fun b67 w H => (s_1 rfl (s_nil (q_then ?_))))
 replace H : Hd _ _ _ [blk b67 [.slice A42 J34.us.length c43, .int .i64 J34.parts, .slice A47 J34.map.length c48, .slice A52 J34.comb.length c53, .slice A57 J34.red.length c58, .int .i64 J34.chunk, .int .i64 J34.window, .int .i64 J34.fuel, .slice A62 J34.marks.length c63, .int .i64 C.w, .int .i64 C.t, .int .i64 C.o, .int .i64 p, .int .i64 ep, .bool false, .slice none 0 0, .bool false, .int .i64 0, .int .i64 0, .bool false, .slice none 0 0, .bool false, .int .i64 0, .int .i64 0, .bool false, .slice none 0 0, .bool false, .int .i64 0, .int .i64 0, .bool false, .slice none 0 0, .bool false, .int .i64 0, .int .i64 0, .bool false, .slice none 0 0, .bool false, .int .i64 0, .int .i64 0, .bool false, .slice none 0 0, .bool false, .int .i64 0, .int .i64 0, .pointer (some ⟨b41, 0, none⟩), .slice none 0 0] 185, stgI 253 b41 ([]), osl (kHd kPair) (.slice A42 J34.us.length c43) J34.us, osl kIns (.slice A47 J34.map.length c48) J34.map, osl kIns (.slice A52 J34.comb.length c53) J34.comb, osl kIns (.slice A57 J34.red.length c58) J34.red, osl (kInt .i64) (.slice A62 J34.marks.length c63) J34.marks, blk b31 [.slice A1 C.J.us.length c2, .int .i64 C.J.parts, .slice A6 C.J.map.length c7, .slice A11 C.J.comb.length c12, .slice A16 C.J.red.length c17, .int .i64 C.J.chunk, .int .i64 C.J.window, .int .i64 C.J.fuel, .slice A21 C.J.marks.length c22, .int .i64 C.w, .int .i64 C.t, .int .i64 C.o] 28] [rsl (kHd kPair) (.slice A1 C.J.us.length c2) C.J.us, rsl kIns (.slice A6 C.J.map.length c7) C.J.map, rsl kIns (.slice A11 C.J.comb.length c12) C.J.comb, rsl kIns (.slice A16 C.J.red.length c17) C.J.red, rsl (kInt .i64) (.slice A21 C.J.marks.length c22) C.J.marks, rsl kRec (.slice A26 recs.length c27) recs] := H
 refine c_seq (c_seq ?_)
 have hlen : J34.us.length ≤ 6 := by have := hC.1.1; have := hsj.len; omega
 replace H := (H.newnil (kHd (kInt .i64))).prsN
 replace H := H.h2 (A := prsS ((red0 p ep).g) (fun _ => .slice none 0 0)) (B := osl (kHd (kInt .i64)) (.slice none 0 0) []) |>.p8 |>.p8 |>.p8 |>.p8 |>.p8 |>.p7 |>.k9 |>.h1 (A := blk b67 (redC (.slice A42 J34.us.length c43) (.slice A47 J34.map.length c48) (.slice A52 J34.comb.length c53) (.slice A57 J34.red.length c58) (.slice A62 J34.marks.length c63) J34 C.w C.t C.o p ep ((red0 p ep).g) (fun _ => .slice none 0 0) b41 (.slice none 0 0)) 185)
 refine c_reg (s_1 rfl (s_val rfl rfl (r_lenL rfl un29 rfl) (s_1 rfl (s_nil (q_then (c_block (c_loop (σ := Nat × Red × (Nat → Value) × Value × List (Value × List Int)) (fun (k, R, hv, vs, us) => [(1, .int .i64 p), (8, .pointer none), (9, .int .i64 0), (10, .pointer (some ⟨b67, 0, none⟩)), (29, .slice A26 recs.length c27), (30, .int .i64 ((recs.length : Nat) : Int)), (31, .int .i64 ((k : Nat) : Int))]) (fun (k, R, hv, vs, us) w => (Hd w0 F0 w [blk b67 (redC (.slice A42 J34.us.length c43) (.slice A47 J34.map.length c48) (.slice A52 J34.comb.length c53) (.slice A57 J34.red.length c58) (.slice A62 J34.marks.length c63) J34 C.w C.t C.o p ep R.g hv b41 vs) 185, osl (kHd kPair) (.slice A42 J34.us.length c43) J34.us, osl kIns (.slice A47 J34.map.length c48) J34.map, osl kIns (.slice A52 J34.comb.length c53) J34.comb, osl kIns (.slice A57 J34.red.length c58) J34.red, osl (kInt .i64) (.slice A62 J34.marks.length c63) J34.marks, prsS (R.g) hv, osl (kHd (kInt .i64)) vs us, stgI 253 b41 ([])] [rsl (kHd kPair) (.slice A1 C.J.us.length c2) C.J.us, rsl kIns (.slice A6 C.J.map.length c7) C.J.map, rsl kIns (.slice A11 C.J.comb.length c12) C.J.comb, rsl kIns (.slice A16 C.J.red.length c17) C.J.red, rsl (kInt .i64) (.slice A21 C.J.marks.length c22) C.J.marks, rsl kRec (.slice A26 recs.length c27) recs]) ∧ (R = newR J34.us.length p ep ((recs.take k).map Rec.p)) ∧ (R.part = p) ∧ (us.map (·.2) = R.sets) ∧ (k ≤ recs.length) ∧ (us.length ≤ k)) (fun (k, R, hv, vs, us) => recs.length - k) (0, red0 p ep, (fun _ => .slice none 0 0), .slice none 0 0, []) ⟨rfl, rfl, rfl, rfl, rfl, rfl, rfl, trivial⟩ ⟨H, rfl, rfl, rfl, Nat.zero_le _, Nat.le_refl _⟩ ?_)))))))
 rintro ⟨k, R, hv, vs, us⟩ w ⟨H, hR, hRp, hus, hk, hul⟩
 refine c_seq (c_reg (s_val rfl rfl (r_lt rfl rfl rfl) (s_nil (q_then (c_seq ?_)))))
 refine c_dec rfl (fun h68 => ?_) (fun h68 => ?_)
 ·refine c_skip (q_then (c_seq (c_block (c_seq ?_))))
  obtain ⟨⟨a71, a72, a73, a74, a75, sv76, se77, pv78, pr79⟩, hx70⟩ : ∃ z9, recs[k]? = some z9 := ⟨_, List.getElem?_eq_getElem (show k < recs.length by omega)⟩
  obtain ⟨A80, c81, A82, c83, rfl, rfl, m84, m85, m86, m87⟩ := H.nestRr 5 rfl hx70
  have hr1 := hrs _ (at_mem hx70)
  unfold In64 at hr1
  dsimp only at hr1
  refine c_reg ?_
  have th88 := H.thRr 5 rfl hx70
  refine s_val rfl rfl (r_iaE (p := oOf A26 + k * 7) rfl sl29 rfl rfl (by omega) (by omega) th88 rfl) (s_val rfl rfl (r_ldA (cs := [.int .i64 a71, .int .i64 a72, .int .i64 a73, .int .i64 a74, .int .i64 a75, .slice A80 se77.length c81, .slice A82 pr79.length c83]) rfl ty37 rfl rfl (H.elsRr 5 rfl hx70 rfl)) (s_alloc rfl rfl rfl zr37 H (fun b89 w H => (s_st rfl rfl rfl ty37 rfl rfl H rfl (Nat.le_of_ble_eq_true rfl) (fun u hu => by simp [Value.cells] at hu; rcases hu with rfl | rfl | rfl | rfl | rfl | rfl | rfl <;> rfl) (fun w H => ?_)))))
  replace H : Hd _ _ _ [blk b89 [.int .i64 a71, .int .i64 a72, .int .i64 a73, .int .i64 a74, .int .i64 a75, .slice A80 se77.length c81, .slice A82 pr79.length c83] 37, blk b67 (redC (.slice A42 J34.us.length c43) (.slice A47 J34.map.length c48) (.slice A52 J34.comb.length c53) (.slice A57 J34.red.length c58) (.slice A62 J34.marks.length c63) J34 C.w C.t C.o p ep R.g hv b41 vs) 185, osl (kHd kPair) (.slice A42 J34.us.length c43) J34.us, osl kIns (.slice A47 J34.map.length c48) J34.map, osl kIns (.slice A52 J34.comb.length c53) J34.comb, osl kIns (.slice A57 J34.red.length c58) J34.red, osl (kInt .i64) (.slice A62 J34.marks.length c63) J34.marks, prsS (R.g) hv, osl (kHd (kInt .i64)) vs us, stgI 253 b41 ([])] [rsl (kHd kPair) (.slice A1 C.J.us.length c2) C.J.us, rsl kIns (.slice A6 C.J.map.length c7) C.J.map, rsl kIns (.slice A11 C.J.comb.length c12) C.J.comb, rsl kIns (.slice A16 C.J.red.length c17) C.J.red, rsl (kInt .i64) (.slice A21 C.J.marks.length c22) C.J.marks, rsl kRec (.slice A26 recs.length c27) recs] := H
  refine s_nil (q_then (c_seq (c_seq (c_reg (s_val rfl rfl (r_fa rfl fo37_1 rfl) (s_val rfl rfl (r_ld rfl ty3 rfl (H.cellI 0 rfl rfl)) (s_1 rfl (s_val rfl rfl (r_ne rfl rfl rfl) (s_nil (q_then ?_))))))))))
  refine c_dec rfl (fun h90 => ?_) (fun h90 => ?_)
  ·refine c_exit (q_thenE (q_blockE (q_then (c_reg (s_val rfl rfl (r_add (z := ((k + 1 : Nat) : Int)) rfl rfl rfl (by rw [w64 (by omega) (by omega)]; omega)) (s_1 rfl (s_nil ?_)))))))
   have hpart : (Rec.p (⟨a71, a72, a73, a74, a75, .slice A80 se77.length c81, se77, .slice A82 pr79.length c83, pr79⟩ : Rec)).part ≠ R.part := by rw [hRp]; exact h90
   have hR2 := newR_take hR hx70 (recIn_skip hpart)
   replace H := H.p9.p9.p9.p9.p9.p9.p9.p9.p9.k9
   exact q_round (s := (k, R, hv, undef, us)) (k + 1, R, hv, vs, us) ⟨rfl, rfl, rfl, rfl, rfl, rfl, rfl, trivial⟩ ⟨H, hR2, hRp, by (try dsimp only); exact hus, by (try dsimp only); omega, by (try dsimp only); omega⟩ (by (try dsimp only); omega)
  refine c_skip (q_then (c_seq (c_seq ?_)))
  by_cases hin91 : 0 ≤ a73 ∧ a73 < ((J34.us.length : Nat) : Int)
  ·refine c_reg (s_1 rfl (s_val rfl rfl (r_fa rfl fo37_2 rfl) (s_val rfl rfl (r_ld rfl ty3 rfl (H.cellI 0 rfl rfl)) (sc (at_ok b67 A42 J34.us.length c43 (.slice A47 J34.map.length c48) (.slice A52 J34.comb.length c53) (.slice A57 J34.red.length c58) (.slice A62 J34.marks.length c63) J34 C.w C.t C.o p ep R.g hv b41 vs a73 (by first | assumption | omega) (by first | assumption | omega)) H (lA 1 rfl (fun _ h => h) l0) rfl rfl (e_fn kn118 rfl rfl) ?_))))
   rintro _ _ w ⟨rfl, rfl⟩ H
   refine s_1 rfl (s_nil (q_then (c_seq (c_reg (s_val rfl rfl (r_fa rfl fo37_0 rfl) (s_val rfl rfl (r_ld rfl ty3 rfl (H.cellI 0 rfl rfl)) (s_val rfl rfl (r_eq rfl rfl rfl) (s_1 rfl ?_))))))))
   refine s_dec (d := 46) rfl (fun h92 => ?_) (fun h92 => ?_)
   ·refine s_1 rfl (s_val rfl rfl (r_pne rfl un178 rfl rfl) (s_k 3 rfl (s_val rfl rfl (r_nilP rfl rfl) (s_val rfl rfl (r_fa rfl fo181_0 rfl) (s_val rfl rfl (r_ld rfl ty4 rfl (H.cellI 1 rfl (redC_at0 (by omega)))) (s_val rfl rfl (r_not rfl rfl rfl) (s_1 rfl (s_nil (q_then ?_)))))))))
    refine c_cond (b := !((R.g ((a73).toNat)).merged)) rfl (fun h93 => ?_) (fun h93 => ?_)
    ·refine c_reg (s_k 2 rfl (s_val rfl rfl (r_fa rfl fo37_6 rfl) (s_val rfl rfl (r_ld rfl ty35 rfl (H.cellI 0 rfl rfl)) (sc (clone_ok (.slice A82 pr79.length c83) pr79 (by first | assumption | omega)) H (lX (fun F hA hR => rec_pairs (hR _ (List.mem_of_getElem? (i := 5) rfl)) hx70) l0) rfl rfl (e_fn kn123 rfl rfl) ?_))))
     rintro v94 _ w rfl H
     refine s_val rfl rfl (r_nilP rfl rfl) (s_val rfl rfl (r_fa rfl fo181_0 rfl) ?_)
     replace H := H.p2
     refine s_st rfl rfl rfl ty4 rfl rfl H rfl (by show 14 + ((a73).toNat) * 5 + 0 + 1 ≤ 46; omega) (fun u hu => by simp [Value.cells] at hu; subst hu; rfl) (fun w H => ?_)
     replace H : Hd w0 F0 w [blk b67 (redC (.slice A42 J34.us.length c43) (.slice A47 J34.map.length c48) (.slice A52 J34.comb.length c53) (.slice A57 J34.red.length c58) (.slice A62 J34.marks.length c63) J34 C.w C.t C.o p ep (setD R.g ((a73).toNat) { R.g ((a73).toNat) with merged := true }) hv b41 vs) 185, osl kPair v94 pr79, blk b89 [.int .i64 a71, .int .i64 a72, .int .i64 a73, .int .i64 a74, .int .i64 a75, .slice A80 se77.length c81, .slice A82 pr79.length c83] 37, osl (kHd kPair) (.slice A42 J34.us.length c43) J34.us, osl kIns (.slice A47 J34.map.length c48) J34.map, osl kIns (.slice A52 J34.comb.length c53) J34.comb, osl kIns (.slice A57 J34.red.length c58) J34.red, osl (kInt .i64) (.slice A62 J34.marks.length c63) J34.marks, prsS (R.g) hv, osl (kHd (kInt .i64)) vs us, stgI 253 b41 ([])] [rsl (kHd kPair) (.slice A1 C.J.us.length c2) C.J.us, rsl kIns (.slice A6 C.J.map.length c7) C.J.map, rsl kIns (.slice A11 C.J.comb.length c12) C.J.comb, rsl kIns (.slice A16 C.J.red.length c17) C.J.red, rsl (kInt .i64) (.slice A21 C.J.marks.length c22) C.J.marks, rsl kRec (.slice A26 recs.length c27) recs] := by rw [← redC_put0 (show (a73).toNat < 6 by omega) true]; exact H
     refine s_val rfl rfl (r_nilP rfl rfl) (s_val rfl rfl (r_fa rfl fo181_1 rfl) ?_)
     obtain ⟨A95, c96, rfl, hc97, hm98, hp99⟩ := H.fA 1 rfl
     refine s_st rfl rfl rfl ty35 rfl rfl H rfl (by show 14 + ((a73).toNat) * 5 + 1 + 1 ≤ 46; omega) (fun u hu => by simp [Value.cells] at hu; subst hu; rfl) (fun w H => ?_)
     replace H : Hd w0 F0 w [blk b67 (redC (.slice A42 J34.us.length c43) (.slice A47 J34.map.length c48) (.slice A52 J34.comb.length c53) (.slice A57 J34.red.length c58) (.slice A62 J34.marks.length c63) J34 C.w C.t C.o p ep (setD R.g ((a73).toNat) { R.g ((a73).toNat) with merged := true }) (setD hv ((a73).toNat) (.slice A95 pr79.length c96 : Value)) b41 vs) 185, osl kPair (.slice A95 pr79.length c96) pr79, blk b89 [.int .i64 a71, .int .i64 a72, .int .i64 a73, .int .i64 a74, .int .i64 a75, .slice A80 se77.length c81, .slice A82 pr79.length c83] 37, osl (kHd kPair) (.slice A42 J34.us.length c43) J34.us, osl kIns (.slice A47 J34.map.length c48) J34.map, osl kIns (.slice A52 J34.comb.length c53) J34.comb, osl kIns (.slice A57 J34.red.length c58) J34.red, osl (kInt .i64) (.slice A62 J34.marks.length c63) J34.marks, prsS (R.g) hv, osl (kHd (kInt .i64)) vs us, stgI 253 b41 ([])] [rsl (kHd kPair) (.slice A1 C.J.us.length c2) C.J.us, rsl kIns (.slice A6 C.J.map.length c7) C.J.map, rsl kIns (.slice A11 C.J.comb.length c12) C.J.comb, rsl kIns (.slice A16 C.J.red.length c17) C.J.red, rsl (kInt .i64) (.slice A21 C.J.marks.length c22) C.J.marks, rsl kRec (.slice A26 recs.length c27) recs] := by rw [← redC_put1 (show (a73).toNat < 6 by omega) (.slice A95 pr79.length c96 : Value)]; exact H
     refine s_nil (q_then (c_seq (c_reg (s_val rfl rfl (r_fa rfl fo37_0 rfl) (s_val rfl rfl (r_ld rfl ty3 rfl (H.cellI 2 rfl rfl)) (s_val rfl rfl (r_eq rfl rfl rfl) (s_nil (q_then ?_))))))))
     refine c_dec rfl (fun h100 => ?_) (fun h100 => ?_)
     ·exfalso; omega
     refine c_skip (q_blockN (q_then (c_reg (s_val rfl rfl (r_add (z := ((k + 1 : Nat) : Int)) rfl rfl rfl (by rw [w64 (by omega) (by omega)]; omega)) (s_1 rfl (s_nil ?_))))))
     have hpart : (Rec.p (⟨a71, a72, a73, a74, a75, .slice A80 se77.length c81, se77, .slice A82 pr79.length c83, pr79⟩ : Rec)).part = R.part := by rw [hRp]; exact Classical.not_not.1 h90
     replace H := H.pick 10 rfl |>.pick 10 rfl |>.p9 |>.p9 |>.p9 |>.p9 |>.p9 |>.p7 |>.pick 10 rfl |>.p9 |>.k10 |>.prsU (i := (a73).toNat) (x := ({ R.g (a73).toNat with merged := true, pairs := pr79 } : SpD)) (by omega)
     replace H : Hd w0 F0 w [prsS (({ R with g := setD R.g (a73).toNat ({ R.g (a73).toNat with merged := true, pairs := pr79 } : SpD) } : Red).g) (setD hv (a73).toNat (.slice A95 pr79.length c96 : Value)), blk b67 (redC (.slice A42 J34.us.length c43) (.slice A47 J34.map.length c48) (.slice A52 J34.comb.length c53) (.slice A57 J34.red.length c58) (.slice A62 J34.marks.length c63) J34 C.w C.t C.o p ep (({ R with g := setD R.g (a73).toNat ({ R.g (a73).toNat with merged := true, pairs := pr79 } : SpD) } : Red).g) (setD hv (a73).toNat (.slice A95 pr79.length c96 : Value)) b41 vs) 185, osl (kHd kPair) (.slice A42 J34.us.length c43) J34.us, osl kIns (.slice A47 J34.map.length c48) J34.map, osl kIns (.slice A52 J34.comb.length c53) J34.comb, osl kIns (.slice A57 J34.red.length c58) J34.red, osl (kInt .i64) (.slice A62 J34.marks.length c63) J34.marks, osl (kHd (kInt .i64)) vs us, stgI 253 b41 ([])] [rsl (kHd kPair) (.slice A1 C.J.us.length c2) C.J.us, rsl kIns (.slice A6 C.J.map.length c7) C.J.map, rsl kIns (.slice A11 C.J.comb.length c12) C.J.comb, rsl kIns (.slice A16 C.J.red.length c17) C.J.red, rsl (kInt .i64) (.slice A21 C.J.marks.length c22) C.J.marks, rsl kRec (.slice A26 recs.length c27) recs] := by
       rw [← redC_congr (g := setD R.g (a73).toNat { R.g (a73).toNat with merged := true }) (g' := ({ R with g := setD R.g (a73).toNat ({ R.g (a73).toNat with merged := true, pairs := pr79 } : SpD) } : Red).g) (fun j => by dsimp only; by_cases e : j = (a73).toNat <;> first | (subst e; rw [setD_self, setD_self]; exact ⟨rfl, rfl, rfl, rfl⟩) | (rw [setD_ne _ _ e, setD_ne _ _ e]; exact ⟨rfl, rfl, rfl, rfl⟩))]
       exact H
     have hR2 := newR_take hR hx70 (recIn_m hpart h92 hin91 (by simpa [Rec.p] using h93))
     replace H := H.sel 9 [1, 2, 3, 4, 5, 6, 0, 7, 8] [] rfl (by kernel_rfl)
     replace H : Hd _ _ _ [blk b67 (redC (.slice A42 J34.us.length c43) (.slice A47 J34.map.length c48) (.slice A52 J34.comb.length c53) (.slice A57 J34.red.length c58) (.slice A62 J34.marks.length c63) J34 C.w C.t C.o p ep (({ R with g := setD R.g (a73).toNat ({ R.g (a73).toNat with merged := true, pairs := pr79 } : SpD) } : Red).g) (setD hv (a73).toNat (.slice A95 pr79.length c96 : Value)) b41 vs) 185, osl (kHd kPair) (.slice A42 J34.us.length c43) J34.us, osl kIns (.slice A47 J34.map.length c48) J34.map, osl kIns (.slice A52 J34.comb.length c53) J34.comb, osl kIns (.slice A57 J34.red.length c58) J34.red, osl (kInt .i64) (.slice A62 J34.marks.length c63) J34.marks, prsS (({ R with g := setD R.g (a73).toNat ({ R.g (a73).toNat with merged := true, pairs := pr79 } : SpD) } : Red).g) (setD hv (a73).toNat (.slice A95 pr79.length c96 : Value)), osl (kHd (kInt .i64)) vs us, stgI 253 b41 ([])] [rsl (kHd kPair) (.slice A1 C.J.us.length c2) C.J.us, rsl kIns (.slice A6 C.J.map.length c7) C.J.map, rsl kIns (.slice A11 C.J.comb.length c12) C.J.comb, rsl kIns (.slice A16 C.J.red.length c17) C.J.red, rsl (kInt .i64) (.slice A21 C.J.marks.length c22) C.J.marks, rsl kRec (.slice A26 recs.length c27) recs] := H
     exact q_round (s := (k, R, hv, undef, us)) (k + 1, ({ R with g := setD R.g (a73).toNat ({ R.g (a73).toNat with merged := true, pairs := pr79 } : SpD) } : Red), setD hv (a73).toNat (.slice A95 pr79.length c96 : Value), vs, us) ⟨rfl, rfl, rfl, rfl, rfl, rfl, rfl, trivial⟩ ⟨H, hR2, hRp, by (try dsimp only); exact hus, by (try dsimp only); omega, by (try dsimp only); omega⟩ (by (try dsimp only); omega)
    refine c_skip (q_then (c_seq (c_reg (s_val rfl rfl (r_fa rfl fo37_0 rfl) (s_val rfl rfl (r_ld rfl ty3 rfl (H.cellI 0 rfl rfl)) (s_val rfl rfl (r_eq rfl rfl rfl) (s_nil (q_then ?_))))))))
    refine c_dec rfl (fun h101 => ?_) (fun h101 => ?_)
    ·exfalso; omega
    refine c_skip (q_blockN (q_then (c_reg (s_val rfl rfl (r_add (z := ((k + 1 : Nat) : Int)) rfl rfl rfl (by rw [w64 (by omega) (by omega)]; omega)) (s_1 rfl (s_nil ?_))))))
    have hpart : (Rec.p (⟨a71, a72, a73, a74, a75, .slice A80 se77.length c81, se77, .slice A82 pr79.length c83, pr79⟩ : Rec)).part = R.part := by rw [hRp]; exact Classical.not_not.1 h90
    have hR2 := newR_take hR hx70 (recIn_no hpart (fun h => by have h2 := h.2.2; have h3 := h93; dsimp only [Rec.p] at h2; rw [h2] at h3; exact absurd h3 (by decide)) h101)
    replace H := H.p9.p9.p9.p9.p9.p9.p9.p9.p9.k9
    exact q_round (s := (k, R, hv, undef, us)) (k + 1, R, hv, vs, us) ⟨rfl, rfl, rfl, rfl, rfl, rfl, rfl, trivial⟩ ⟨H, hR2, hRp, by (try dsimp only); exact hus, by (try dsimp only); omega, by (try dsimp only); omega⟩ (by (try dsimp only); omega)
   refine s_k 10 rfl (s_nil (q_then (c_no rfl (c_skip (q_then (c_seq (c_reg (s_val rfl rfl (r_fa rfl fo37_0 rfl) (s_val rfl rfl (r_ld rfl ty3 rfl (H.cellI 0 rfl rfl)) (s_val rfl rfl (r_eq rfl rfl rfl) (s_nil (q_then ?_))))))))))))
   refine c_dec rfl (fun h102 => ?_) (fun h102 => ?_)
   ·replace H := H.p9.p8.p8.p8.p8.p8.p8.p7
    refine c_ord (.e 0 (.e 1 (.e 2 (.e 3 (.e 5 (.e 6 (.b 4 7 (.m 7 (.m 8 (.m 9 (.e 10 (.e 11 (.m 12 .z)))))) (.b 4 8 (.m 8 (.m 9 (.e 10 (.e 11 (.m 12 .z))))) (.m 4 (.m 9 (.e 10 (.e 11 (.m 12 .z))))))))))))) (fun w => ∃ Ar, Hd w0 F0 w (blk b89 [.int .i64 a71, .int .i64 a72, .int .i64 a73, .int .i64 a74, .int .i64 a75, .slice A80 se77.length c81, .slice A82 pr79.length c83] 37 :: osl (kHd kPair) (.slice A42 J34.us.length c43) J34.us :: osl kIns (.slice A47 J34.map.length c48) J34.map :: osl kIns (.slice A52 J34.comb.length c53) J34.comb :: osl kIns (.slice A57 J34.red.length c58) J34.red :: osl (kInt .i64) (.slice A62 J34.marks.length c63) J34.marks :: prsS (R.g) hv :: stgI 253 b41 ([]) :: Ar) [rsl (kHd kPair) (.slice A1 C.J.us.length c2) C.J.us, rsl kIns (.slice A6 C.J.map.length c7) C.J.map, rsl kIns (.slice A11 C.J.comb.length c12) C.J.comb, rsl kIns (.slice A16 C.J.red.length c17) C.J.red, rsl (kInt .i64) (.slice A21 C.J.marks.length c22) C.J.marks, rsl kRec (.slice A26 recs.length c27) recs]) mo (by kernel_rfl) (fun w H => ⟨_, H⟩) H (fun w H => ?_)
    refine d_1 rfl (d_1 rfl (d_val rfl rfl rfl (fun w ⟨Ar, H⟩ => r_nilP rfl rfl) (d_val rfl rfl rfl (fun w ⟨Ar, H⟩ => r_fa rfl fo185_5 rfl) (d_val rfl rfl rfl (fun w ⟨Ar, H⟩ => r_fa rfl fo37_5 rfl) (d_val rfl rfl rfl (fun w ⟨Ar, H⟩ => r_ld rfl ty24 rfl (H.cellI 0 rfl rfl)) ?_)))))
    refine d_both rfl rfl ?_ ?_
    ·refine s_val rfl rfl (r_ld rfl ty144 rfl (H.cellI 8 rfl rfl)) (d_back ⟨_, H⟩ (d_main rfl (sc (cloneInt_ok (.slice A80 se77.length c81) se77 (by first | assumption | omega)) H (lX (fun F hA hR => rec_set (hR _ (List.mem_of_getElem? (i := 5) rfl)) hx70) l0) rfl rfl (e_fn kn129 rfl rfl) ?_)))
     rintro v103 _ w rfl H
     replace H := H.h1 (A := osl (kInt .i64) v103 se77) |>.p8 |>.p8 |>.p8 |>.p8 |>.p8 |>.p8 |>.p8 |>.p8
     refine d_back ⟨_, H⟩ (d_main rfl ?_)
     obtain ⟨A105, c106, rfl, hc107, hm108, hp109⟩ := H.fA 8 rfl
     refine s_bsl (parts := [(0, .tmp 76)]) (vs := [.slice A105 se77.length c106]) (cs := [.slice A105 se77.length c106]) rfl rfl rfl sl144 zr24 rfl (by decide) (by decide) rfl rfl H (fun b104 w H => ?_)
     replace H : Hd _ _ _ [blk b104 [.slice A105 se77.length c106] 24, blk b89 [.int .i64 a71, .int .i64 a72, .int .i64 a73, .int .i64 a74, .int .i64 a75, .slice A80 se77.length c81, .slice A82 pr79.length c83] 37, osl (kHd kPair) (.slice A42 J34.us.length c43) J34.us, osl kIns (.slice A47 J34.map.length c48) J34.map, osl kIns (.slice A52 J34.comb.length c53) J34.comb, osl kIns (.slice A57 J34.red.length c58) J34.red, osl (kInt .i64) (.slice A62 J34.marks.length c63) J34.marks, prsS (R.g) hv, stgI 253 b41 ([]), osl (kInt .i64) (.slice A105 se77.length c106) se77, blk b67 (redC (.slice A42 J34.us.length c43) (.slice A47 J34.map.length c48) (.slice A52 J34.comb.length c53) (.slice A57 J34.red.length c58) (.slice A62 J34.marks.length c63) J34 C.w C.t C.o p ep R.g hv b41 vs) 185, osl (kHd (kInt .i64)) vs us] [rsl (kHd kPair) (.slice A1 C.J.us.length c2) C.J.us, rsl kIns (.slice A6 C.J.map.length c7) C.J.map, rsl kIns (.slice A11 C.J.comb.length c12) C.J.comb, rsl kIns (.slice A16 C.J.red.length c17) C.J.red, rsl (kInt .i64) (.slice A21 C.J.marks.length c22) C.J.marks, rsl kRec (.slice A26 recs.length c27) recs] := H
     replace H := H.p8.p8.p8.p8.p8.p8.p8.p8
     refine d_back ⟨_, H⟩ (d_main rfl ?_)
     replace H := H.pick 11 rfl |>.pick 10 rfl |>.pick 10 rfl |>.p2
     refine s_appH rfl rfl rfl sl144 zr24 rfl (by decide) rfl rfl H (by first | omega | (simp only [List.length_append, List.length_cons, List.length_nil]; omega)) (fun v110 w H => ?_)
     replace H := H.h1 (A := osl (kHd (kInt .i64)) v110 (us ++ [((.slice A105 se77.length c106 : Value), se77)])) |>.p8 |>.p8 |>.p8 |>.p8 |>.p8 |>.p8 |>.p8 |>.p8
     refine d_back ⟨_, H⟩ (d_val rfl rfl rfl (fun w ⟨Ar, H⟩ => r_nilP rfl rfl) (d_val rfl rfl rfl (fun w ⟨Ar, H⟩ => r_fa rfl fo185_5 rfl) (d_main rfl ?_)))
     obtain ⟨A111, c112, rfl, hc113, hm114, hp115⟩ := H.fA 8 rfl
     replace H := H.p9
     refine s_st rfl rfl rfl ty144 rfl rfl H rfl (Nat.le_of_ble_eq_true rfl) (fun u hu => by simp [Value.cells] at hu; subst hu; rfl) (fun w H => ?_)
     replace H : Hd _ _ _ [blk b67 (redC (.slice A42 J34.us.length c43) (.slice A47 J34.map.length c48) (.slice A52 J34.comb.length c53) (.slice A57 J34.red.length c58) (.slice A62 J34.marks.length c63) J34 C.w C.t C.o p ep R.g hv b41 (.slice A111 ((us ++ [((.slice A105 se77.length c106 : Value), se77)]).length) c112)) 185, blk b89 [.int .i64 a71, .int .i64 a72, .int .i64 a73, .int .i64 a74, .int .i64 a75, .slice A80 se77.length c81, .slice A82 pr79.length c83] 37, osl (kHd kPair) (.slice A42 J34.us.length c43) J34.us, osl kIns (.slice A47 J34.map.length c48) J34.map, osl kIns (.slice A52 J34.comb.length c53) J34.comb, osl kIns (.slice A57 J34.red.length c58) J34.red, osl (kInt .i64) (.slice A62 J34.marks.length c63) J34.marks, prsS (R.g) hv, stgI 253 b41 ([]), osl (kHd (kInt .i64)) (.slice A111 ((us ++ [((.slice A105 se77.length c106 : Value), se77)]).length) c112) (us ++ [((.slice A105 se77.length c106 : Value), se77)])] [rsl (kHd kPair) (.slice A1 C.J.us.length c2) C.J.us, rsl kIns (.slice A6 C.J.map.length c7) C.J.map, rsl kIns (.slice A11 C.J.comb.length c12) C.J.comb, rsl kIns (.slice A16 C.J.red.length c17) C.J.red, rsl (kInt .i64) (.slice A21 C.J.marks.length c22) C.J.marks, rsl kRec (.slice A26 recs.length c27) recs] := H
     replace H := H.p8.p8.p8.p8.p8.p8.p8.p8
     refine d_back ⟨_, H⟩ (d_nil (q_blockN (q_then (c_reg (s_val rfl rfl (r_add (z := ((k + 1 : Nat) : Int)) rfl rfl rfl (by rw [w64 (by omega) (by omega)]; omega)) (s_1 rfl (s_nil ?_)))))))
     have hpart : (Rec.p (⟨a71, a72, a73, a74, a75, .slice A80 se77.length c81, se77, .slice A82 pr79.length c83, pr79⟩ : Rec)).part = R.part := by rw [hRp]; exact Classical.not_not.1 h90
     have hR2 := newR_take hR hx70 (recIn_s hpart h102)
     replace H := H.p7.p9.p8.p8.p8.p8.p8.p8.p9.k9.h7 (A := blk b67 (redC (.slice A42 J34.us.length c43) (.slice A47 J34.map.length c48) (.slice A52 J34.comb.length c53) (.slice A57 J34.red.length c58) (.slice A62 J34.marks.length c63) J34 C.w C.t C.o p ep (({ R with sets := R.sets ++ [se77] } : Red).g) hv b41 (.slice A111 ((us ++ [((.slice A105 se77.length c106 : Value), se77)]).length) c112)) 185) (G := prsS (({ R with sets := R.sets ++ [se77] } : Red).g) hv)
     exact q_round (s := (k, R, hv, undef, us)) (k + 1, ({ R with sets := R.sets ++ [se77] } : Red), hv, .slice A111 ((us ++ [((.slice A105 se77.length c106 : Value), se77)]).length) c112, us ++ [((.slice A105 se77.length c106 : Value), se77)]) ⟨rfl, rfl, rfl, rfl, rfl, rfl, rfl, trivial⟩ ⟨H, hR2, hRp, by (try dsimp only); rw [List.map_append, hus]; rfl, by (try dsimp only); omega, by (try dsimp only); rw [List.length_append]; simp only [List.length_cons, List.length_nil]; omega⟩ (by (try dsimp only); omega)
    refine sc (cloneInt_ok (.slice A80 se77.length c81) se77 (by first | assumption | omega)) H (lX (fun F hA hR => rec_set (hR _ (List.mem_of_getElem? (i := 5) rfl)) hx70) l0) rfl rfl (e_fn kn129 rfl rfl) ?_
    rintro v116 _ w rfl H
    replace H := H.h1 (A := osl (kInt .i64) v116 se77) |>.p8 |>.p8 |>.p8 |>.p8 |>.p8 |>.p8 |>.p8 |>.p8
    refine d_back ⟨_, H⟩ ?_
    refine d_both rfl rfl ?_ ?_
    ·refine s_val rfl rfl (r_ld rfl ty144 rfl (H.cellI 9 rfl rfl)) (d_back ⟨_, H⟩ (d_main rfl ?_))
     obtain ⟨A118, c119, rfl, hc120, hm121, hp122⟩ := H.fA 8 rfl
     refine s_bsl (parts := [(0, .tmp 76)]) (vs := [.slice A118 se77.length c119]) (cs := [.slice A118 se77.length c119]) rfl rfl rfl sl144 zr24 rfl (by decide) (by decide) rfl rfl H (fun b117 w H => ?_)
     replace H : Hd _ _ _ [blk b117 [.slice A118 se77.length c119] 24, blk b89 [.int .i64 a71, .int .i64 a72, .int .i64 a73, .int .i64 a74, .int .i64 a75, .slice A80 se77.length c81, .slice A82 pr79.length c83] 37, osl (kHd kPair) (.slice A42 J34.us.length c43) J34.us, osl kIns (.slice A47 J34.map.length c48) J34.map, osl kIns (.slice A52 J34.comb.length c53) J34.comb, osl kIns (.slice A57 J34.red.length c58) J34.red, osl (kInt .i64) (.slice A62 J34.marks.length c63) J34.marks, prsS (R.g) hv, stgI 253 b41 ([]), osl (kInt .i64) (.slice A118 se77.length c119) se77, blk b67 (redC (.slice A42 J34.us.length c43) (.slice A47 J34.map.length c48) (.slice A52 J34.comb.length c53) (.slice A57 J34.red.length c58) (.slice A62 J34.marks.length c63) J34 C.w C.t C.o p ep R.g hv b41 vs) 185, osl (kHd (kInt .i64)) vs us] [rsl (kHd kPair) (.slice A1 C.J.us.length c2) C.J.us, rsl kIns (.slice A6 C.J.map.length c7) C.J.map, rsl kIns (.slice A11 C.J.comb.length c12) C.J.comb, rsl kIns (.slice A16 C.J.red.length c17) C.J.red, rsl (kInt .i64) (.slice A21 C.J.marks.length c22) C.J.marks, rsl kRec (.slice A26 recs.length c27) recs] := H
     replace H := H.p8.p8.p8.p8.p8.p8.p8.p8
     refine d_back ⟨_, H⟩ (d_main rfl ?_)
     replace H := H.pick 11 rfl |>.pick 10 rfl |>.pick 10 rfl |>.p2
     refine s_appH rfl rfl rfl sl144 zr24 rfl (by decide) rfl rfl H (by first | omega | (simp only [List.length_append, List.length_cons, List.length_nil]; omega)) (fun v123 w H => ?_)
     replace H := H.h1 (A := osl (kHd (kInt .i64)) v123 (us ++ [((.slice A118 se77.length c119 : Value), se77)])) |>.p8 |>.p8 |>.p8 |>.p8 |>.p8 |>.p8 |>.p8 |>.p8
     refine d_back ⟨_, H⟩ (d_val rfl rfl rfl (fun w ⟨Ar, H⟩ => r_nilP rfl rfl) (d_val rfl rfl rfl (fun w ⟨Ar, H⟩ => r_fa rfl fo185_5 rfl) (d_main rfl ?_)))
     obtain ⟨A124, c125, rfl, hc126, hm127, hp128⟩ := H.fA 8 rfl
     replace H := H.p9
     refine s_st rfl rfl rfl ty144 rfl rfl H rfl (Nat.le_of_ble_eq_true rfl) (fun u hu => by simp [Value.cells] at hu; subst hu; rfl) (fun w H => ?_)
     replace H : Hd _ _ _ [blk b67 (redC (.slice A42 J34.us.length c43) (.slice A47 J34.map.length c48) (.slice A52 J34.comb.length c53) (.slice A57 J34.red.length c58) (.slice A62 J34.marks.length c63) J34 C.w C.t C.o p ep R.g hv b41 (.slice A124 ((us ++ [((.slice A118 se77.length c119 : Value), se77)]).length) c125)) 185, blk b89 [.int .i64 a71, .int .i64 a72, .int .i64 a73, .int .i64 a74, .int .i64 a75, .slice A80 se77.length c81, .slice A82 pr79.length c83] 37, osl (kHd kPair) (.slice A42 J34.us.length c43) J34.us, osl kIns (.slice A47 J34.map.length c48) J34.map, osl kIns (.slice A52 J34.comb.length c53) J34.comb, osl kIns (.slice A57 J34.red.length c58) J34.red, osl (kInt .i64) (.slice A62 J34.marks.length c63) J34.marks, prsS (R.g) hv, stgI 253 b41 ([]), osl (kHd (kInt .i64)) (.slice A124 ((us ++ [((.slice A118 se77.length c119 : Value), se77)]).length) c125) (us ++ [((.slice A118 se77.length c119 : Value), se77)])] [rsl (kHd kPair) (.slice A1 C.J.us.length c2) C.J.us, rsl kIns (.slice A6 C.J.map.length c7) C.J.map, rsl kIns (.slice A11 C.J.comb.length c12) C.J.comb, rsl kIns (.slice A16 C.J.red.length c17) C.J.red, rsl (kInt .i64) (.slice A21 C.J.marks.length c22) C.J.marks, rsl kRec (.slice A26 recs.length c27) recs] := H
     replace H := H.p8.p8.p8.p8.p8.p8.p8.p8
     refine d_back ⟨_, H⟩ (d_nil (q_blockN (q_then (c_reg (s_val rfl rfl (r_add (z := ((k + 1 : Nat) : Int)) rfl rfl rfl (by rw [w64 (by omega) (by omega)]; omega)) (s_1 rfl (s_nil ?_)))))))
     have hpart : (Rec.p (⟨a71, a72, a73, a74, a75, .slice A80 se77.length c81, se77, .slice A82 pr79.length c83, pr79⟩ : Rec)).part = R.part := by rw [hRp]; exact Classical.not_not.1 h90
     have hR2 := newR_take hR hx70 (recIn_s hpart h102)
     replace H := H.p7.p9.p8.p8.p8.p8.p8.p8.p9.k9.h7 (A := blk b67 (redC (.slice A42 J34.us.length c43) (.slice A47 J34.map.length c48) (.slice A52 J34.comb.length c53) (.slice A57 J34.red.length c58) (.slice A62 J34.marks.length c63) J34 C.w C.t C.o p ep (({ R with sets := R.sets ++ [se77] } : Red).g) hv b41 (.slice A124 ((us ++ [((.slice A118 se77.length c119 : Value), se77)]).length) c125)) 185) (G := prsS (({ R with sets := R.sets ++ [se77] } : Red).g) hv)
     exact q_round (s := (k, R, hv, undef, us)) (k + 1, ({ R with sets := R.sets ++ [se77] } : Red), hv, .slice A124 ((us ++ [((.slice A118 se77.length c119 : Value), se77)]).length) c125, us ++ [((.slice A118 se77.length c119 : Value), se77)]) ⟨rfl, rfl, rfl, rfl, rfl, rfl, rfl, trivial⟩ ⟨H, hR2, hRp, by (try dsimp only); rw [List.map_append, hus]; rfl, by (try dsimp only); omega, by (try dsimp only); rw [List.length_append]; simp only [List.length_cons, List.length_nil]; omega⟩ (by (try dsimp only); omega)
    obtain ⟨A130, c131, rfl, hc132, hm133, hp134⟩ := H.fA 8 rfl
    refine s_bsl (parts := [(0, .tmp 76)]) (vs := [.slice A130 se77.length c131]) (cs := [.slice A130 se77.length c131]) rfl rfl rfl sl144 zr24 rfl (by decide) (by decide) rfl rfl H (fun b129 w H => ?_)
    replace H : Hd _ _ _ [blk b129 [.slice A130 se77.length c131] 24, blk b89 [.int .i64 a71, .int .i64 a72, .int .i64 a73, .int .i64 a74, .int .i64 a75, .slice A80 se77.length c81, .slice A82 pr79.length c83] 37, osl (kHd kPair) (.slice A42 J34.us.length c43) J34.us, osl kIns (.slice A47 J34.map.length c48) J34.map, osl kIns (.slice A52 J34.comb.length c53) J34.comb, osl kIns (.slice A57 J34.red.length c58) J34.red, osl (kInt .i64) (.slice A62 J34.marks.length c63) J34.marks, prsS (R.g) hv, stgI 253 b41 ([]), osl (kInt .i64) (.slice A130 se77.length c131) se77, blk b67 (redC (.slice A42 J34.us.length c43) (.slice A47 J34.map.length c48) (.slice A52 J34.comb.length c53) (.slice A57 J34.red.length c58) (.slice A62 J34.marks.length c63) J34 C.w C.t C.o p ep R.g hv b41 vs) 185, osl (kHd (kInt .i64)) vs us] [rsl (kHd kPair) (.slice A1 C.J.us.length c2) C.J.us, rsl kIns (.slice A6 C.J.map.length c7) C.J.map, rsl kIns (.slice A11 C.J.comb.length c12) C.J.comb, rsl kIns (.slice A16 C.J.red.length c17) C.J.red, rsl (kInt .i64) (.slice A21 C.J.marks.length c22) C.J.marks, rsl kRec (.slice A26 recs.length c27) recs] := H
    replace H := H.p8.p8.p8.p8.p8.p8.p8.p8
    refine d_back ⟨_, H⟩ (d_main rfl (s_val rfl rfl (r_ld rfl ty144 rfl (H.cellI 10 rfl rfl)) (d_back ⟨_, H⟩ (d_main rfl ?_))))
    replace H := H.pick 11 rfl |>.pick 10 rfl |>.pick 10 rfl |>.p2
    refine s_appH rfl rfl rfl sl144 zr24 rfl (by decide) rfl rfl H (by first | omega | (simp only [List.length_append, List.length_cons, List.length_nil]; omega)) (fun v135 w H => ?_)
    replace H := H.h1 (A := osl (kHd (kInt .i64)) v135 (us ++ [((.slice A130 se77.length c131 : Value), se77)])) |>.p8 |>.p8 |>.p8 |>.p8 |>.p8 |>.p8 |>.p8 |>.p8
    refine d_back ⟨_, H⟩ (d_val rfl rfl rfl (fun w ⟨Ar, H⟩ => r_nilP rfl rfl) (d_val rfl rfl rfl (fun w ⟨Ar, H⟩ => r_fa rfl fo185_5 rfl) (d_main rfl ?_)))
    obtain ⟨A136, c137, rfl, hc138, hm139, hp140⟩ := H.fA 8 rfl
    replace H := H.p9
    refine s_st rfl rfl rfl ty144 rfl rfl H rfl (Nat.le_of_ble_eq_true rfl) (fun u hu => by simp [Value.cells] at hu; subst hu; rfl) (fun w H => ?_)
    replace H : Hd _ _ _ [blk b67 (redC (.slice A42 J34.us.length c43) (.slice A47 J34.map.length c48) (.slice A52 J34.comb.length c53) (.slice A57 J34.red.length c58) (.slice A62 J34.marks.length c63) J34 C.w C.t C.o p ep R.g hv b41 (.slice A136 ((us ++ [((.slice A130 se77.length c131 : Value), se77)]).length) c137)) 185, blk b89 [.int .i64 a71, .int .i64 a72, .int .i64 a73, .int .i64 a74, .int .i64 a75, .slice A80 se77.length c81, .slice A82 pr79.length c83] 37, osl (kHd kPair) (.slice A42 J34.us.length c43) J34.us, osl kIns (.slice A47 J34.map.length c48) J34.map, osl kIns (.slice A52 J34.comb.length c53) J34.comb, osl kIns (.slice A57 J34.red.length c58) J34.red, osl (kInt .i64) (.slice A62 J34.marks.length c63) J34.marks, prsS (R.g) hv, stgI 253 b41 ([]), osl (kHd (kInt .i64)) (.slice A136 ((us ++ [((.slice A130 se77.length c131 : Value), se77)]).length) c137) (us ++ [((.slice A130 se77.length c131 : Value), se77)])] [rsl (kHd kPair) (.slice A1 C.J.us.length c2) C.J.us, rsl kIns (.slice A6 C.J.map.length c7) C.J.map, rsl kIns (.slice A11 C.J.comb.length c12) C.J.comb, rsl kIns (.slice A16 C.J.red.length c17) C.J.red, rsl (kInt .i64) (.slice A21 C.J.marks.length c22) C.J.marks, rsl kRec (.slice A26 recs.length c27) recs] := H
    replace H := H.p8.p8.p8.p8.p8.p8.p8.p8
    refine d_back ⟨_, H⟩ (d_nil (q_blockN (q_then (c_reg (s_val rfl rfl (r_add (z := ((k + 1 : Nat) : Int)) rfl rfl rfl (by rw [w64 (by omega) (by omega)]; omega)) (s_1 rfl (s_nil ?_)))))))
    have hpart : (Rec.p (⟨a71, a72, a73, a74, a75, .slice A80 se77.length c81, se77, .slice A82 pr79.length c83, pr79⟩ : Rec)).part = R.part := by rw [hRp]; exact Classical.not_not.1 h90
    have hR2 := newR_take hR hx70 (recIn_s hpart h102)
    replace H := H.p7.p9.p8.p8.p8.p8.p8.p8.p9.k9.h7 (A := blk b67 (redC (.slice A42 J34.us.length c43) (.slice A47 J34.map.length c48) (.slice A52 J34.comb.length c53) (.slice A57 J34.red.length c58) (.slice A62 J34.marks.length c63) J34 C.w C.t C.o p ep (({ R with sets := R.sets ++ [se77] } : Red).g) hv b41 (.slice A136 ((us ++ [((.slice A130 se77.length c131 : Value), se77)]).length) c137)) 185) (G := prsS (({ R with sets := R.sets ++ [se77] } : Red).g) hv)
    exact q_round (s := (k, R, hv, undef, us)) (k + 1, ({ R with sets := R.sets ++ [se77] } : Red), hv, .slice A136 ((us ++ [((.slice A130 se77.length c131 : Value), se77)]).length) c137, us ++ [((.slice A130 se77.length c131 : Value), se77)]) ⟨rfl, rfl, rfl, rfl, rfl, rfl, rfl, trivial⟩ ⟨H, hR2, hRp, by (try dsimp only); rw [List.map_append, hus]; rfl, by (try dsimp only); omega, by (try dsimp only); rw [List.length_append]; simp only [List.length_cons, List.length_nil]; omega⟩ (by (try dsimp only); omega)
   refine c_skip (q_blockN (q_then (c_reg (s_val rfl rfl (r_add (z := ((k + 1 : Nat) : Int)) rfl rfl rfl (by rw [w64 (by omega) (by omega)]; omega)) (s_1 rfl (s_nil ?_))))))
   have hpart : (Rec.p (⟨a71, a72, a73, a74, a75, .slice A80 se77.length c81, se77, .slice A82 pr79.length c83, pr79⟩ : Rec)).part = R.part := by rw [hRp]; exact Classical.not_not.1 h90
   have hR2 := newR_take hR hx70 (recIn_no hpart (fun h => h92 h.1) h102)
   replace H := H.p9.p9.p9.p9.p9.p9.p9.p9.p9.k9
   exact q_round (s := (k, R, hv, undef, us)) (k + 1, R, hv, vs, us) ⟨rfl, rfl, rfl, rfl, rfl, rfl, rfl, trivial⟩ ⟨H, hR2, hRp, by (try dsimp only); exact hus, by (try dsimp only); omega, by (try dsimp only); omega⟩ (by (try dsimp only); omega)
  refine c_reg (s_1 rfl (s_val rfl rfl (r_fa rfl fo37_2 rfl) (s_val rfl rfl (r_ld rfl ty3 rfl (H.cellI 0 rfl rfl)) (sc (at_no b67 A42 J34.us.length c43 (.slice A47 J34.map.length c48) (.slice A52 J34.comb.length c53) (.slice A57 J34.red.length c58) (.slice A62 J34.marks.length c63) J34 C.w C.t C.o p ep R.g hv b41 vs a73 (by first | assumption | omega)) H (lA 1 rfl (fun _ h => h) l0) rfl rfl (e_fn kn118 rfl rfl) ?_))))
  rintro _ _ w ⟨rfl, rfl⟩ H
  refine s_1 rfl (s_nil (q_then (c_seq (c_reg (s_val rfl rfl (r_fa rfl fo37_0 rfl) (s_val rfl rfl (r_ld rfl ty3 rfl (H.cellI 0 rfl rfl)) (s_val rfl rfl (r_eq rfl rfl rfl) (s_1 rfl ?_))))))))
  refine s_dec (d := 46) rfl (fun h141 => ?_) (fun h141 => ?_)
  ·refine s_1 rfl (s_val rfl rfl (r_pne rfl un178 rfl rfl) (s_k 8 rfl (s_nil (q_then (c_no rfl (c_skip (q_then (c_seq (c_reg (s_val rfl rfl (r_fa rfl fo37_0 rfl) (s_val rfl rfl (r_ld rfl ty3 rfl (H.cellI 0 rfl rfl)) (s_val rfl rfl (r_eq rfl rfl rfl) (s_nil (q_then ?_))))))))))))))
   refine c_dec rfl (fun h142 => ?_) (fun h142 => ?_)
   ·exfalso; omega
   refine c_skip (q_blockN (q_then (c_reg (s_val rfl rfl (r_add (z := ((k + 1 : Nat) : Int)) rfl rfl rfl (by rw [w64 (by omega) (by omega)]; omega)) (s_1 rfl (s_nil ?_))))))
   have hpart : (Rec.p (⟨a71, a72, a73, a74, a75, .slice A80 se77.length c81, se77, .slice A82 pr79.length c83, pr79⟩ : Rec)).part = R.part := by rw [hRp]; exact Classical.not_not.1 h90
   have hR2 := newR_take hR hx70 (recIn_no hpart (fun h => hin91 h.2.1) h142)
   replace H := H.p9.p9.p9.p9.p9.p9.p9.p9.p9.k9
   exact q_round (s := (k, R, hv, undef, us)) (k + 1, R, hv, vs, us) ⟨rfl, rfl, rfl, rfl, rfl, rfl, rfl, trivial⟩ ⟨H, hR2, hRp, by (try dsimp only); exact hus, by (try dsimp only); omega, by (try dsimp only); omega⟩ (by (try dsimp only); omega)
  refine s_k 10 rfl (s_nil (q_then (c_no rfl (c_skip (q_then (c_seq (c_reg (s_val rfl rfl (r_fa rfl fo37_0 rfl) (s_val rfl rfl (r_ld rfl ty3 rfl (H.cellI 0 rfl rfl)) (s_val rfl rfl (r_eq rfl rfl rfl) (s_nil (q_then ?_))))))))))))
  refine c_dec rfl (fun h143 => ?_) (fun h143 => ?_)
  ·replace H := H.p9.p8.p8.p8.p8.p8.p8.p7
   refine c_ord (.e 0 (.e 1 (.e 2 (.e 3 (.e 5 (.e 6 (.b 4 7 (.m 7 (.m 8 (.m 9 (.e 10 (.e 11 (.m 12 .z)))))) (.b 4 8 (.m 8 (.m 9 (.e 10 (.e 11 (.m 12 .z))))) (.m 4 (.m 9 (.e 10 (.e 11 (.m 12 .z))))))))))))) (fun w => ∃ Ar, Hd w0 F0 w (blk b89 [.int .i64 a71, .int .i64 a72, .int .i64 a73, .int .i64 a74, .int .i64 a75, .slice A80 se77.length c81, .slice A82 pr79.length c83] 37 :: osl (kHd kPair) (.slice A42 J34.us.length c43) J34.us :: osl kIns (.slice A47 J34.map.length c48) J34.map :: osl kIns (.slice A52 J34.comb.length c53) J34.comb :: osl kIns (.slice A57 J34.red.length c58) J34.red :: osl (kInt .i64) (.slice A62 J34.marks.length c63) J34.marks :: prsS (R.g) hv :: stgI 253 b41 ([]) :: Ar) [rsl (kHd kPair) (.slice A1 C.J.us.length c2) C.J.us, rsl kIns (.slice A6 C.J.map.length c7) C.J.map, rsl kIns (.slice A11 C.J.comb.length c12) C.J.comb, rsl kIns (.slice A16 C.J.red.length c17) C.J.red, rsl (kInt .i64) (.slice A21 C.J.marks.length c22) C.J.marks, rsl kRec (.slice A26 recs.length c27) recs]) mo (by kernel_rfl) (fun w H => ⟨_, H⟩) H (fun w H => ?_)
   refine d_1 rfl (d_1 rfl (d_val rfl rfl rfl (fun w ⟨Ar, H⟩ => r_nilP rfl rfl) (d_val rfl rfl rfl (fun w ⟨Ar, H⟩ => r_fa rfl fo185_5 rfl) (d_val rfl rfl rfl (fun w ⟨Ar, H⟩ => r_fa rfl fo37_5 rfl) (d_val rfl rfl rfl (fun w ⟨Ar, H⟩ => r_ld rfl ty24 rfl (H.cellI 0 rfl rfl)) ?_)))))
   refine d_both rfl rfl ?_ ?_
   ·refine s_val rfl rfl (r_ld rfl ty144 rfl (H.cellI 8 rfl rfl)) (d_back ⟨_, H⟩ (d_main rfl (sc (cloneInt_ok (.slice A80 se77.length c81) se77 (by first | assumption | omega)) H (lX (fun F hA hR => rec_set (hR _ (List.mem_of_getElem? (i := 5) rfl)) hx70) l0) rfl rfl (e_fn kn129 rfl rfl) ?_)))
    rintro v144 _ w rfl H
    replace H := H.h1 (A := osl (kInt .i64) v144 se77) |>.p8 |>.p8 |>.p8 |>.p8 |>.p8 |>.p8 |>.p8 |>.p8
    refine d_back ⟨_, H⟩ (d_main rfl ?_)
    obtain ⟨A146, c147, rfl, hc148, hm149, hp150⟩ := H.fA 8 rfl
    refine s_bsl (parts := [(0, .tmp 76)]) (vs := [.slice A146 se77.length c147]) (cs := [.slice A146 se77.length c147]) rfl rfl rfl sl144 zr24 rfl (by decide) (by decide) rfl rfl H (fun b145 w H => ?_)
    replace H : Hd _ _ _ [blk b145 [.slice A146 se77.length c147] 24, blk b89 [.int .i64 a71, .int .i64 a72, .int .i64 a73, .int .i64 a74, .int .i64 a75, .slice A80 se77.length c81, .slice A82 pr79.length c83] 37, osl (kHd kPair) (.slice A42 J34.us.length c43) J34.us, osl kIns (.slice A47 J34.map.length c48) J34.map, osl kIns (.slice A52 J34.comb.length c53) J34.comb, osl kIns (.slice A57 J34.red.length c58) J34.red, osl (kInt .i64) (.slice A62 J34.marks.length c63) J34.marks, prsS (R.g) hv, stgI 253 b41 ([]), osl (kInt .i64) (.slice A146 se77.length c147) se77, blk b67 (redC (.slice A42 J34.us.length c43) (.slice A47 J34.map.length c48) (.slice A52 J34.comb.length c53) (.slice A57 J34.red.length c58) (.slice A62 J34.marks.length c63) J34 C.w C.t C.o p ep R.g hv b41 vs) 185, osl (kHd (kInt .i64)) vs us] [rsl (kHd kPair) (.slice A1 C.J.us.length c2) C.J.us, rsl kIns (.slice A6 C.J.map.length c7) C.J.map, rsl kIns (.slice A11 C.J.comb.length c12) C.J.comb, rsl kIns (.slice A16 C.J.red.length c17) C.J.red, rsl (kInt .i64) (.slice A21 C.J.marks.length c22) C.J.marks, rsl kRec (.slice A26 recs.length c27) recs] := H
    replace H := H.p8.p8.p8.p8.p8.p8.p8.p8
    refine d_back ⟨_, H⟩ (d_main rfl ?_)
    replace H := H.pick 11 rfl |>.pick 10 rfl |>.pick 10 rfl |>.p2
    refine s_appH rfl rfl rfl sl144 zr24 rfl (by decide) rfl rfl H (by first | omega | (simp only [List.length_append, List.length_cons, List.length_nil]; omega)) (fun v151 w H => ?_)
    replace H := H.h1 (A := osl (kHd (kInt .i64)) v151 (us ++ [((.slice A146 se77.length c147 : Value), se77)])) |>.p8 |>.p8 |>.p8 |>.p8 |>.p8 |>.p8 |>.p8 |>.p8
    refine d_back ⟨_, H⟩ (d_val rfl rfl rfl (fun w ⟨Ar, H⟩ => r_nilP rfl rfl) (d_val rfl rfl rfl (fun w ⟨Ar, H⟩ => r_fa rfl fo185_5 rfl) (d_main rfl ?_)))
    obtain ⟨A152, c153, rfl, hc154, hm155, hp156⟩ := H.fA 8 rfl
    replace H := H.p9
    refine s_st rfl rfl rfl ty144 rfl rfl H rfl (Nat.le_of_ble_eq_true rfl) (fun u hu => by simp [Value.cells] at hu; subst hu; rfl) (fun w H => ?_)
    replace H : Hd _ _ _ [blk b67 (redC (.slice A42 J34.us.length c43) (.slice A47 J34.map.length c48) (.slice A52 J34.comb.length c53) (.slice A57 J34.red.length c58) (.slice A62 J34.marks.length c63) J34 C.w C.t C.o p ep R.g hv b41 (.slice A152 ((us ++ [((.slice A146 se77.length c147 : Value), se77)]).length) c153)) 185, blk b89 [.int .i64 a71, .int .i64 a72, .int .i64 a73, .int .i64 a74, .int .i64 a75, .slice A80 se77.length c81, .slice A82 pr79.length c83] 37, osl (kHd kPair) (.slice A42 J34.us.length c43) J34.us, osl kIns (.slice A47 J34.map.length c48) J34.map, osl kIns (.slice A52 J34.comb.length c53) J34.comb, osl kIns (.slice A57 J34.red.length c58) J34.red, osl (kInt .i64) (.slice A62 J34.marks.length c63) J34.marks, prsS (R.g) hv, stgI 253 b41 ([]), osl (kHd (kInt .i64)) (.slice A152 ((us ++ [((.slice A146 se77.length c147 : Value), se77)]).length) c153) (us ++ [((.slice A146 se77.length c147 : Value), se77)])] [rsl (kHd kPair) (.slice A1 C.J.us.length c2) C.J.us, rsl kIns (.slice A6 C.J.map.length c7) C.J.map, rsl kIns (.slice A11 C.J.comb.length c12) C.J.comb, rsl kIns (.slice A16 C.J.red.length c17) C.J.red, rsl (kInt .i64) (.slice A21 C.J.marks.length c22) C.J.marks, rsl kRec (.slice A26 recs.length c27) recs] := H
    replace H := H.p8.p8.p8.p8.p8.p8.p8.p8
    refine d_back ⟨_, H⟩ (d_nil (q_blockN (q_then (c_reg (s_val rfl rfl (r_add (z := ((k + 1 : Nat) : Int)) rfl rfl rfl (by rw [w64 (by omega) (by omega)]; omega)) (s_1 rfl (s_nil ?_)))))))
    have hpart : (Rec.p (⟨a71, a72, a73, a74, a75, .slice A80 se77.length c81, se77, .slice A82 pr79.length c83, pr79⟩ : Rec)).part = R.part := by rw [hRp]; exact Classical.not_not.1 h90
    have hR2 := newR_take hR hx70 (recIn_s hpart h143)
    replace H := H.p7.p9.p8.p8.p8.p8.p8.p8.p9.k9.h7 (A := blk b67 (redC (.slice A42 J34.us.length c43) (.slice A47 J34.map.length c48) (.slice A52 J34.comb.length c53) (.slice A57 J34.red.length c58) (.slice A62 J34.marks.length c63) J34 C.w C.t C.o p ep (({ R with sets := R.sets ++ [se77] } : Red).g) hv b41 (.slice A152 ((us ++ [((.slice A146 se77.length c147 : Value), se77)]).length) c153)) 185) (G := prsS (({ R with sets := R.sets ++ [se77] } : Red).g) hv)
    exact q_round (s := (k, R, hv, undef, us)) (k + 1, ({ R with sets := R.sets ++ [se77] } : Red), hv, .slice A152 ((us ++ [((.slice A146 se77.length c147 : Value), se77)]).length) c153, us ++ [((.slice A146 se77.length c147 : Value), se77)]) ⟨rfl, rfl, rfl, rfl, rfl, rfl, rfl, trivial⟩ ⟨H, hR2, hRp, by (try dsimp only); rw [List.map_append, hus]; rfl, by (try dsimp only); omega, by (try dsimp only); rw [List.length_append]; simp only [List.length_cons, List.length_nil]; omega⟩ (by (try dsimp only); omega)
   refine sc (cloneInt_ok (.slice A80 se77.length c81) se77 (by first | assumption | omega)) H (lX (fun F hA hR => rec_set (hR _ (List.mem_of_getElem? (i := 5) rfl)) hx70) l0) rfl rfl (e_fn kn129 rfl rfl) ?_
   rintro v157 _ w rfl H
   replace H := H.h1 (A := osl (kInt .i64) v157 se77) |>.p8 |>.p8 |>.p8 |>.p8 |>.p8 |>.p8 |>.p8 |>.p8
   refine d_back ⟨_, H⟩ ?_
   refine d_both rfl rfl ?_ ?_
   ·refine s_val rfl rfl (r_ld rfl ty144 rfl (H.cellI 9 rfl rfl)) (d_back ⟨_, H⟩ (d_main rfl ?_))
    obtain ⟨A159, c160, rfl, hc161, hm162, hp163⟩ := H.fA 8 rfl
    refine s_bsl (parts := [(0, .tmp 76)]) (vs := [.slice A159 se77.length c160]) (cs := [.slice A159 se77.length c160]) rfl rfl rfl sl144 zr24 rfl (by decide) (by decide) rfl rfl H (fun b158 w H => ?_)
    replace H : Hd _ _ _ [blk b158 [.slice A159 se77.length c160] 24, blk b89 [.int .i64 a71, .int .i64 a72, .int .i64 a73, .int .i64 a74, .int .i64 a75, .slice A80 se77.length c81, .slice A82 pr79.length c83] 37, osl (kHd kPair) (.slice A42 J34.us.length c43) J34.us, osl kIns (.slice A47 J34.map.length c48) J34.map, osl kIns (.slice A52 J34.comb.length c53) J34.comb, osl kIns (.slice A57 J34.red.length c58) J34.red, osl (kInt .i64) (.slice A62 J34.marks.length c63) J34.marks, prsS (R.g) hv, stgI 253 b41 ([]), osl (kInt .i64) (.slice A159 se77.length c160) se77, blk b67 (redC (.slice A42 J34.us.length c43) (.slice A47 J34.map.length c48) (.slice A52 J34.comb.length c53) (.slice A57 J34.red.length c58) (.slice A62 J34.marks.length c63) J34 C.w C.t C.o p ep R.g hv b41 vs) 185, osl (kHd (kInt .i64)) vs us] [rsl (kHd kPair) (.slice A1 C.J.us.length c2) C.J.us, rsl kIns (.slice A6 C.J.map.length c7) C.J.map, rsl kIns (.slice A11 C.J.comb.length c12) C.J.comb, rsl kIns (.slice A16 C.J.red.length c17) C.J.red, rsl (kInt .i64) (.slice A21 C.J.marks.length c22) C.J.marks, rsl kRec (.slice A26 recs.length c27) recs] := H
    replace H := H.p8.p8.p8.p8.p8.p8.p8.p8
    refine d_back ⟨_, H⟩ (d_main rfl ?_)
    replace H := H.pick 11 rfl |>.pick 10 rfl |>.pick 10 rfl |>.p2
    refine s_appH rfl rfl rfl sl144 zr24 rfl (by decide) rfl rfl H (by first | omega | (simp only [List.length_append, List.length_cons, List.length_nil]; omega)) (fun v164 w H => ?_)
    replace H := H.h1 (A := osl (kHd (kInt .i64)) v164 (us ++ [((.slice A159 se77.length c160 : Value), se77)])) |>.p8 |>.p8 |>.p8 |>.p8 |>.p8 |>.p8 |>.p8 |>.p8
    refine d_back ⟨_, H⟩ (d_val rfl rfl rfl (fun w ⟨Ar, H⟩ => r_nilP rfl rfl) (d_val rfl rfl rfl (fun w ⟨Ar, H⟩ => r_fa rfl fo185_5 rfl) (d_main rfl ?_)))
    obtain ⟨A165, c166, rfl, hc167, hm168, hp169⟩ := H.fA 8 rfl
    replace H := H.p9
    refine s_st rfl rfl rfl ty144 rfl rfl H rfl (Nat.le_of_ble_eq_true rfl) (fun u hu => by simp [Value.cells] at hu; subst hu; rfl) (fun w H => ?_)
    replace H : Hd _ _ _ [blk b67 (redC (.slice A42 J34.us.length c43) (.slice A47 J34.map.length c48) (.slice A52 J34.comb.length c53) (.slice A57 J34.red.length c58) (.slice A62 J34.marks.length c63) J34 C.w C.t C.o p ep R.g hv b41 (.slice A165 ((us ++ [((.slice A159 se77.length c160 : Value), se77)]).length) c166)) 185, blk b89 [.int .i64 a71, .int .i64 a72, .int .i64 a73, .int .i64 a74, .int .i64 a75, .slice A80 se77.length c81, .slice A82 pr79.length c83] 37, osl (kHd kPair) (.slice A42 J34.us.length c43) J34.us, osl kIns (.slice A47 J34.map.length c48) J34.map, osl kIns (.slice A52 J34.comb.length c53) J34.comb, osl kIns (.slice A57 J34.red.length c58) J34.red, osl (kInt .i64) (.slice A62 J34.marks.length c63) J34.marks, prsS (R.g) hv, stgI 253 b41 ([]), osl (kHd (kInt .i64)) (.slice A165 ((us ++ [((.slice A159 se77.length c160 : Value), se77)]).length) c166) (us ++ [((.slice A159 se77.length c160 : Value), se77)])] [rsl (kHd kPair) (.slice A1 C.J.us.length c2) C.J.us, rsl kIns (.slice A6 C.J.map.length c7) C.J.map, rsl kIns (.slice A11 C.J.comb.length c12) C.J.comb, rsl kIns (.slice A16 C.J.red.length c17) C.J.red, rsl (kInt .i64) (.slice A21 C.J.marks.length c22) C.J.marks, rsl kRec (.slice A26 recs.length c27) recs] := H
    replace H := H.p8.p8.p8.p8.p8.p8.p8.p8
    refine d_back ⟨_, H⟩ (d_nil (q_blockN (q_then (c_reg (s_val rfl rfl (r_add (z := ((k + 1 : Nat) : Int)) rfl rfl rfl (by rw [w64 (by omega) (by omega)]; omega)) (s_1 rfl (s_nil ?_)))))))
    have hpart : (Rec.p (⟨a71, a72, a73, a74, a75, .slice A80 se77.length c81, se77, .slice A82 pr79.length c83, pr79⟩ : Rec)).part = R.part := by rw [hRp]; exact Classical.not_not.1 h90
    have hR2 := newR_take hR hx70 (recIn_s hpart h143)
    replace H := H.p7.p9.p8.p8.p8.p8.p8.p8.p9.k9.h7 (A := blk b67 (redC (.slice A42 J34.us.length c43) (.slice A47 J34.map.length c48) (.slice A52 J34.comb.length c53) (.slice A57 J34.red.length c58) (.slice A62 J34.marks.length c63) J34 C.w C.t C.o p ep (({ R with sets := R.sets ++ [se77] } : Red).g) hv b41 (.slice A165 ((us ++ [((.slice A159 se77.length c160 : Value), se77)]).length) c166)) 185) (G := prsS (({ R with sets := R.sets ++ [se77] } : Red).g) hv)
    exact q_round (s := (k, R, hv, undef, us)) (k + 1, ({ R with sets := R.sets ++ [se77] } : Red), hv, .slice A165 ((us ++ [((.slice A159 se77.length c160 : Value), se77)]).length) c166, us ++ [((.slice A159 se77.length c160 : Value), se77)]) ⟨rfl, rfl, rfl, rfl, rfl, rfl, rfl, trivial⟩ ⟨H, hR2, hRp, by (try dsimp only); rw [List.map_append, hus]; rfl, by (try dsimp only); omega, by (try dsimp only); rw [List.length_append]; simp only [List.length_cons, List.length_nil]; omega⟩ (by (try dsimp only); omega)
   obtain ⟨A171, c172, rfl, hc173, hm174, hp175⟩ := H.fA 8 rfl
   refine s_bsl (parts := [(0, .tmp 76)]) (vs := [.slice A171 se77.length c172]) (cs := [.slice A171 se77.length c172]) rfl rfl rfl sl144 zr24 rfl (by decide) (by decide) rfl rfl H (fun b170 w H => ?_)
   replace H : Hd _ _ _ [blk b170 [.slice A171 se77.length c172] 24, blk b89 [.int .i64 a71, .int .i64 a72, .int .i64 a73, .int .i64 a74, .int .i64 a75, .slice A80 se77.length c81, .slice A82 pr79.length c83] 37, osl (kHd kPair) (.slice A42 J34.us.length c43) J34.us, osl kIns (.slice A47 J34.map.length c48) J34.map, osl kIns (.slice A52 J34.comb.length c53) J34.comb, osl kIns (.slice A57 J34.red.length c58) J34.red, osl (kInt .i64) (.slice A62 J34.marks.length c63) J34.marks, prsS (R.g) hv, stgI 253 b41 ([]), osl (kInt .i64) (.slice A171 se77.length c172) se77, blk b67 (redC (.slice A42 J34.us.length c43) (.slice A47 J34.map.length c48) (.slice A52 J34.comb.length c53) (.slice A57 J34.red.length c58) (.slice A62 J34.marks.length c63) J34 C.w C.t C.o p ep R.g hv b41 vs) 185, osl (kHd (kInt .i64)) vs us] [rsl (kHd kPair) (.slice A1 C.J.us.length c2) C.J.us, rsl kIns (.slice A6 C.J.map.length c7) C.J.map, rsl kIns (.slice A11 C.J.comb.length c12) C.J.comb, rsl kIns (.slice A16 C.J.red.length c17) C.J.red, rsl (kInt .i64) (.slice A21 C.J.marks.length c22) C.J.marks, rsl kRec (.slice A26 recs.length c27) recs] := H
   replace H := H.p8.p8.p8.p8.p8.p8.p8.p8
   refine d_back ⟨_, H⟩ (d_main rfl (s_val rfl rfl (r_ld rfl ty144 rfl (H.cellI 10 rfl rfl)) (d_back ⟨_, H⟩ (d_main rfl ?_))))
   replace H := H.pick 11 rfl |>.pick 10 rfl |>.pick 10 rfl |>.p2
   refine s_appH rfl rfl rfl sl144 zr24 rfl (by decide) rfl rfl H (by first | omega | (simp only [List.length_append, List.length_cons, List.length_nil]; omega)) (fun v176 w H => ?_)
   replace H := H.h1 (A := osl (kHd (kInt .i64)) v176 (us ++ [((.slice A171 se77.length c172 : Value), se77)])) |>.p8 |>.p8 |>.p8 |>.p8 |>.p8 |>.p8 |>.p8 |>.p8
   refine d_back ⟨_, H⟩ (d_val rfl rfl rfl (fun w ⟨Ar, H⟩ => r_nilP rfl rfl) (d_val rfl rfl rfl (fun w ⟨Ar, H⟩ => r_fa rfl fo185_5 rfl) (d_main rfl ?_)))
   obtain ⟨A177, c178, rfl, hc179, hm180, hp181⟩ := H.fA 8 rfl
   replace H := H.p9
   refine s_st rfl rfl rfl ty144 rfl rfl H rfl (Nat.le_of_ble_eq_true rfl) (fun u hu => by simp [Value.cells] at hu; subst hu; rfl) (fun w H => ?_)
   replace H : Hd _ _ _ [blk b67 (redC (.slice A42 J34.us.length c43) (.slice A47 J34.map.length c48) (.slice A52 J34.comb.length c53) (.slice A57 J34.red.length c58) (.slice A62 J34.marks.length c63) J34 C.w C.t C.o p ep R.g hv b41 (.slice A177 ((us ++ [((.slice A171 se77.length c172 : Value), se77)]).length) c178)) 185, blk b89 [.int .i64 a71, .int .i64 a72, .int .i64 a73, .int .i64 a74, .int .i64 a75, .slice A80 se77.length c81, .slice A82 pr79.length c83] 37, osl (kHd kPair) (.slice A42 J34.us.length c43) J34.us, osl kIns (.slice A47 J34.map.length c48) J34.map, osl kIns (.slice A52 J34.comb.length c53) J34.comb, osl kIns (.slice A57 J34.red.length c58) J34.red, osl (kInt .i64) (.slice A62 J34.marks.length c63) J34.marks, prsS (R.g) hv, stgI 253 b41 ([]), osl (kHd (kInt .i64)) (.slice A177 ((us ++ [((.slice A171 se77.length c172 : Value), se77)]).length) c178) (us ++ [((.slice A171 se77.length c172 : Value), se77)])] [rsl (kHd kPair) (.slice A1 C.J.us.length c2) C.J.us, rsl kIns (.slice A6 C.J.map.length c7) C.J.map, rsl kIns (.slice A11 C.J.comb.length c12) C.J.comb, rsl kIns (.slice A16 C.J.red.length c17) C.J.red, rsl (kInt .i64) (.slice A21 C.J.marks.length c22) C.J.marks, rsl kRec (.slice A26 recs.length c27) recs] := H
   replace H := H.p8.p8.p8.p8.p8.p8.p8.p8
   refine d_back ⟨_, H⟩ (d_nil (q_blockN (q_then (c_reg (s_val rfl rfl (r_add (z := ((k + 1 : Nat) : Int)) rfl rfl rfl (by rw [w64 (by omega) (by omega)]; omega)) (s_1 rfl (s_nil ?_)))))))
   have hpart : (Rec.p (⟨a71, a72, a73, a74, a75, .slice A80 se77.length c81, se77, .slice A82 pr79.length c83, pr79⟩ : Rec)).part = R.part := by rw [hRp]; exact Classical.not_not.1 h90
   have hR2 := newR_take hR hx70 (recIn_s hpart h143)
   replace H := H.p7.p9.p8.p8.p8.p8.p8.p8.p9.k9.h7 (A := blk b67 (redC (.slice A42 J34.us.length c43) (.slice A47 J34.map.length c48) (.slice A52 J34.comb.length c53) (.slice A57 J34.red.length c58) (.slice A62 J34.marks.length c63) J34 C.w C.t C.o p ep (({ R with sets := R.sets ++ [se77] } : Red).g) hv b41 (.slice A177 ((us ++ [((.slice A171 se77.length c172 : Value), se77)]).length) c178)) 185) (G := prsS (({ R with sets := R.sets ++ [se77] } : Red).g) hv)
   exact q_round (s := (k, R, hv, undef, us)) (k + 1, ({ R with sets := R.sets ++ [se77] } : Red), hv, .slice A177 ((us ++ [((.slice A171 se77.length c172 : Value), se77)]).length) c178, us ++ [((.slice A171 se77.length c172 : Value), se77)]) ⟨rfl, rfl, rfl, rfl, rfl, rfl, rfl, trivial⟩ ⟨H, hR2, hRp, by (try dsimp only); rw [List.map_append, hus]; rfl, by (try dsimp only); omega, by (try dsimp only); rw [List.length_append]; simp only [List.length_cons, List.length_nil]; omega⟩ (by (try dsimp only); omega)
  refine c_skip (q_blockN (q_then (c_reg (s_val rfl rfl (r_add (z := ((k + 1 : Nat) : Int)) rfl rfl rfl (by rw [w64 (by omega) (by omega)]; omega)) (s_1 rfl (s_nil ?_))))))
  have hpart : (Rec.p (⟨a71, a72, a73, a74, a75, .slice A80 se77.length c81, se77, .slice A82 pr79.length c83, pr79⟩ : Rec)).part = R.part := by rw [hRp]; exact Classical.not_not.1 h90
  have hR2 := newR_take hR hx70 (recIn_no hpart (fun h => h141 h.1) h143)
  replace H := H.p9.p9.p9.p9.p9.p9.p9.p9.p9.k9
  exact q_round (s := (k, R, hv, undef, us)) (k + 1, R, hv, vs, us) ⟨rfl, rfl, rfl, rfl, rfl, rfl, rfl, trivial⟩ ⟨H, hR2, hRp, by (try dsimp only); exact hus, by (try dsimp only); omega, by (try dsimp only); omega⟩ (by (try dsimp only); omega)
 refine c_exit (q_thenE (q_thenE (q_blockE (q_then (c_seq (c_reg (s_k 3 rfl (s_nil (q_then (c_ret (q_ret2 rfl rfl rfl ?_)))))))))))
 have hkk : R = newR J34.us.length p ep (recs.map Rec.p) := by rw [hR, List.take_of_length_le (by omega)]
 clear hR
 subst hkk
 replace H := H.h8 (A := blk b67 (redC (.slice A42 J34.us.length c43) (.slice A47 J34.map.length c48) (.slice A52 J34.comb.length c53) (.slice A57 J34.red.length c58) (.slice A62 J34.marks.length c63) J34 C.w C.t C.o p ep ((newR J34.us.length p ep (recs.map Rec.p)).g) hv b41 vs) 185) (G := prsS ((newR J34.us.length p ep (recs.map Rec.p)).g) hv) (I := osl (kHd (kInt .i64)) vs us)
 exact fin ⟨b67, (.slice A42 J34.us.length c43), (.slice A47 J34.map.length c48), (.slice A52 J34.comb.length c53), (.slice A57 J34.red.length c58), (.slice A62 J34.marks.length c63), J34, hv, b41, vs, us, rfl, rfl, hsj, hus⟩ H
section
variable {w : World} {F : Foot}
end
theorem SameJ.out {A B : Job} (h : SameJ A B) (D : Dig) (R : Red) : outR D A R = outR D B R := by
 unfold outR ofR
 rw [h.len, h.red, h.fuel]
theorem home_pos {C : Cf} {p : Int} (hC : mayC C) (h0 : 0 ≤ p) (h1 : p < C.J.parts) : homeC C p ≠ 0 := by
 have e : homeC C p = 1 + p.tmod C.w := if_neg (fun h => h.elim (fun h => h hC) (fun h => by omega))
 have := Int.tmod_nonneg C.w h0
 omega
theorem sameInts_ok (v1 v2 : Value) (xs ys : List Int) :
    Cn Tryz.prog 33 [v1, v2] [] [rsl (kInt .i64) v1 xs, rsl (kInt .i64) v2 ys] (fun v Bs => v = .bool (decide (xs = ys)) ∧ Bs = []) := by
 intro w0 F0 H
 obtain ⟨A1, c2, rfl, hc3, hm4, hp5⟩ := H.fR 0 rfl
 obtain ⟨A6, c7, rfl, hc8, hm9, hp10⟩ := H.fR 1 rfl
 refine enter Tryz.func33 rfl rfl (Nat.le_of_ble_eq_true rfl) (c_seq (c_reg (s_1 rfl (s_nil (q_then ?_)))))
 replace H : Hd _ _ _ [] [rsl (kInt .i64) (.slice A1 xs.length c2) xs, rsl (kInt .i64) (.slice A6 ys.length c7) ys] := H
 refine c_seq (c_seq (c_reg (s_1 rfl (s_val rfl rfl (r_lenL rfl un24 rfl) (s_1 rfl (s_val rfl rfl (r_lenL rfl un24 rfl) (s_val rfl rfl (r_ne rfl rfl rfl) (s_nil (q_then ?_)))))))))
 refine c_dec rfl (fun h11 => ?_) (fun h11 => ?_)
 ·refine c_seq (c_reg (s_1 rfl (s_nil (q_then (c_ret (q_thenR (q_ret1 rfl rfl ?_)))))))
  have e : ¬ xs = ys := fun e => h11 (by rw [e])
  exact fin ⟨by rw [decide_eq_false e] <;> rfl, rfl⟩ H
 refine c_skip (q_then (c_seq (c_seq (c_reg (s_1 rfl (s_nil (q_then (c_block ?_))))))))
 have hle : xs.length = ys.length := by omega
 refine c_loop (σ := Nat) (fun k => [(0, .slice A1 xs.length c2), (1, .slice A6 ys.length c7), (5, .int .i64 ((k : Nat) : Int))]) (fun k w => (Hd w0 F0 w [] [rsl (kInt .i64) (.slice A1 xs.length c2) xs, rsl (kInt .i64) (.slice A6 ys.length c7) ys]) ∧ (k ≤ xs.length) ∧ (xs.length = ys.length) ∧ (xs.take k = ys.take k)) (fun k => xs.length - k) 0 ⟨rfl, rfl, rfl, trivial⟩ ⟨H, by omega, hle, rfl⟩ ?_
 rintro k w ⟨H, hk, hle, ht⟩
 refine c_seq (c_seq (c_reg (s_k 2 rfl (s_val rfl rfl (r_lenL rfl un24 rfl) (s_val rfl rfl (r_lt rfl rfl rfl) (s_nil (q_then ?_)))))))
 refine c_dec rfl (fun h12 => ?_) (fun h12 => ?_)
 ·refine c_skip (q_then (c_seq (c_block (c_seq (c_draw mo (by kernel_rfl) H (u_k 2 rfl ?_))))))
  obtain ⟨x13, hx14⟩ : ∃ z9, xs[k]? = some z9 := ⟨_, List.getElem?_eq_getElem (show k < xs.length by omega)⟩
  have th15 := H.thR 0 rfl hx14
  refine u_val rfl rfl (fun w H => r_iaE (p := oOf A1 + k * 1) rfl sl24 rfl rfl (by omega) (by omega) th15 rfl) (u_val rfl rfl (fun w H => r_ld rfl ty3 rfl (H.elR 0 rfl hx14 (q := 0) rfl rfl)) (u_k 2 rfl ?_))
  obtain ⟨x16, hx17⟩ : ∃ z9, ys[k]? = some z9 := ⟨_, List.getElem?_eq_getElem (show k < ys.length by omega)⟩
  have th18 := H.thR 1 rfl hx17
  refine u_val rfl rfl (fun w H => r_iaE (p := oOf A6 + k * 1) rfl sl24 rfl rfl (by omega) (by omega) th18 rfl) (u_val rfl rfl (fun w H => r_ld rfl ty3 rfl (H.elR 1 rfl hx17 (q := 0) rfl rfl)) (u_val rfl rfl (fun w H => r_ne rfl rfl rfl) (u_end (fun w H => (q_then ?_)))))
  refine c_dec rfl (fun h19 => ?_) (fun h19 => ?_)
  ·refine c_seq (c_reg (s_1 rfl (s_nil (q_then (c_ret (q_blockR (q_thenR (q_thenR (q_blockR (q_thenR (q_ret1 rfl rfl ?_)))))))))))
   have e : ¬ xs = ys := fun e => h19 (by rw [e, hx17] at hx14; exact (Option.some.inj hx14).symm)
   exact fin ⟨by rw [decide_eq_false e] <;> rfl, rfl⟩ H
  refine c_skip (q_blockN (q_then (c_reg (s_1 rfl (s_val rfl rfl (r_add (z := ((k + 1 : Nat) : Int)) rfl rfl rfl (by rw [w64 (by omega) (by omega)]; omega)) (s_1 rfl (s_nil ?_)))))))
  have e : x13 = x16 := Classical.not_not.1 h19
  subst e
  exact q_round (s := k) (k + 1) ⟨rfl, rfl, rfl, trivial⟩ ⟨H, by omega, hle, take_more hx14 hx17 ht⟩ (by (try dsimp only); omega)
 refine c_exit (q_thenE (q_thenE (q_blockE (q_then (c_seq (c_reg (s_1 rfl (s_nil (q_then (c_ret (q_ret1 rfl rfl ?_)))))))))))
 have e : xs = ys := by rw [← take_all (xs := xs) (k := k) (by omega), ← take_all (xs := ys) (k := k) (by omega)]; exact ht
 exact fin ⟨by rw [decide_eq_true e] <;> rfl, rfl⟩ H
def recT (r : Rec) : SP := star [osl (kInt .i64) r.sv r.set, osl kPair r.pv r.pairs]
def recS (us : List Rec) : SP := bigS recT us
section
variable {w0 w : World} {F F0 : Foot} {As Rs : List SP} {v : Value} {us : List Rec}
theorem recT_cells {r : Rec} (h : (recT r).P w F) : encRec r = encRecF (toF r) := by
 obtain ⟨F1, F2, _, _, _, a, F3, F4, _, _, _, b, _⟩ := h
 obtain ⟨A1, c1, e1, _⟩ := rsl_form (own_rd _ a)
 obtain ⟨A2, c2, e2, _⟩ := rsl_form (own_rd _ b)
 simp [encRec, encRecF, toF, hdrOf, e1, e2]
theorem recT_O {r : Rec} (h : (recT r).P w F) : kRec.O w F r (encRecF (toF r)) := by
 have e := recT_cells h
 obtain ⟨F1, F2, h1, h2, h3, a, F3, F4, g1, g2, g3, b, _⟩ := h
 exact ⟨e.symm, F1, F3, h1, fun k hk => h2 k (g1 k hk), fun k hk hk2 => h3 k hk (g1 k hk2), a, b⟩
theorem reps_recI : ∀ {us : List Rec} {F : Foot}, (recS us).P w F → RepsO kRec w F us ((us.map toF).flatMap encRecF)
 | [], _, _ => rfl
 | u :: us, F, ⟨F1, F2, h1, h2, h3, a, s⟩ => ⟨F1, F2, encRecF (toF u), (us.map toF).flatMap encRecF, h1, h2, h3, rfl, recT_O a, reps_recI (us := us) s⟩
theorem Hd.recI (H : Hd w0 F0 w (osl kRecF v (us.map toF) :: recS us :: As) Rs) : Hd w0 F0 w (osl kRec v us :: As) Rs := by
 refine H.turn2 fun F1 F2 hd h1 h2 => ?_
 obtain ⟨A, n, c, e, hl, cs, G1, G2, s1, s2, dj, row, reps⟩ := h1
 have hcs : cs = (us.map toF).flatMap encRecF := RepsR.flat_eq.1 reps.toR
 subst hcs
 exact ⟨A, n, c, e, by simpa using hl, _, G1, F2, fun k hk => .inl (s1 k hk), fun k hk => .inr hk, fun k hk hg => hd k (s1 k hk) hg, row, reps_recI h2⟩
theorem Hd.recN {r : Rec} (H : Hd w0 F0 w (osl (kInt .i64) r.sv r.set :: osl kPair r.pv r.pairs :: recS us :: As) Rs) : Hd w0 F0 w (recS (us ++ [r]) :: As) Rs :=
 Hd.bigN (f := recT) (x := r) (Hd.stI (Bs := [osl (kInt .i64) r.sv r.set, osl kPair r.pv r.pairs]) H)
theorem Hd.rec0 (H : Hd w0 F0 w As Rs) : Hd w0 F0 w (recS [] :: As) Rs := H.big0 recT
end
structure Shp (α : Type) where
 sz : Nat
 enc : α → Value → Value → List Value
 len : ∀ a s p, (enc a s p).length = sz
 one : ∀ a s p, ∀ c ∈ enc a s p, c = s ∨ c = p ∨ c.oneCell' = true
 pos : 0 < sz
structure Two (α : Type) where
 h : α
 sv : Value
 set : List Int
 pv : Value
 pairs : List Pair
structure TwoF (α : Type) where
 h : α
 hs : Hdr
 hp : Hdr
section
variable {α : Type}
def Shp.e (S : Shp α) (x : Two α) : List Value := S.enc x.h x.sv x.pv
def Shp.f (S : Shp α) (x : TwoF α) : List Value := S.enc x.h (.slice x.hs.A x.hs.n x.hs.c) (.slice x.hp.A x.hp.n x.hp.c)
def kTwo (S : Shp α) : Kd (Two α) where
 sz := S.sz
 O w F x cs := cs = S.e x ∧ ∃ F1 F2 : Foot, (∀ k, F1 k → F k) ∧ (∀ k, F2 k → F k) ∧ (∀ k, F1 k → ¬ F2 k) ∧ (kSl (kInt .i64)).O w F1 x.set [x.sv] ∧ (kSl kPair).O w F2 x.pairs [x.pv]
 R w F x cs := cs = S.e x ∧ (kSl (kInt .i64)).R w F x.set [x.sv] ∧ (kSl kPair).R w F x.pairs [x.pv]
 O_loc := fun ⟨e, F1, F2, s1, s2, dj, h1, h2⟩ hk => ⟨e, F1, F2, s1, s2, dj, (kSl _).O_loc h1 (fun k x => hk k (s1 k x)), (kSl _).O_loc h2 (fun k x => hk k (s2 k x))⟩
 O_mono := fun ⟨e, F1, F2, s1, s2, dj, h1, h2⟩ hk => ⟨e, F1, F2, fun k x => hk k (s1 k x), fun k x => hk k (s2 k x), dj, h1, h2⟩
 R_loc := fun ⟨e, h1, h2⟩ hk => ⟨e, (kSl _).R_loc h1 hk, (kSl _).R_loc h2 hk⟩
 R_mono := fun ⟨e, h1, h2⟩ hk => ⟨e, (kSl _).R_mono h1 hk, (kSl _).R_mono h2 hk⟩
 O_R := fun ⟨e, F1, F2, s1, s2, dj, h1, h2⟩ => ⟨e, (kSl _).R_mono ((kSl _).O_R h1) s1, (kSl _).R_mono ((kSl _).O_R h2) s2⟩
 len h := by rw [h.1]; exact S.len _ _ _
 one := fun ⟨e, h1, h2⟩ c hc => by
  have g1 := (kSl _).one h1
  have g2 := (kSl _).one h2
  subst e
  rcases S.one _ _ _ c hc with rfl | rfl | h
  ·exact g1 _ (List.mem_cons_self ..)
  ·exact g2 _ (List.mem_cons_self ..)
  ·exact h
 pos := S.pos
def kTwoF (S : Shp α) : Kd (TwoF α) := flat S.f S.sz S.pos (fun x => S.len _ _ _) (fun x c hc => by
 rcases S.one _ _ _ c hc with rfl | rfl | h
 ·rfl
 ·rfl
 ·exact h)
def twF (r : Two α) : TwoF α := ⟨r.h, hdrOf r.sv, hdrOf r.pv⟩
variable {S : Shp α} {w w0 : World} {F F0 : Foot} {As Rs : List SP} {A : Option Addr} {m c : Nat}
/-! ### Held: the cells in one row, the slices apart -/
theorem tw_cells {r : Two α} {A1 A2 : Option Addr} {n1 c1 n2 c2 : Nat} (e1 : r.sv = .slice A1 n1 c1) (e2 : r.pv = .slice A2 n2 c2) : S.e r = S.f (twF r) := by
 simp [Shp.e, Shp.f, twF, hdrOf, e1, e2]
def twT (r : Two α) : SP := star [osl (kInt .i64) r.sv r.set, osl kPair r.pv r.pairs]
def twS (us : List (Two α)) : SP := bigS twT us
theorem twT_cells {r : Two α} (h : (twT r).P w F) : S.e r = S.f (twF r) := by
 obtain ⟨F1, F2, _, _, _, a, F3, F4, _, _, _, b, _⟩ := h
 obtain ⟨A1, c1, e1, _⟩ := rsl_form (own_rd _ a)
 obtain ⟨A2, c2, e2, _⟩ := rsl_form (own_rd _ b)
 exact tw_cells e1 e2
theorem twT_O {r : Two α} (h : (twT r).P w F) : (kTwo S).O w F r (S.f (twF r)) := by
 have e := twT_cells (S := S) h
 obtain ⟨F1, F2, h1, h2, h3, a, F3, F4, g1, g2, g3, b, _⟩ := h
 exact ⟨e.symm, F1, F3, h1, fun k hk => h2 k (g1 k hk), fun k hk hk2 => h3 k hk (g1 k hk2), a, b⟩
theorem reps_twI : ∀ {us : List (Two α)} {F : Foot}, (twS us).P w F → RepsO (kTwo S) w F us ((us.map twF).flatMap S.f)
 | [], _, _ => rfl
 | u :: us, F, ⟨F1, F2, h1, h2, h3, a, s⟩ => ⟨F1, F2, S.f (twF u), (us.map twF).flatMap S.f, h1, h2, h3, rfl, twT_O a, reps_twI (us := us) s⟩
variable {v : Value} {us : List (Two α)}
theorem Hd.twI (H : Hd w0 F0 w (osl (kTwoF S) v (us.map twF) :: twS us :: As) Rs) : Hd w0 F0 w (osl (kTwo S) v us :: As) Rs := by
 refine H.turn2 fun F1 F2 hd h1 h2 => ?_
 obtain ⟨A, n, c, e, hl, cs, G1, G2, s1, s2, dj, row, reps⟩ := h1
 have hcs : cs = (us.map twF).flatMap S.f := RepsR.flat_eq.1 reps.toR
 subst hcs
 exact ⟨A, n, c, e, by simpa using hl, _, G1, F2, fun k hk => .inl (s1 k hk), fun k hk => .inr hk, fun k hk hg => hd k (s1 k hk) hg, row, reps_twI h2⟩
theorem Hd.twN {r : Two α} (H : Hd w0 F0 w (osl (kInt .i64) r.sv r.set :: osl kPair r.pv r.pairs :: twS us :: As) Rs) : Hd w0 F0 w (twS (us ++ [r]) :: As) Rs :=
 Hd.bigN (f := twT) (x := r) (Hd.stI (Bs := [osl (kInt .i64) r.sv r.set, osl kPair r.pv r.pairs]) H)
theorem Hd.tw0 (H : Hd w0 F0 w As Rs) : Hd w0 F0 w (twS ([] : List (Two α)) :: As) Rs := H.big0 twT
end
/-! ### Messages, letters, acts, snapshots -/
structure MesH where
 kind : Int
 sp : Int
 att : Int
 part : Int
 seq : Int
 next : Int
 ep : Int
 why : Int
def shMes : Shp MesH where
 sz := 10
 enc m s p := [.int .i64 m.kind, .int .i64 m.sp, .int .i64 m.att, .int .i64 m.part, .int .i64 m.seq, .int .i64 m.next, .int .i64 m.ep, .int .i64 m.why, s, p]
 len _ _ _ := rfl
 one _ _ _ c h := by
  simp only [List.mem_cons, List.not_mem_nil, or_false] at h
  rcases h with rfl | rfl | rfl | rfl | rfl | rfl | rfl | rfl | rfl | rfl <;> first | exact .inr (.inr rfl) | exact .inl rfl | exact .inr (.inl rfl)
 pos := by omega
structure A21H where
 won : Bool
 m : MesH
 n : Int
def shA21 : Shp A21H where
 sz := 12
 enc a s p := [.bool a.won, .int .i64 a.m.kind, .int .i64 a.m.sp, .int .i64 a.m.att, .int .i64 a.m.part, .int .i64 a.m.seq, .int .i64 a.m.next, .int .i64 a.m.ep, .int .i64 a.m.why, s, p, .int .i64 a.n]
 len _ _ _ := rfl
 one _ _ _ c h := by
  simp only [List.mem_cons, List.not_mem_nil, or_false] at h
  rcases h with rfl | rfl | rfl | rfl | rfl | rfl | rfl | rfl | rfl | rfl | rfl | rfl <;> first | exact .inr (.inr rfl) | exact .inl rfl | exact .inr (.inl rfl)
 pos := by omega
structure A23H where
 hear : Bool
 fr : Int
 m : MesH
structure LetH where
 fr : Int
 to : Int
 m : MesH
def shSnap : Shp Int where
 sz := 3
 enc a s p := [s, .int .i64 a, p]
 len _ _ _ := rfl
 one _ _ _ c h := by
  simp only [List.mem_cons, List.not_mem_nil, or_false] at h
  rcases h with rfl | rfl | rfl <;> first | exact .inr (.inr rfl) | exact .inl rfl | exact .inr (.inl rfl)
 pos := by omega
abbrev kMes := kTwo shMes
abbrev kA21 := kTwo shA21
abbrev kSnap := kTwo shSnap
abbrev kSnapF := kTwoF shSnap
def MesH.p (m : MesH) (set : List Int) (ps : List Pair) : Msg := ⟨m.kind, m.sp, m.att, m.part, m.seq, m.next, m.ep, m.why, set, ps⟩
def snapP (x : Two Int) : SnapP := ⟨x.set, x.h, x.pairs⟩
theorem msg_ext {a b : Msg} : a = b ↔ a.kind = b.kind ∧ a.sp = b.sp ∧ a.att = b.att ∧ a.part = b.part ∧ a.seq = b.seq ∧ a.next = b.next ∧ a.ep = b.ep ∧ a.why = b.why ∧ a.set = b.set ∧ a.pairs = b.pairs := by
 constructor
 ·rintro rfl; exact ⟨rfl, rfl, rfl, rfl, rfl, rfl, rfl, rfl, rfl, rfl⟩
 ·rintro ⟨h1, h2, h3, h4, h5, h6, h7, h8, h9, h10⟩
  cases a; cases b
  simp only at h1 h2 h3 h4 h5 h6 h7 h8 h9 h10
  subst h1 h2 h3 h4 h5 h6 h7 h8 h9 h10
  rfl
instance msgD (a b : Msg) : Decidable (a = b) := decidable_of_iff _ msg_ext.symm
/-! ### How they come in -/
section
variable {P : Program} {t : TypeId}
abbrev InM (m : MesH) : Prop := In64 m.kind ∧ In64 m.sp ∧ In64 m.att ∧ In64 m.part ∧ In64 m.seq ∧ In64 m.next ∧ In64 m.ep ∧ In64 m.why
def InT {α : Type} (Q : α → Prop) (W2 : Pair → Prop) (x : Two α) : Prop := Q x.h ∧ ((∀ i ∈ x.set, In64 i) ∧ x.set.length ≤ 9223372036854775807) ∧ ((∀ p ∈ x.pairs, W2 p) ∧ x.pairs.length ≤ 9223372036854775807)
theorem opens_mes {i s p : TypeId} {W2 : Pair → Prop} (hs : stOf P t = some [(i, 0, 1), (i, 1, 1), (i, 2, 1), (i, 3, 1), (i, 4, 1), (i, 5, 1), (i, 6, 1), (i, 7, 1), (s, 8, 1), (p, 9, 1)]) (hc : P.cellsOf t = 10) (hi : P.underlying i = some (.int .i64))
  (h1 : Opens P s (kSl (kInt .i64)) (fun xs => (∀ x ∈ xs, In64 x) ∧ xs.length ≤ 9223372036854775807)) (h2 : Opens P p (kSl kPair) (fun xs => (∀ x ∈ xs, W2 x) ∧ xs.length ≤ 9223372036854775807)) :
  Opens P t kMes (InT InM W2) := by
 intro H enc w fuel cs x h
 obtain ⟨hl, n, hf⟩ := open_st hs h
 rw [hc] at hl
 match cs, hl with
 | [c0, c1, c2, c3, c4, c5, c6, c7, c8, c9], _ =>
  obtain ⟨y0, g0⟩ := hf 0 _ _ _ rfl
  obtain ⟨y1, g1⟩ := hf 1 _ _ _ rfl
  obtain ⟨y2, g2⟩ := hf 2 _ _ _ rfl
  obtain ⟨y3, g3⟩ := hf 3 _ _ _ rfl
  obtain ⟨y4, g4⟩ := hf 4 _ _ _ rfl
  obtain ⟨y5, g5⟩ := hf 5 _ _ _ rfl
  obtain ⟨y6, g6⟩ := hf 6 _ _ _ rfl
  obtain ⟨y7, g7⟩ := hf 7 _ _ _ rfl
  obtain ⟨y8, g8⟩ := hf 8 _ _ _ rfl
  obtain ⟨y9, g9⟩ := hf 9 _ _ _ rfl
  obtain ⟨a0, r0, w0⟩ := opens_int hi enc w n _ _ g0
  obtain ⟨a1, r1, w1⟩ := opens_int hi enc w n _ _ g1
  obtain ⟨a2, r2, w2⟩ := opens_int hi enc w n _ _ g2
  obtain ⟨a3, r3, w3⟩ := opens_int hi enc w n _ _ g3
  obtain ⟨a4, r4, w4⟩ := opens_int hi enc w n _ _ g4
  obtain ⟨a5, r5, w5⟩ := opens_int hi enc w n _ _ g5
  obtain ⟨a6, r6, w6⟩ := opens_int hi enc w n _ _ g6
  obtain ⟨a7, r7, w7⟩ := opens_int hi enc w n _ _ g7
  obtain ⟨a8, r8, w8⟩ := h1 enc w n _ _ g8
  obtain ⟨a9, r9, w9⟩ := h2 enc w n _ _ g9
  have r8' : (kSl (kInt .i64)).R w (Old w) a8 [c8] := r8
  have r9' : (kSl kPair).R w (Old w) a9 [c9] := r9
  refine ⟨⟨⟨a0, a1, a2, a3, a4, a5, a6, a7⟩, c8, a8, c9, a9⟩, ⟨?_, r8', r9'⟩, ⟨w0, w1, w2, w3, w4, w5, w6, w7⟩, w8, w9⟩
  have q0 : [c0] = [Value.int .i64 a0] := r0
  have q1 : [c1] = [Value.int .i64 a1] := r1
  have q2 : [c2] = [Value.int .i64 a2] := r2
  have q3 : [c3] = [Value.int .i64 a3] := r3
  have q4 : [c4] = [Value.int .i64 a4] := r4
  have q5 : [c5] = [Value.int .i64 a5] := r5
  have q6 : [c6] = [Value.int .i64 a6] := r6
  have q7 : [c7] = [Value.int .i64 a7] := r7
  simp only [List.cons.injEq, and_true] at q0 q1 q2 q3 q4 q5 q6 q7
  subst q0 q1 q2 q3 q4 q5 q6 q7
  rfl
theorem opens_a21 {b j i : TypeId} {W2 : Pair → Prop} (hs : stOf P t = some [(b, 0, 1), (j, 1, 10), (i, 11, 1)]) (hc : P.cellsOf t = 12) (hb : P.underlying b = some .bool) (hi : P.underlying i = some (.int .i64)) (hm : Opens P j kMes (InT InM W2)) :
  Opens P t kA21 (InT (fun a => InM a.m ∧ In64 a.n) W2) := by
 intro H enc w fuel cs x h
 obtain ⟨hl, n, hf⟩ := open_st hs h
 rw [hc] at hl
 match cs, hl with
 | [c0, c1, c2, c3, c4, c5, c6, c7, c8, c9, c10, c11], _ =>
  obtain ⟨y0, g0⟩ := hf 0 _ _ _ rfl
  obtain ⟨y1, g1⟩ := hf 1 _ _ _ rfl
  obtain ⟨y2, g2⟩ := hf 2 _ _ _ rfl
  obtain ⟨a0, r0, w0⟩ := opens_bool hb enc w n _ _ g0
  obtain ⟨a1, r1, w1⟩ := hm enc w n _ _ g1
  obtain ⟨a2, r2, w2⟩ := opens_int hi enc w n _ _ g2
  have q0 : [c0] = [Value.bool a0] := r0
  have q2 : [c11] = [Value.int .i64 a2] := r2
  obtain ⟨e, r3, r4⟩ := r1
  have e' : [c1, c2, c3, c4, c5, c6, c7, c8, c9, c10] = shMes.e a1 := e
  simp only [List.cons.injEq, and_true] at q0 q2
  refine ⟨⟨⟨a0, a1.h, a2⟩, a1.sv, a1.set, a1.pv, a1.pairs⟩, ⟨?_, r3, r4⟩, ⟨w1.1, w2⟩, w1.2⟩
  simp only [shMes, Shp.e, List.cons.injEq, and_true] at e'
  obtain ⟨e1, e2, e3, e4, e5, e6, e7, e8, e9, e10⟩ := e'
  rw [q0, q2, e1, e2, e3, e4, e5, e6, e7, e8, e9, e10]
  rfl
end
/-! ### A result in cells, and another one -/
section
variable {P : Program} {fn : Func} {R : Ending → World → Prop} {n : Nat} {l : Env} {w : World} {t : TypeId} {a : Act}
theorem results_ct {s u : Tmp} {sz : Nat} {p : Addr} {cs : List Value} {v : Value} (hr : fn.results = #[.cell s t, .tmp u]) (ha : Fits n l a) (hs : lk l s = some (.pointer (some p))) (hu : lk l u = some v) (ht : tyOf P t = some (true, sz)) (hz : cs.length = sz) (hc : ∀ j v, cs[j]? = some v → w.cell? (p.add j) = some v) :
  (results fn a.tmps).run P w = .ok (.tuple #[.agg cs.toArray, v]) w := by
 have hl := run_loadCells_list (P := P) w p cs hc
 have hg := (ha.get s _ hs).1
 have e2 := (ha.get u _ hu).1
 simp [results, hr]
 simp only [← Array.getD_eq_getD_getElem?, hg, e2]
 simp [asAddr, loadVar, run_isAgg ht, run_sizeOf ht, ← hz, hl]
theorem q_retCT {s u : Tmp} {sz : Nat} {p : Addr} {cs : List Value} {v : Value} (hr : fn.results = #[.cell s t, .tmp u]) (hs : lk l s = some (.pointer (some p))) (hu : lk l u = some v) (ht : tyOf P t = some (true, sz)) (hz : cs.length = sz) (hc : ∀ j v, cs[j]? = some v → w.cell? (p.add j) = some v) (h : R (.returned (.tuple #[.agg cs.toArray, v])) w) : WQ (bodyPost P fn R) .ret n l w :=
 fun a ha => bodyPost_ret (results_ct hr ha hs hu ht hz hc) ha.defers h
end
def stB (st : Stg) : Prop := ∀ a b, (sgOf st a b).length ≤ 40 ∧ ∀ x ∈ sgOf st a b, x.length ≤ 8
structure OkR (n : Nat) (R : Red) : Prop where
 pairs : ∀ i, (R.g i).pairs.length ≤ 1000
 st : stB R.st
 sets : R.sets.length ≤ n
 setl : ∀ s ∈ R.sets, s.length ≤ 1000
theorem OkR.mono {n m : Nat} {R : Red} (h : OkR n R) (hm : n ≤ m) : OkR m R := ⟨h.pairs, h.st, Nat.le_trans h.sets hm, h.setl⟩
theorem flat_le {l : List (List Pair)} {n m : Nat} (h1 : l.length ≤ n) (h2 : ∀ x ∈ l, x.length ≤ m) : l.flatten.length ≤ n * m := by
 have : ∀ l : List (List Pair), (∀ x ∈ l, x.length ≤ m) → l.flatten.length ≤ l.length * m := by
  intro l
  induction l with
  | nil => intro _; simp
  | cons x l ih =>
   intro h
   have h3 := ih fun y hy => h y (List.mem_cons_of_mem _ hy)
   have h4 := h x (List.mem_cons_self ..)
   rw [List.flatten_cons, List.length_append, List.length_cons, Nat.succ_mul]
   omega
 exact Nat.le_trans (this l h2) (Nat.mul_le_mul_right _ h1)
theorem OkR.flat {n : Nat} {R : Red} (h : OkR n R) (a b : Int) : (sgOf R.st a b).flatten.length ≤ 320 := flat_le (h.st a b).1 (h.st a b).2
theorem sgOf_drop (c a b : Int) : ∀ st : Stg, sgOf (sgDrop st c) a b = if a = c then [] else sgOf st a b
 | [] => by unfold sgDrop; simp [sgOf]
 | e :: s => by
  have ih := sgOf_drop c a b s
  unfold sgDrop at ih ⊢
  by_cases h : e.1.1 = c
  ·rw [List.filter_cons_of_neg (by simpa using h), ih]
   by_cases h2 : a = c
   ·rw [if_pos h2, if_pos h2]
   ·rw [if_neg h2, if_neg h2]
    exact (if_neg (fun h3 => h2 (h3.1.symm.trans h))).symm
  ·rw [List.filter_cons_of_pos (p := fun e : (Int × Int) × List (List Pair) => decide (e.1.1 ≠ c)) (decide_eq_true h)]
   show (if e.1.1 = a ∧ e.1.2 = b then e.2 else sgOf (List.filter _ s) a b) = if a = c then [] else (if e.1.1 = a ∧ e.1.2 = b then e.2 else sgOf s a b)
   rw [ih]
   by_cases h2 : a = c
   ·rw [if_pos h2, if_pos h2, if_neg fun h3 => h (h3.1.trans h2)]
   ·rw [if_neg h2, if_neg h2]
theorem sgOf_add2 (c d a b : Int) (x : List Pair) : ∀ st : Stg, sgOf (sgAdd st c d x) a b = if c = a ∧ d = b then sgOf st a b ++ [x] else sgOf st a b
 | [] => by
  show (if c = a ∧ d = b then [x] else sgOf [] a b) = _
  split <;> rfl
 | e :: s => by
  have ih := sgOf_add2 c d a b x s
  show sgOf (if e.1.1 = c ∧ e.1.2 = d then (e.1, e.2 ++ [x]) :: s else e :: sgAdd s c d x) a b = if c = a ∧ d = b then (if e.1.1 = a ∧ e.1.2 = b then e.2 else sgOf s a b) ++ [x] else (if e.1.1 = a ∧ e.1.2 = b then e.2 else sgOf s a b)
  by_cases h : e.1.1 = c ∧ e.1.2 = d
  ·rw [if_pos h]
   show (if e.1.1 = a ∧ e.1.2 = b then e.2 ++ [x] else sgOf s a b) = _
   by_cases h2 : c = a ∧ d = b
   ·have h3 : e.1.1 = a ∧ e.1.2 = b := ⟨h.1.trans h2.1, h.2.trans h2.2⟩
    rw [if_pos h2, if_pos h3, if_pos h3]
   ·have h3 : ¬ (e.1.1 = a ∧ e.1.2 = b) := fun h4 => h2 ⟨h.1.symm.trans h4.1, h.2.symm.trans h4.2⟩
    rw [if_neg h2, if_neg h3, if_neg h3]
  ·rw [if_neg h]
   show (if e.1.1 = a ∧ e.1.2 = b then e.2 else sgOf (sgAdd s c d x) a b) = _
   rw [ih]
   by_cases h2 : c = a ∧ d = b
   ·have h3 : ¬ (e.1.1 = a ∧ e.1.2 = b) := fun h4 => h ⟨h4.1.trans h2.1.symm, h4.2.trans h2.2.symm⟩
    rw [if_pos h2, if_neg h3, if_neg h3, if_pos h2]
   ·rw [if_neg h2, if_neg h2]
theorem stB.drop {st : Stg} (h : stB st) (c : Int) : stB (sgDrop st c) := by
 intro a b
 rw [sgOf_drop]
 split
 ·exact ⟨by simp, fun x hx => by cases hx⟩
 ·exact h a b
theorem stB.put {st : Stg} (h : stB st) {a b q : Int} {x : List Pair} (hx : x.length ≤ 8) : stB (sgPut st a b q x) := by
 unfold sgPut
 split
 ·rename_i hm
  intro c d
  rw [sgOf_add2]
  split
  ·rename_i e
   obtain ⟨rfl, rfl⟩ := e
   have h1 := hm.1
   have h2 := hm.2.2.2
   unfold sgNext at h1
   refine ⟨by rw [List.length_append, List.length_singleton]; omega, fun y hy => ?_⟩
   rcases List.mem_append.1 hy with hy | hy
   ·exact (h _ _).2 y hy
   ·rw [List.mem_singleton.1 hy]; exact hx
  ·exact h c d
 ·exact h
theorem OkR.looks {n : Nat} {J : Job} {R : Red} (h : OkR n R) (h6 : J.us.length ≤ 6) (k : Nat) : OkR (n + 1) (looksR J R k).1 := by
 have hg : ∀ ps : List Pair, ps.length ≤ 40 → ∀ i, ((setD R.g k { R.g k with merged := true, pairs := ps } : Nat → SpD) i).pairs.length ≤ 1000 := fun ps hps i => by
  by_cases e : i = k
  ·subst e
   rw [setD_self]
   show ps.length ≤ 1000
   omega
  ·rw [setD_ne _ _ e]
   exact h.pairs i
 have h' : OkR (n + 1) R := h.mono (Nat.le_succ n)
 unfold looksR
 split
 ·exact h'
 ·split
  ·exact h'
  ·split
   ·exact h'
   ·rename_i hl
    dsimp only
    split
    ·refine ⟨hg _ (by omega), h.st.drop _, by show (R.sets ++ [_]).length ≤ n + 1; rw [List.length_append, List.length_singleton]; have := h.sets; omega, fun s hs => ?_⟩
     rcases List.mem_append.1 hs with hs | hs
     ·exact h.setl s hs
     ·rw [List.mem_singleton.1 hs]
      exact Nat.le_trans (merged_len _ _) (by omega)
    ·exact ⟨hg _ (by omega), h.st.drop _, Nat.le_succ_of_le h.sets, h.setl⟩
theorem OkR.push {n : Nat} {J : Job} {R : Red} (h : OkR n R) (h6 : J.us.length ≤ 6) (m : Msg) : OkR (n + 1) (pushR J R m).1 := by
 unfold pushR
 split
 ·exact h.mono (Nat.le_succ n)
 ·show OkR (n + 1) (pushS J R m).1
  unfold pushS
  split
  ·rename_i ht
   exact OkR.looks (R := { R with st := sgPut R.st m.sp m.att m.seq m.pairs }) ⟨h.pairs, h.st.put ht.2.1, h.sets, h.setl⟩ h6 _
  ·exact h.mono (Nat.le_succ n)
theorem OkR.won {n : Nat} {J : Job} {t : Int} {R : Red} (h : OkR n R) (h6 : J.us.length ≤ 6) (sp att cnt : Int) : OkR (n + 1) (wonR J t R sp att cnt).1 := by
 unfold wonR
 split
 ·exact h.mono (Nat.le_succ n)
 ·refine OkR.looks (R := { R with g := setD R.g sp.toNat { R.g sp.toNat with told := true, att := att, cnt := cnt } }) ⟨fun i => ?_, h.st, h.sets, h.setl⟩ h6 _
  show ((setD R.g sp.toNat { R.g sp.toNat with told := true, att := att, cnt := cnt } : Nat → SpD) i).pairs.length ≤ 1000
  by_cases e : i = sp.toNat
  ·subst e; rw [setD_self]; exact h.pairs _
  ·rw [setD_ne _ _ e]; exact h.pairs i
theorem new_sets (n : Nat) (p ep : Int) (rs : List RecP) : (newR n p ep rs).sets.length ≤ rs.length := by
 have key : ∀ rs : List RecP, (newR n p ep rs.reverse).sets.length ≤ rs.length := by
  intro rs
  induction rs with
  | nil => simp [newR, red0]
  | cons x rs ih =>
   rw [List.reverse_cons, newR_snoc, List.length_cons]
   have hx : ∀ R : Red, (recIn n R x).sets.length ≤ R.sets.length + 1 := by
    intro R
    unfold recIn
    dsimp only
    split
    ·omega
    ·split <;> split <;> simp
   have := hx (newR n p ep rs.reverse)
   omega
 have := key rs.reverse
 rwa [List.reverse_reverse, List.length_reverse] at this
theorem new_setl (n : Nat) (p ep : Int) (b : Nat) (rs : List RecP) (h : ∀ r ∈ rs, r.set.length ≤ b) : ∀ s ∈ (newR n p ep rs).sets, s.length ≤ b := by
 have key : ∀ (rs : List RecP) (R : Red), (∀ r ∈ rs, r.set.length ≤ b) → (∀ s ∈ R.sets, s.length ≤ b) → ∀ s ∈ (rs.foldl (recIn n) R).sets, s.length ≤ b := by
  intro rs
  induction rs with
  | nil => intro R _ h; exact h
  | cons x rs ih =>
   intro R hr hR
   refine ih (recIn n R x) (fun r hq => hr r (List.mem_cons_of_mem _ hq)) ?_
   have hx := hr x (List.mem_cons_self ..)
   have hc : ∀ R1 : Red, R1.sets = R.sets → ∀ s ∈ (if x.kind = 5 then ({ R1 with sets := R1.sets ++ [x.set] } : Red) else R1).sets, s.length ≤ b := by
    intro R1 e s hs
    split at hs
    ·rcases List.mem_append.1 hs with hs | hs
     ·rw [e] at hs; exact hR s hs
     ·rw [List.mem_singleton.1 hs]; exact hx
    ·rw [e] at hs; exact hR s hs
   unfold recIn
   dsimp only
   split
   ·exact hR
   ·refine hc _ ?_
    split <;> rfl
 exact key rs (red0 p ep) h fun s hs => by cases hs
theorem OkR.new {n : Nat} {p ep : Int} {rs : List RecP} (h : ∀ r ∈ rs, r.pairs.length ≤ 1000 ∧ r.set.length ≤ 1000) : OkR rs.length (newR n p ep rs) := ⟨newR_pairs fun r hr => (h r hr).1, by rw [(newR_part n p ep rs).2.2]; exact fun a b => ⟨by simp [sgOf], fun x hx => by cases hx⟩, new_sets n p ep rs, new_setl n p ep 1000 rs fun r hr => (h r hr).2⟩
theorem some_getD {α : Type} {o : Option α} (d : α) (h : o.isSome = true) : o = some (o.getD d) := by
 cases o with
 | none => cases h
 | some x => rfl
theorem none_of {α : Type} {o : Option α} (h : ¬ o.isSome = true) : o = none := by
 cases o with
 | none => rfl
 | some x => exact absurd rfl h
section
variable {J : Job} {R R1 : Red} {k : Nat} {n : Int} {ps : List Pair}
theorem looks_no1 (h : ¬ (R.g k).told = true) : looksR J R k = (R, []) := by
 unfold looksR
 rw [if_pos (by simpa using h)]
theorem looks_no2 (hn : ((k : Nat) : Int) = n) (h : sgTake R.st n (R.g k).att (R.g k).cnt = none) : looksR J R k = (R, []) := by
 unfold looksR
 rw [hn, h]
 split <;> rfl
theorem looks_no3 (hn : ((k : Nat) : Int) = n) (h : sgTake R.st n (R.g k).att (R.g k).cnt = some ps) (hl : 40 < ps.length) : looksR J R k = (R, []) := by
 unfold looksR
 rw [hn, h]
 dsimp only
 rw [if_pos hl]
 split <;> rfl
theorem looks_one (hn : ((k : Nat) : Int) = n) (ht : (R.g k).told = true) (h : sgTake R.st n (R.g k).att (R.g k).cnt = some ps) (hl : ps.length ≤ 40) (h1 : R1 = { R with g := setD R.g k { R.g k with merged := true, pairs := ps }, st := sgDrop R.st n }) (hm : ¬ ((mergedL J.us.length R1).length : Int) ∈ J.marks) :
  looksR J R k = (R1, [⟨4, R.part, n, (R.g k).att, 0, [], ps⟩]) := by
 unfold looksR
 rw [if_neg (by rw [ht]; decide), hn, h]
 dsimp only
 rw [if_neg (by omega), ← h1, if_neg hm]
theorem looks_two (hn : ((k : Nat) : Int) = n) (ht : (R.g k).told = true) (h : sgTake R.st n (R.g k).att (R.g k).cnt = some ps) (hl : ps.length ≤ 40) (h1 : R1 = { R with g := setD R.g k { R.g k with merged := true, pairs := ps }, st := sgDrop R.st n }) (hm : ((mergedL J.us.length R1).length : Int) ∈ J.marks) :
  looksR J R k = ({ R1 with sets := R1.sets ++ [mergedL J.us.length R1] }, [⟨4, R.part, n, (R.g k).att, 0, [], ps⟩, ⟨5, R.part, 0, 0, 0, mergedL J.us.length R1, []⟩]) := by
 unfold looksR
 rw [if_neg (by rw [ht]; decide), hn, h]
 dsimp only
 rw [if_neg (by omega), ← h1, if_pos hm]
 subst h1
 rfl
end
theorem prsS_congr {g g' : Nat → SpD} {hv : Nat → Value} (h : ∀ i, (g i).pairs = (g' i).pairs) : prsS g hv = prsS g' hv := by
 unfold prsS
 exact big_eq fun i _ => by unfold prsF; rw [h i]
theorem setD_setD {α : Type} (g : Nat → α) (k : Nat) (a b : α) : setD (setD g k a) k b = setD g k b := by
 funext j
 by_cases e : j = k
 ·subst e; rw [setD_self, setD_self]
 ·rw [setD_ne _ _ e, setD_ne _ _ e, setD_ne _ _ e]
theorem setD_pairs {g : Nat → SpD} {k : Nat} {x : SpD} (h : x.pairs = (g k).pairs) (i : Nat) : (g i).pairs = (setD g k x i).pairs := by
 by_cases e : i = k
 ·subst e; rw [setD_self, h]
 ·rw [setD_ne _ _ e]
/-! ### Once -/
/-! ### Records -/
structure RelR (n : Nat) (R N : Red) : Prop where
 part : N.part = R.part
 g : ∀ s, s < n → (N.g s).merged = (R.g s).merged ∧ (N.g s).pairs = (R.g s).pairs
 sets : N.sets = R.sets
theorem looks_part (J : Job) (R : Red) (k : Nat) : (looksR J R k).1.part = R.part ∧ (looksR J R k).1.ep = R.ep := by
 unfold looksR
 split
 ·exact ⟨rfl, rfl⟩
 ·split
  ·exact ⟨rfl, rfl⟩
  ·split
   ·exact ⟨rfl, rfl⟩
   ·dsimp only
    split <;> exact ⟨rfl, rfl⟩
theorem pushR_no {J : Job} {R : Red} {m : Msg} (h : pushNo J R m) : pushR J R m = (R, msg0, []) := if_pos h
theorem pushR_yes {J : Job} {R : Red} {m : Msg} (h : ¬ pushNo J R m) : pushR J R m = ((pushS J R m).1, ackR (pushS J R m).1 m, (pushS J R m).2) := if_neg h
theorem pushS_no {J : Job} {R : Red} {m : Msg} (h : ¬ pushTakes R m) : pushS J R m = (R, []) := if_neg h
theorem pushS_yes {J : Job} {R : Red} {m : Msg} (h : pushTakes R m) : pushS J R m = looksR J { R with st := sgPut R.st m.sp m.att m.seq m.pairs } m.sp.toNat := if_pos h
theorem ackR_is {R : Red} {m : Msg} {part ep nx : Int} (h1 : R.part = part) (h2 : R.ep = ep) (h3 : (if (R.g m.sp.toNat).merged = true then 40 else sgNext R.st m.sp m.att) = nx) : ackR R m = ⟨3, m.sp, m.att, part, 0, nx, ep, 0, [], []⟩ := by
 subst h1 h2 h3; rfl
theorem snaps_step {D : Dig} {J : Job} {R : Red} {us : List (Value × List Int)} (hs : us.map (fun u => u.2) = R.sets) {k : Nat} {v : Value} {set : List Int} (h : us[k]? = some (v, set)) : (snapsR D J R).take (k + 1) = (snapsR D J R).take k ++ [⟨set, (ofR D J R set).2, (ofR D J R set).1⟩] := by
 have hx : R.sets[k]? = some set := by rw [← hs, List.getElem?_map, h]; rfl
 exact take_snoc (by unfold snapsR; rw [List.getElem?_map, hx]; rfl)
theorem snaps_len {D : Dig} {J : Job} {R : Red} {us : List (Value × List Int)} (hs : us.map (fun u => u.2) = R.sets) : (snapsR D J R).length = us.length := by
 unfold snapsR; rw [List.length_map, ← hs, List.length_map]
theorem us_len {n : Nat} {R : Red} {us : List (Value × List Int)} (hs : us.map (fun u => u.2) = R.sets) (h : OkR n R) (hn : n ≤ 100000) : us.length ≤ 100000 := by
 have := h.sets
 rw [← hs, List.length_map] at this
 omega
theorem us_small {n : Nat} {R : Red} {us : List (Value × List Int)} (hs : us.map (fun u => u.2) = R.sets) (h : OkR n R) : ∀ u ∈ us, u.2.length ≤ 1000 := fun u hu => h.setl u.2 (by rw [← hs]; exact List.mem_map_of_mem hu)
/-! ### Six slices in a row -/
def greatSP (set : List Int) (pairs : List Pair) : Bool := decide (20 < (set.length : Int)) || greatP pairs 50
section
variable {α : Type} {J : Job} {rs : List Rec} {acts : List (Two α)} {most : Int}
end
/-! ### Lists of structs held against one another -/
theorem snap_ext {a b : SnapP} : a = b ↔ a.why = b.why ∧ a.set = b.set ∧ a.pairs = b.pairs := by
 constructor
 ·rintro rfl; exact ⟨rfl, rfl, rfl⟩
 ·rintro ⟨h1, h2, h3⟩
  cases a; cases b
  simp only at h1 h2 h3
  subst h1 h2 h3
  rfl
instance snapPD (a b : SnapP) : Decidable (a = b) := decidable_of_iff _ snap_ext.symm
/-! ### A small configuration -/
def oneR : List Pair := [⟨⟨#[98]⟩, ⟨#[49]⟩⟩]
def small21 (u : Value) : Cf := ⟨⟨[(u, oneR), (nilS, [])], 1, firstP, [], firstP, 1, 1, 9, [1]⟩, 1, 2, 1⟩
theorem small21_may (u : Value) : mayC (small21 u) := by
 refine ⟨⟨(show 1 ≤ ((2 : Nat) : Int) ∧ ((2 : Nat) : Int) ≤ 6 by decide), (show (1 : Int) ≤ 1 ∧ (1 : Int) ≤ 4 by decide), (show 1 ≤ 4 by decide), ?_, ?_, (show 0 < firstP.length ∧ badI firstP < 0 by decide +kernel), (show 0 < firstP.length ∧ badI firstP < 0 by decide +kernel), (show badI [] < 0 by decide +kernel),
  (show (1 : Int) ≤ 1 ∧ (1 : Int) ≤ 7 by decide), (show (1 : Int) ≤ 1 ∧ (1 : Int) ≤ 4 by decide), (show (1 : Int) ≤ 9 ∧ (9 : Int) ≤ 2000 by decide)⟩, (show (1 : Int) ≤ 1 ∧ (1 : Int) ≤ 4 by decide), (show (1 : Int) ≤ 2 ∧ (2 : Int) ≤ 3 by decide), (show (1 : Int) ≤ 1 ∧ (1 : Int) ≤ 50 by decide)⟩
 ·intro x hx
  rcases List.mem_cons.1 hx with rfl | hx
  ·show okSplit oneR
   decide
  ·rw [List.mem_singleton.1 hx]
   show okSplit []
   decide
 ·show marksUp ((2 : Nat) : Int) 0 [1]
  decide
theorem small21_home (u : Value) : homeC (small21 u) 0 ≠ 0 := home_pos (small21_may u) (by decide) (show (0 : Int) < 1 by decide)
def aw0 : Red := newR 2 0 1 []
def aw1 (J : Job) : Red × List RecP := wonR J 2 aw0 1 1 0
def awM : Msg := ⟨2, 0, 1, 0, 0, 0, 0, 0, [], oneR⟩
def aw2 (J : Job) : Red × Msg × List RecP := pushR J (aw1 J).1 awM
def aw3 (J : Job) : Red × List RecP := wonR J 2 (aw2 J).1 0 1 1
theorem aw_job {J : Job} {u : Value} (h : SameJ J (small21 u).J) : ∃ a b, J = ⟨[(a, oneR), (b, [])], 1, firstP, [], firstP, 1, 1, 9, [1]⟩ := by
 obtain ⟨h1, h2⟩ := h
 have hl : J.us.length = 2 := by have := congrArg List.length h1; simpa [small21] using this
 match hu : J.us, hl with
 | [(a, x), (b, y)], _ =>
  rw [hu] at h1
  have h3 : [x, y] = [oneR, []] := h1
  simp only [List.cons.injEq, and_true] at h3
  obtain ⟨rfl, rfl⟩ := h3
  refine ⟨a, b, h2.trans ?_⟩
  rw [hu]
  rfl
theorem aw_all {J : Job} {u : Value} (h : SameJ J (small21 u).J) : (aw1 J).2.length = 2 ∧ (aw2 J).2.1.next = 1 ∧ (aw2 J).2.2.length = 0 ∧ (aw3 J).2.length = 1 ∧ mergedL J.us.length (aw3 J).1 = [0, 1] ∧ (aw3 J).1.sets.length = 1 := by
 obtain ⟨a, b, rfl⟩ := aw_job h
 exact ⟨by kernel_rfl, by kernel_rfl, by kernel_rfl, by kernel_rfl, by kernel_rfl, by kernel_rfl⟩
theorem aw_out {D : Dig} {J : Job} {u : Value} (h : SameJ J (small21 u).J) : (outR D J (aw3 J).1).1 = oneR ∧ (outR D J (aw3 J).1).2.2 = true := by
 have h5 := (aw_all h).2.2.2.2.1
 obtain ⟨a, b, rfl⟩ := aw_job h
 unfold outR
 rw [h5, if_neg (by show ¬ (2 : Nat) < 2; decide)]
 refine ⟨?_, rfl⟩
 unfold ofR
 have e : srt (runsOf ([(a, oneR), (b, [])] : List (Value × List Pair)).length (aw3 ⟨[(a, oneR), (b, [])], 1, firstP, [], firstP, 1, 1, 9, [1]⟩).1 [0, 1]) = oneR := by
  have e1 : runsOf ([(a, oneR), (b, [])] : List (Value × List Pair)).length (aw3 ⟨[(a, oneR), (b, [])], 1, firstP, [], firstP, 1, 1, 9, [1]⟩).1 [0, 1] = oneR := by kernel_rfl
  rw [e1]
  decide
 show (eachM D firstP (srt (runsOf ([(a, oneR), (b, [])] : List (Value × List Pair)).length (aw3 ⟨[(a, oneR), (b, [])], 1, firstP, [], firstP, 1, 1, 9, [1]⟩).1 [0, 1])) 9 false).1 = oneR
 rw [e]
 unfold eachM
 rw [show keysL oneR = [⟨#[98]⟩] from (keys_ref _).trans (by decide)]
 kernel_rfl
theorem aw_ok0 : OkR 0 aw0 := OkR.new (rs := []) fun r h => by cases h
theorem aw_ok {J : Job} (h6 : J.us.length ≤ 6) : OkR 99000 aw0 ∧ OkR 99000 (aw1 J).1 ∧ OkR 99000 (aw2 J).1 ∧ OkR 99000 (aw3 J).1 := by
 have h0 := aw_ok0
 have h1 : OkR 1 (aw1 J).1 := h0.won h6 _ _ _
 have h2 : OkR 2 (aw2 J).1 := h1.push h6 _
 have h3 : OkR 3 (aw3 J).1 := h2.won h6 _ _ _
 exact ⟨h0.mono (by omega), h1.mono (by omega), h2.mono (by omega), h3.mono (by omega)⟩
theorem greatMsg_ok (x : MesH) (xsv : Value) (xse : List Int) (xpv : Value) (xpr : List Pair) :
    Cn Tryz.prog 62 [.agg #[.int .i64 x.kind, .int .i64 x.sp, .int .i64 x.att, .int .i64 x.part, .int .i64 x.seq, .int .i64 x.next, .int .i64 x.ep, .int .i64 x.why, xsv, xpv]] [] [rsl (kInt .i64) xsv xse, rsl kPair xpv xpr] (fun v Bs => v = .bool (greatSP xse xpr) ∧ Bs = []) := by
 intro w0 F0 H
 obtain ⟨A1, c2, rfl, hc3, hm4, hp5⟩ := H.fR 0 rfl
 obtain ⟨A6, c7, rfl, hc8, hm9, hp10⟩ := H.fR 1 rfl
 refine enter Tryz.func62 rfl rfl (Nat.le_of_ble_eq_true rfl) (c_seq (c_reg (s_box rfl rfl rfl rfl H (fun b11 w H => (s_1 rfl (s_nil (q_then ?_)))))))
 replace H : Hd _ _ _ [blk b11 [.int .i64 x.kind, .int .i64 x.sp, .int .i64 x.att, .int .i64 x.part, .int .i64 x.seq, .int .i64 x.next, .int .i64 x.ep, .int .i64 x.why, .slice A1 xse.length c2, .slice A6 xpr.length c7] 64] [rsl (kInt .i64) (.slice A1 xse.length c2) xse, rsl kPair (.slice A6 xpr.length c7) xpr] := H
 refine c_seq (c_reg (s_val rfl rfl (r_fa rfl fo64_8 rfl) (s_val rfl rfl (r_ld rfl ty24 rfl (H.cellI 0 rfl rfl)) (s_val rfl rfl (r_lenL rfl un24 rfl) (s_val rfl rfl (r_gt rfl rfl rfl) (s_1 rfl ?_))))))
 refine s_dec (d := 7) rfl (fun h12 => ?_) (fun h12 => ?_)
 ·refine s_k 5 rfl (s_nil (q_then (c_ret (q_ret1 rfl rfl ?_))))
  replace H := H.nil
  exact fin ⟨by unfold greatSP; rw [decide_eq_true (by omega)]; rfl, rfl⟩ H
 refine s_val rfl rfl (r_fa rfl fo64_9 rfl) (s_val rfl rfl (r_ld rfl ty35 rfl (H.cellI 0 rfl rfl)) (sc (greatPairs_ok (.slice A6 xpr.length c7) xpr 50) H (lR 1 rfl l0) rfl rfl (e_fn kn23 rfl rfl) ?_))
 rintro _ _ w ⟨rfl, rfl⟩ H
 refine s_k 2 rfl (s_nil (q_then (c_ret (q_ret1 rfl rfl ?_))))
 replace H := H.nil
 replace H : Hd _ _ _ [] [rsl (kInt .i64) (.slice A1 xse.length c2) xse, rsl kPair (.slice A6 xpr.length c7) xpr] := H
 exact fin ⟨by unfold greatSP; rw [decide_eq_false (by omega)]; rfl, rfl⟩ H
theorem sameMsg_ok (x : MesH) (xsv : Value) (xse : List Int) (xpv : Value) (xpr : List Pair) (y : MesH) (ysv : Value) (yse : List Int) (ypv : Value) (ypr : List Pair) :
    Cn Tryz.prog 63 [.agg #[.int .i64 x.kind, .int .i64 x.sp, .int .i64 x.att, .int .i64 x.part, .int .i64 x.seq, .int .i64 x.next, .int .i64 x.ep, .int .i64 x.why, xsv, xpv], .agg #[.int .i64 y.kind, .int .i64 y.sp, .int .i64 y.att, .int .i64 y.part, .int .i64 y.seq, .int .i64 y.next, .int .i64 y.ep, .int .i64 y.why, ysv, ypv]] [] [rsl (kInt .i64) xsv xse, rsl kPair xpv xpr, rsl (kInt .i64) ysv yse, rsl kPair ypv ypr] (fun v Bs => v = .bool (decide (x.p xse xpr = y.p yse ypr)) ∧ Bs = []) := by
 intro w0 F0 H
 obtain ⟨A1, c2, rfl, hc3, hm4, hp5⟩ := H.fR 0 rfl
 obtain ⟨A6, c7, rfl, hc8, hm9, hp10⟩ := H.fR 1 rfl
 obtain ⟨A11, c12, rfl, hc13, hm14, hp15⟩ := H.fR 2 rfl
 obtain ⟨A16, c17, rfl, hc18, hm19, hp20⟩ := H.fR 3 rfl
 refine enter Tryz.func63 rfl rfl (Nat.le_of_ble_eq_true rfl) (c_seq (c_reg (s_box rfl rfl rfl rfl H (fun b21 w H => (s_box rfl rfl rfl rfl H (fun b22 w H => (s_1 rfl (s_nil (q_then ?_)))))))))
 replace H : Hd _ _ _ [blk b22 [.int .i64 y.kind, .int .i64 y.sp, .int .i64 y.att, .int .i64 y.part, .int .i64 y.seq, .int .i64 y.next, .int .i64 y.ep, .int .i64 y.why, .slice A11 yse.length c12, .slice A16 ypr.length c17] 64, blk b21 [.int .i64 x.kind, .int .i64 x.sp, .int .i64 x.att, .int .i64 x.part, .int .i64 x.seq, .int .i64 x.next, .int .i64 x.ep, .int .i64 x.why, .slice A1 xse.length c2, .slice A6 xpr.length c7] 64] [rsl (kInt .i64) (.slice A1 xse.length c2) xse, rsl kPair (.slice A6 xpr.length c7) xpr, rsl (kInt .i64) (.slice A11 yse.length c12) yse, rsl kPair (.slice A16 ypr.length c17) ypr] := H
 refine c_seq (c_reg (s_val rfl rfl (r_fa rfl fo64_0 rfl) (s_val rfl rfl (r_ld rfl ty3 rfl (H.cellI 1 rfl rfl)) (s_val rfl rfl (r_fa rfl fo64_0 rfl) (s_val rfl rfl (r_ld rfl ty3 rfl (H.cellI 0 rfl rfl)) (s_val rfl rfl (r_eq rfl rfl rfl) (s_1 rfl ?_)))))))
 refine s_dec (d := 11) rfl (fun h23 => ?_) (fun h23 => ?_)
 ·refine s_val rfl rfl (r_fa rfl fo64_1 rfl) (s_val rfl rfl (r_ld rfl ty3 rfl (H.cellI 1 rfl rfl)) (s_val rfl rfl (r_fa rfl fo64_1 rfl) (s_val rfl rfl (r_ld rfl ty3 rfl (H.cellI 0 rfl rfl)) (s_val rfl rfl (r_eq rfl rfl rfl) (s_k 2 rfl ?_)))))
  refine s_dec (d := 18) rfl (fun h24 => ?_) (fun h24 => ?_)
  ·refine s_val rfl rfl (r_fa rfl fo64_2 rfl) (s_val rfl rfl (r_ld rfl ty3 rfl (H.cellI 1 rfl rfl)) (s_val rfl rfl (r_fa rfl fo64_2 rfl) (s_val rfl rfl (r_ld rfl ty3 rfl (H.cellI 0 rfl rfl)) (s_val rfl rfl (r_eq rfl rfl rfl) (s_k 2 rfl ?_)))))
   refine s_dec (d := 25) rfl (fun h25 => ?_) (fun h25 => ?_)
   ·refine s_val rfl rfl (r_fa rfl fo64_3 rfl) (s_val rfl rfl (r_ld rfl ty3 rfl (H.cellI 1 rfl rfl)) (s_val rfl rfl (r_fa rfl fo64_3 rfl) (s_val rfl rfl (r_ld rfl ty3 rfl (H.cellI 0 rfl rfl)) (s_val rfl rfl (r_eq rfl rfl rfl) (s_k 2 rfl ?_)))))
    refine s_dec (d := 32) rfl (fun h26 => ?_) (fun h26 => ?_)
    ·refine s_val rfl rfl (r_fa rfl fo64_4 rfl) (s_val rfl rfl (r_ld rfl ty3 rfl (H.cellI 1 rfl rfl)) (s_val rfl rfl (r_fa rfl fo64_4 rfl) (s_val rfl rfl (r_ld rfl ty3 rfl (H.cellI 0 rfl rfl)) (s_val rfl rfl (r_eq rfl rfl rfl) (s_k 2 rfl ?_)))))
     refine s_dec (d := 39) rfl (fun h27 => ?_) (fun h27 => ?_)
     ·refine s_val rfl rfl (r_fa rfl fo64_5 rfl) (s_val rfl rfl (r_ld rfl ty3 rfl (H.cellI 1 rfl rfl)) (s_val rfl rfl (r_fa rfl fo64_5 rfl) (s_val rfl rfl (r_ld rfl ty3 rfl (H.cellI 0 rfl rfl)) (s_val rfl rfl (r_eq rfl rfl rfl) (s_k 2 rfl (s_nil (q_then (c_seq (c_reg (s_k 2 rfl ?_))))))))))
      refine s_dec (d := 47) rfl (fun h28 => ?_) (fun h28 => ?_)
      ·refine s_val rfl rfl (r_fa rfl fo64_6 rfl) (s_val rfl rfl (r_ld rfl ty3 rfl (H.cellI 1 rfl rfl)) (s_val rfl rfl (r_fa rfl fo64_6 rfl) (s_val rfl rfl (r_ld rfl ty3 rfl (H.cellI 0 rfl rfl)) (s_val rfl rfl (r_eq rfl rfl rfl) (s_k 2 rfl ?_)))))
       refine s_dec (d := 54) rfl (fun h29 => ?_) (fun h29 => ?_)
       ·refine s_val rfl rfl (r_fa rfl fo64_7 rfl) (s_val rfl rfl (r_ld rfl ty3 rfl (H.cellI 1 rfl rfl)) (s_val rfl rfl (r_fa rfl fo64_7 rfl) (s_val rfl rfl (r_ld rfl ty3 rfl (H.cellI 0 rfl rfl)) (s_val rfl rfl (r_eq rfl rfl rfl) (s_k 2 rfl ?_)))))
        refine s_dec (d := 61) rfl (fun h30 => ?_) (fun h30 => ?_)
        ·refine s_val rfl rfl (r_fa rfl fo64_8 rfl) (s_val rfl rfl (r_ld rfl ty24 rfl (H.cellI 1 rfl rfl)) (s_val rfl rfl (r_fa rfl fo64_8 rfl) (s_val rfl rfl (r_ld rfl ty24 rfl (H.cellI 0 rfl rfl)) (sc (sameInts_ok (.slice A1 xse.length c2) (.slice A11 yse.length c12) xse yse) H (lR 0 rfl (lR 2 rfl l0)) rfl rfl (e_fn kn33 rfl rfl) ?_))))
         rintro _ _ w ⟨rfl, rfl⟩ H
         refine s_k 2 rfl ?_
         refine s_dec (d := 68) rfl (fun h31 => ?_) (fun h31 => ?_)
         ·refine s_val rfl rfl (r_fa rfl fo64_9 rfl) (s_val rfl rfl (r_ld rfl ty35 rfl (H.cellI 1 rfl rfl)) (s_val rfl rfl (r_fa rfl fo64_9 rfl) (s_val rfl rfl (r_ld rfl ty35 rfl (H.cellI 0 rfl rfl)) (sc (samePairs_ok (.slice A6 xpr.length c7) (.slice A16 ypr.length c17) xpr ypr) H (lR 1 rfl (lR 3 rfl l0)) rfl rfl (e_fn kn25 rfl rfl) ?_))))
          rintro _ _ w ⟨rfl, rfl⟩ H
          refine s_k 2 rfl (s_nil (q_then (c_ret (q_ret1 rfl rfl ?_))))
          have e : xpr = ypr ↔ x.p xse xpr = y.p yse ypr := ⟨fun h => msg_ext.2 ⟨by assumption, by assumption, by assumption, by assumption, by assumption, by assumption, by assumption, by assumption, by assumption, h⟩, fun h => (msg_ext.1 h).2.2.2.2.2.2.2.2.2⟩
          replace H := H.nil
          replace H : Hd _ _ _ [] [rsl (kInt .i64) (.slice A1 xse.length c2) xse, rsl kPair (.slice A6 xpr.length c7) xpr, rsl (kInt .i64) (.slice A11 yse.length c12) yse, rsl kPair (.slice A16 ypr.length c17) ypr] := H
          exact fin ⟨congrArg Value.bool (decide_eq_decide.2 e), rfl⟩ H
         refine s_k 7 rfl (s_nil (q_then (c_ret (q_ret1 rfl rfl ?_))))
         have e : ¬ x.p xse xpr = y.p yse ypr := fun h => by obtain ⟨g1, g2, g3, g4, g5, g6, g7, g8, g9, g10⟩ := msg_ext.1 h; first | exact absurd g1 h31 | exact absurd g2 h31 | exact absurd g3 h31 | exact absurd g4 h31 | exact absurd g5 h31 | exact absurd g6 h31 | exact absurd g7 h31 | exact absurd g8 h31 | exact absurd g9 h31 | exact absurd g10 h31
         replace H := H.nil
         replace H : Hd _ _ _ [] [rsl (kInt .i64) (.slice A1 xse.length c2) xse, rsl kPair (.slice A6 xpr.length c7) xpr, rsl (kInt .i64) (.slice A11 yse.length c12) yse, rsl kPair (.slice A16 ypr.length c17) ypr] := H
         exact fin ⟨congrArg Value.bool (decide_eq_false e).symm, rfl⟩ H
        refine s_k 12 rfl (s_k 2 rfl (s_nil (q_then (c_ret (q_ret1 rfl rfl ?_)))))
        have e : ¬ x.p xse xpr = y.p yse ypr := fun h => by obtain ⟨g1, g2, g3, g4, g5, g6, g7, g8, g9, g10⟩ := msg_ext.1 h; first | exact absurd g1 h30 | exact absurd g2 h30 | exact absurd g3 h30 | exact absurd g4 h30 | exact absurd g5 h30 | exact absurd g6 h30 | exact absurd g7 h30 | exact absurd g8 h30 | exact absurd g9 h30 | exact absurd g10 h30
        replace H := H.nil
        exact fin ⟨congrArg Value.bool (decide_eq_false e).symm, rfl⟩ H
       refine s_k 12 rfl (s_k 9 rfl (s_nil (q_then (c_ret (q_ret1 rfl rfl ?_)))))
       have e : ¬ x.p xse xpr = y.p yse ypr := fun h => by obtain ⟨g1, g2, g3, g4, g5, g6, g7, g8, g9, g10⟩ := msg_ext.1 h; first | exact absurd g1 h29 | exact absurd g2 h29 | exact absurd g3 h29 | exact absurd g4 h29 | exact absurd g5 h29 | exact absurd g6 h29 | exact absurd g7 h29 | exact absurd g8 h29 | exact absurd g9 h29 | exact absurd g10 h29
       replace H := H.nil
       exact fin ⟨congrArg Value.bool (decide_eq_false e).symm, rfl⟩ H
      refine s_k 12 rfl (s_k 12 rfl (s_k 4 rfl (s_nil (q_then (c_ret (q_ret1 rfl rfl ?_))))))
      have e : ¬ x.p xse xpr = y.p yse ypr := fun h => by obtain ⟨g1, g2, g3, g4, g5, g6, g7, g8, g9, g10⟩ := msg_ext.1 h; first | exact absurd g1 h28 | exact absurd g2 h28 | exact absurd g3 h28 | exact absurd g4 h28 | exact absurd g5 h28 | exact absurd g6 h28 | exact absurd g7 h28 | exact absurd g8 h28 | exact absurd g9 h28 | exact absurd g10 h28
      replace H := H.nil
      exact fin ⟨congrArg Value.bool (decide_eq_false e).symm, rfl⟩ H
     refine s_k 7 rfl (s_nil (q_then (c_seq (c_reg (s_k 12 rfl (s_k 12 rfl (s_k 6 rfl (s_nil (q_then (c_ret (q_ret1 rfl rfl ?_)))))))))))
     have e : ¬ x.p xse xpr = y.p yse ypr := fun h => by obtain ⟨g1, g2, g3, g4, g5, g6, g7, g8, g9, g10⟩ := msg_ext.1 h; first | exact absurd g1 h27 | exact absurd g2 h27 | exact absurd g3 h27 | exact absurd g4 h27 | exact absurd g5 h27 | exact absurd g6 h27 | exact absurd g7 h27 | exact absurd g8 h27 | exact absurd g9 h27 | exact absurd g10 h27
     replace H := H.nil
     exact fin ⟨congrArg Value.bool (decide_eq_false e).symm, rfl⟩ H
    refine s_k 12 rfl (s_k 2 rfl (s_nil (q_then (c_seq (c_reg (s_k 12 rfl (s_k 12 rfl (s_k 6 rfl (s_nil (q_then (c_ret (q_ret1 rfl rfl ?_))))))))))))
    have e : ¬ x.p xse xpr = y.p yse ypr := fun h => by obtain ⟨g1, g2, g3, g4, g5, g6, g7, g8, g9, g10⟩ := msg_ext.1 h; first | exact absurd g1 h26 | exact absurd g2 h26 | exact absurd g3 h26 | exact absurd g4 h26 | exact absurd g5 h26 | exact absurd g6 h26 | exact absurd g7 h26 | exact absurd g8 h26 | exact absurd g9 h26 | exact absurd g10 h26
    replace H := H.nil
    exact fin ⟨congrArg Value.bool (decide_eq_false e).symm, rfl⟩ H
   refine s_k 12 rfl (s_k 9 rfl (s_nil (q_then (c_seq (c_reg (s_k 12 rfl (s_k 12 rfl (s_k 6 rfl (s_nil (q_then (c_ret (q_ret1 rfl rfl ?_))))))))))))
   have e : ¬ x.p xse xpr = y.p yse ypr := fun h => by obtain ⟨g1, g2, g3, g4, g5, g6, g7, g8, g9, g10⟩ := msg_ext.1 h; first | exact absurd g1 h25 | exact absurd g2 h25 | exact absurd g3 h25 | exact absurd g4 h25 | exact absurd g5 h25 | exact absurd g6 h25 | exact absurd g7 h25 | exact absurd g8 h25 | exact absurd g9 h25 | exact absurd g10 h25
   replace H := H.nil
   exact fin ⟨congrArg Value.bool (decide_eq_false e).symm, rfl⟩ H
  refine s_k 12 rfl (s_k 12 rfl (s_k 4 rfl (s_nil (q_then (c_seq (c_reg (s_k 12 rfl (s_k 12 rfl (s_k 6 rfl (s_nil (q_then (c_ret (q_ret1 rfl rfl ?_)))))))))))))
  have e : ¬ x.p xse xpr = y.p yse ypr := fun h => by obtain ⟨g1, g2, g3, g4, g5, g6, g7, g8, g9, g10⟩ := msg_ext.1 h; first | exact absurd g1 h24 | exact absurd g2 h24 | exact absurd g3 h24 | exact absurd g4 h24 | exact absurd g5 h24 | exact absurd g6 h24 | exact absurd g7 h24 | exact absurd g8 h24 | exact absurd g9 h24 | exact absurd g10 h24
  replace H := H.nil
  exact fin ⟨congrArg Value.bool (decide_eq_false e).symm, rfl⟩ H
 refine s_k 12 rfl (s_k 12 rfl (s_k 11 rfl (s_nil (q_then (c_seq (c_reg (s_k 12 rfl (s_k 12 rfl (s_k 6 rfl (s_nil (q_then (c_ret (q_ret1 rfl rfl ?_)))))))))))))
 have e : ¬ x.p xse xpr = y.p yse ypr := fun h => by obtain ⟨g1, g2, g3, g4, g5, g6, g7, g8, g9, g10⟩ := msg_ext.1 h; first | exact absurd g1 h23 | exact absurd g2 h23 | exact absurd g3 h23 | exact absurd g4 h23 | exact absurd g5 h23 | exact absurd g6 h23 | exact absurd g7 h23 | exact absurd g8 h23 | exact absurd g9 h23 | exact absurd g10 h23
 replace H := H.nil
 exact fin ⟨congrArg Value.bool (decide_eq_false e).symm, rfl⟩ H
section
variable {P : Program} {ops : Array Oper} {Q : Exit → Act → World → Prop} {rest : List Oper} {n : Nat} {l : Env} {w0 w : World} {F0 : Foot} {o : Oper} {As Rs : List SP} {x y : Operand} {t ti : TypeId}
theorem run_appZ {e size bytes : Nat} {ty : TypeId} {z : Value} {m : Nat} (hs : slOf P t = some (e, size, bytes)) (hz : zrOf P e = some z) (hzs : z.cells.size = size) (hsp : 0 < size) (hb0 : 0 < bytes) (hti : P.underlying ti = some (.int .i64)) (hm : 0 < m) (hb : m * bytes ≤ 140737488355328) :
  ∃ A c w' C, (Builtin.append_ #[t, ti] ty #[.slice none 0 0, .int .i64 (m : Int)]).run P w = .ok (.slice (some A) m c) w' ∧ A = ⟨w.heap.size, 0, none⟩ ∧ m ≤ c ∧ c ≤ 9223372036854775807 ∧ w' = w.drew.alloc (.cells C e) ∧ C.size = c * size := by
 obtain ⟨hu, i, hi, rfl, rfl⟩ := slOf_spec hs
 obtain ⟨i', hi', hz'⟩ := Option.bind_eq_some_iff.1 hz
 rw [hi] at hi'
 cases hi'
 have hsmall : m ≤ 140737488355328 := Nat.le_trans (Nat.le_mul_of_pos_right _ hb0) hb
 have hw : IntKind.i64.wrap (m : Int) = (m : Int) := w64 (by omega) (by omega)
 have hng : ¬ ((m : Int) < 0) := by omega
 have hb2 : ¬ ((m : Int) * (i.bytes : Int) > 2 ^ 48) := by
  have : ((m * i.bytes : Nat) : Int) ≤ 140737488355328 := by omega
  rw [Int.natCast_mul] at this
  omega
 have hfit : ¬ 281474976710656 < Builtin.nextslicecap m 0 * i.bytes := by
  have := growslice_fits (need := m) (old := 0) (bytes := i.bytes) (by omega) hb
  omega
 have hge := grownCap_ge w m 0 e
 have hle : grownCap w m 0 e ≤ 9223372036854775807 := by
  have := grownCap_le_maxLen w m 0 e (by simp only [maxLen]; omega)
  simpa [maxLen] using this
 have hms : ¬ (m * i.size = 0) := by have := Nat.mul_pos hm hsp; omega
 have hb3 : ¬ (281474976710656 < (m : Int) * (i.bytes : Int)) := by omega
 have hm0 : ¬ (m = 0) := by omega
 have hbz : ¬ i.bytes = 0 := by omega
 have hbig' : ¬ (9223372036854775807 < (m : Int)) := by omega
 refine ⟨⟨w.heap.size, 0, none⟩, grownCap w m 0 e, w.drew.alloc (.cells (Builtin.zeroCells z.cells m ++ Builtin.zeroCells z.cells (grownCap w m 0 e - m)) e), Builtin.zeroCells z.cells m ++ Builtin.zeroCells z.cells (grownCap w m 0 e - m), ?_, rfl, hge, hle, rfl, ?_⟩
 ·simp [Builtin.append_, run_underlying hu, run_underlying hti, sizeOf, zeroValue, typeInfo, hi, hz', hw, hng, hb3, asInt, asIntOf, hms, hm0, hfit, hbz, hbig', newRow, grownCap, Question.forced, Builtin.firstCells]
 ·simp only [Array.size_append, size_zeroCells, hzs, ← Nat.add_mul]
  congr 1
  omega
theorem s_appZ {α : Type} (d : Kd α) {e bytes : Nat} {z : Value} {m : Nat} (hg : gd ops l o = some true) (hd : dok n o.dst = true) (ho : o.op = .call { callee := .builtin .append, args := #[x, y], argTypes := #[t, ti] }) (hs : slOf P t = some (e, d.sz, bytes)) (hz : zrOf P e = some z) (hzs : z.cells.size = d.sz) (hb0 : 0 < bytes) (hti : P.underlying ti = some (.int .i64))
  (hx : ev l x = some (.slice none 0 0)) (hy : ev l y = some (.int .i64 (m : Int))) (hm : 0 < m) (hb : m * bytes ≤ 140737488355328) (H : Hd w0 F0 w As Rs)
  (h : ∀ A c w', m ≤ c → Hd w0 F0 w' (osl d (.slice A 0 c) [] :: As) Rs → WL P ops Q rest n (upO l o.dst (.slice A m c)) w') : WL P ops Q (o :: rest) n l w := by
 obtain ⟨A, c, w', C, hrun, rfl, h1, h2, rfl, hC⟩ := run_appZ (P := P) (w := w) (ty := o.type) hs hz hzs d.pos hb0 hti hm hb
 refine s_val hg hd (v := .slice (some ⟨w.heap.size, 0, none⟩) m c) (fun a ha => ?_) (h _ _ _ h1 (H.new (F' := fun k => k = w.heap.size) ?_ ⟨_, 0, c, rfl, rfl, [], fun k => k = w.heap.size, none_, fun _ q => q, fun _ q => q.elim, fun _ _ q => q, ⟨Nat.zero_le _, h2, by simp, .inr ⟨w.heap.size, C, e, rfl, rfl, heap_alloc_new w.drew _, hC, by simp⟩⟩, rfl⟩ ?_))
 ·simp [execOp, ho, resolve, ha.eval hx, ha.eval hy, invoke, builtin, hrun]
 ·exact (Upd.drewN none_ w 1).trans (Upd.alloc none_ w.drew _) fun _ _ q => q
 ·intro k hk
  subst hk
  simp
end
section
variable {w0 w : World} {F0 : Foot} {As Rs : List SP} {t sb mb : Nat} {st : Stg} {kvs : List StE} {k : Int × Int} {v : Value} {us : List (Value × List Pair)}
theorem setK_setK {κ : Type} [DecidableEq κ] {k : κ} {u v : Value} : ∀ kvs : List (κ × Value), setK k v (setK k u kvs) = setK k v kvs
 | [] => by simp [setK]
 | p :: r => by
  by_cases h : p.1 = k
  ·simp [setK, h]
  ·simp [setK, h, setK_setK r]
theorem Hd.stgOpen (k : Int × Int) (H : Hd w0 F0 w (stgI t sb st :: As) Rs) : ∃ mb kvs v us, kvs.map stE = st ∧ NodK (kvs.map stV) ∧ stW k kvs = (v, us) ∧ (lookK k (kvs.map stV)).getD nilS = v ∧ us.map (·.2) = sgOf st k.1 k.2 ∧
  Hd w0 F0 w (blk sb [.map (some mb)] t :: mapK key2 mb (kvs.map stV) :: osl (kHd kPair) v us :: bigS stO (stK k kvs) :: As) Rs := by
 obtain ⟨mb, kvs, he, hn, H1⟩ := H.stgA
 have H2 := (show Hd w0 F0 w (bigS stO kvs :: blk sb [.map (some mb)] t :: mapK key2 mb (kvs.map stV) :: As) Rs from H1.perm (((List.Perm.swap _ _ _).cons _).trans (List.Perm.swap _ _ _))).stgO k hn
 refine ⟨mb, kvs, (stW k kvs).1, (stW k kvs).2, he, hn, rfl, stW_look kvs, by rw [stW_of, he], ?_⟩
 exact H2.perm (List.perm_append_comm (l₁ := [osl (kHd kPair) (stW k kvs).1 (stW k kvs).2, bigS stO (stK k kvs)]) (l₂ := [blk sb [.map (some mb)] t, mapK key2 mb (kvs.map stV)]) |>.append_right As)
theorem Hd.stgShut (he : kvs.map stE = st) (hn : NodK (kvs.map stV)) (hw : stW k kvs = (v, us)) (H : Hd w0 F0 w (blk sb [.map (some mb)] t :: mapK key2 mb (kvs.map stV) :: osl (kHd kPair) v us :: bigS stO (stK k kvs) :: As) Rs) : Hd w0 F0 w (stgI t sb st :: As) Rs := by
 have H1 : Hd w0 F0 w (osl (kHd kPair) (stW k kvs).1 (stW k kvs).2 :: bigS stO (stK k kvs) :: blk sb [.map (some mb)] t :: mapK key2 mb (kvs.map stV) :: As) Rs := by
  rw [hw]
  exact H.perm ((List.perm_append_comm (l₁ := [blk sb [.map (some mb)] t, mapK key2 mb (kvs.map stV)]) (l₂ := [osl (kHd kPair) v us, bigS stO (stK k kvs)])).append_right As)
 exact Hd.stgC he ((Hd.stgI0 hn H1).perm ((List.Perm.swap _ _ _).trans ((List.Perm.swap _ _ _).cons _)))
theorem Hd.stgPut {x : List Pair} {v' : Value} {us' : List (Value × List Pair)} (he : kvs.map stE = st) (hn : NodK (kvs.map stV)) (ho : us.map (·.2) = sgOf st k.1 k.2) (hu : us'.map (·.2) = us.map (·.2) ++ [x])
  (H : Hd w0 F0 w (blk sb [.map (some mb)] t :: mapK key2 mb (setK k v' (kvs.map stV)) :: osl (kHd kPair) v' us' :: bigS stO (stK k kvs) :: As) Rs) : Hd w0 F0 w (stgI t sb (sgAdd st k.1 k.2 x) :: As) Rs := by
 have H1 := Hd.stgI_ hn (H.perm ((List.perm_append_comm (l₁ := [blk sb [.map (some mb)] t, mapK key2 mb (setK k v' (kvs.map stV))]) (l₂ := [osl (kHd kPair) v' us', bigS stO (stK k kvs)])).append_right As))
 refine Hd.stgC (kvs := setE k (v', us') kvs) ?_ ((?_ : Hd w0 F0 w (bigS stO (setE k (v', us') kvs) :: blk sb [.map (some mb)] t :: mapK key2 mb ((setE k (v', us') kvs).map stV) :: As) Rs).perm ((List.Perm.swap _ _ _).trans ((List.Perm.swap _ _ _).cons _)))
 ·rw [setE_E, he]
  show sgSet st k (us'.map (·.2)) = _
  rw [hu, ho, sgSet_add]
 ·rw [setE_V]
  exact H1
theorem stK_V (k : Int × Int) (kvs : List StE) : delK k (kvs.map stV) = (stK k kvs).map stV := by
 unfold delK stK
 rw [List.filter_map]
 rfl
theorem Hd.stgX (k : Int × Int) (hn : NodK (kvs.map stV)) (H : Hd w0 F0 w (bigS stO kvs :: As) Rs) : Hd w0 F0 w (bigS stO (stK k kvs) :: As) Rs := (H.stgO k hn).drop
def offS (a : Int) (kvs : List StE) : List StE := kvs.filter fun e => decide (e.1.1 ≠ a)
theorem off_E (a : Int) (kvs : List StE) : (offS a kvs).map stE = sgDrop (kvs.map stE) a := by
 unfold offS sgDrop
 rw [List.filter_map]
 rfl
theorem off_del {a : Int} {kvs : List StE} {k : Int × Int} (hk : k.1 = a) : offS a (stK k kvs) = offS a kvs := by
 unfold offS stK
 rw [List.filter_filter]
 refine List.filter_congr fun e _ => ?_
 by_cases h : e.1.1 = a
 ·simp [h]
 ·have : e.1 ≠ k := fun h2 => h (by rw [h2, hk])
  simp [h, this]
theorem off_all {a : Int} {kvs : List StE} (h : ∀ e ∈ kvs, e.1.1 ≠ a) : offS a kvs = kvs := List.filter_eq_self.2 fun e he => decide_eq_true (h e he)
def unS (kvs : List StE) (ps : List (Nat × (Int × Int))) : Nat := (kvs.filter fun e => decide (e.1 ∉ ps.map (fun q => q.2))).length
theorem un_next {kvs kvs2 : List StE} {ps : List (Nat × (Int × Int))} {p : (Int × Int) × Value} {s : Nat} (hp : p ∈ kvs.map stV) (hn : p.1 ∉ ps.map (fun q => q.2)) (h2 : kvs2 = kvs ∨ kvs2 = stK p.1 kvs) : unS kvs2 (ps ++ [(s, p.1)]) < unS kvs ps := by
 have hsub : kvs2.Sublist kvs := by
  rcases h2 with rfl | rfl
  ·exact List.Sublist.refl _
  ·exact List.filter_sublist
 have h1 : unS kvs2 (ps ++ [(s, p.1)]) ≤ unS kvs (ps ++ [(s, p.1)]) := (hsub.filter _).length_le
 have h3 : unS kvs (ps ++ [(s, p.1)]) < unS kvs ps := by
  obtain ⟨e, he, rfl⟩ := List.mem_map.1 hp
  unfold unS
  have e1 : (kvs.filter fun e' => decide (e'.1 ∉ (ps ++ [(s, (stV e).1)]).map (fun q => q.2))) = ((kvs.filter fun e' => decide (e'.1 ∉ ps.map (fun q => q.2))).filter fun e' => decide (e'.1 ≠ e.1)) := by
   rw [List.filter_filter]
   refine List.filter_congr fun x _ => ?_
   rw [← Bool.decide_and]
   exact decide_eq_decide.2 (by rw [List.map_append, List.mem_append, not_or, and_comm]; simp [stV])
  rw [e1]
  refine List.length_filter_lt_length_iff_exists.2 ⟨e, List.mem_filter.2 ⟨he, decide_eq_true hn⟩, by simp⟩
 omega
def seenS (a : Int) (kvs : List StE) (ps : List (Nat × (Int × Int))) : Prop := ∀ e ∈ kvs, e.1 ∈ ps.map (fun q => q.2) → e.1.1 ≠ a
theorem seen_keep {a : Int} {kvs : List StE} {ps : List (Nat × (Int × Int))} {k : Int × Int} {s : Nat} (h : seenS a kvs ps) (hk : k.1 ≠ a) : seenS a kvs (ps ++ [(s, k)]) := by
 intro e he hm
 rw [List.map_append, List.mem_append] at hm
 rcases hm with hm | hm
 ·exact h e he hm
 ·rw [show e.1 = k by simpa using hm]; exact hk
theorem seen_del {a : Int} {kvs : List StE} {ps : List (Nat × (Int × Int))} {k : Int × Int} {s : Nat} (h : seenS a kvs ps) : seenS a (stK k kvs) (ps ++ [(s, k)]) := by
 intro e he hm
 obtain ⟨he1, he2⟩ := List.mem_filter.1 he
 rw [List.map_append, List.mem_append] at hm
 rcases hm with hm | hm
 ·exact h e he1 hm
 ·exact absurd (by simpa using hm) (of_decide_eq_true he2)
theorem seen_end {a : Int} {kvs : List StE} {ps : List (Nat × (Int × Int))} (h : seenS a kvs ps) (hall : ∀ p ∈ kvs.map stV, p.1 ∈ ps.map (fun q => q.2)) : offS a kvs = kvs := off_all fun e he => h e he (hall (stV e) (List.mem_map.2 ⟨e, he, rfl⟩))
end
theorem grow0_ok (m : Nat) (hm : m ≤ 1000000) :
    Cn Tryz.prog 216 [.slice none 0 0, .int .i64 ((m : Nat) : Int)] [] [] (fun v Bs => Bs = [osl kPair v []]) := by
 intro w0 F0 H
 refine enter Tryz.func216 rfl rfl (Nat.le_of_ble_eq_true rfl) (c_seq (c_reg (s_1 rfl (s_nil (q_then (c_seq (c_seq (c_reg (s_1 rfl (s_val rfl rfl (r_lt rfl rfl rfl) (s_nil (q_then ?_))))))))))))
 refine c_dec rfl (fun h1 => ?_) (fun h1 => ?_)
 ·exfalso; omega
 refine c_skip (q_then (c_seq (c_seq (c_reg (s_k 2 rfl (s_val rfl rfl (r_capL rfl un35 rfl) (s_1 rfl (s_val rfl rfl (r_lenL rfl un35 rfl) (s_val rfl rfl (r_sub (z := 0) rfl rfl rfl rfl) (s_val rfl rfl (r_sub (z := (m : Int)) rfl rfl rfl ((congrArg IntKind.i64.wrap (Int.sub_zero _)).trans (w64 (by omega) (by omega)))) (s_1 rfl (s_nil (q_then (c_seq (c_reg (s_1 rfl (s_val rfl rfl (r_gt rfl rfl rfl) (s_nil (q_then ?_)))))))))))))))))))
 refine c_dec rfl (fun h2 => ?_) (fun h2 => ?_)
 ·refine c_reg (s_k 2 rfl (s_val rfl rfl (r_capL rfl un35 rfl) (s_val rfl rfl (r_cutP rfl sl35 rfl rfl (by omega) (by omega) rfl) (s_1 rfl (s_appZ kPair rfl rfl rfl sl35 zr106 rfl (by decide) un3 rfl rfl (by omega) (by omega) H (fun A3 c4 w hc5 H => (s_1 rfl (s_val rfl rfl (r_lenL rfl un35 rfl) (s_val rfl rfl (r_cutP rfl sl35 rfl rfl (by omega) (by omega) rfl) (s_1 rfl (s_nil (q_then ?_))))))))))))
  replace H : Hd _ _ _ [osl kPair (.slice A3 0 c4) []] [] := H
  exact c_seq (c_reg (s_k 2 rfl (s_nil (q_then (c_ret (q_ret1 rfl rfl (fin rfl H)))))))
 refine c_skip (q_then (c_seq (c_reg (s_k 2 rfl (s_nil (q_then (c_ret (q_ret1 rfl rfl ?_))))))))
 replace H := H.newnil kPair
 replace H : Hd _ _ _ [osl kPair (.slice none 0 0) []] [] := H
 exact fin rfl H
theorem concat_ok (vus : Value) (us : List (Value × List Pair)) (hb : (flat2 us).length ≤ 1000000) (hul : us.length ≤ 1000000) :
    Cn Tryz.prog 179 [vus] [] [rsl (kHd kPair) vus us] (fun v Bs => Bs = [osl kPair v (flat2 us)]) := by
 intro w0 F0 H
 obtain ⟨A1, c2, rfl, hc3, hm4, hp5⟩ := H.fR 0 rfl
 refine enter Tryz.func179 rfl rfl (Nat.le_of_ble_eq_true rfl) (c_seq (c_reg (s_1 rfl (s_nil (q_then ?_)))))
 replace H : Hd _ _ _ [] [rsl (kHd kPair) (.slice A1 us.length c2) us] := H
 refine c_seq (c_reg (s_1 rfl (s_nil (q_then (c_seq (c_seq (c_reg (s_1 rfl (s_val rfl rfl (r_lenL rfl un22 rfl) (s_1 rfl (s_nil (q_then (c_block (c_loop (σ := Nat) (fun i => [(0, .slice A1 us.length c2), (2, .slice none 0 0), (3, .int .i64 (((flat2 (us.take i)).length : Nat) : Int)), (9, .slice A1 us.length c2), (10, .int .i64 ((us.length : Nat) : Int)), (11, .int .i64 ((i : Nat) : Int))]) (fun i w => (Hd w0 F0 w [] [rsl (kHd kPair) (.slice A1 us.length c2) us]) ∧ (i ≤ us.length)) (fun i => us.length - i) 0 ⟨rfl, rfl, rfl, rfl, rfl, rfl, trivial⟩ ⟨H, Nat.zero_le _⟩ ?_))))))))))))))
 rintro i w ⟨H, hi⟩
 have hfl := flat2_le us i
 refine c_seq (c_reg (s_val rfl rfl (r_lt rfl rfl rfl) (s_nil (q_then (c_seq ?_)))))
 refine c_dec rfl (fun h6 => ?_) (fun h6 => ?_)
 ·refine c_skip (q_then (c_seq (c_block (c_seq (c_reg ?_)))))
  obtain ⟨⟨u9, x7⟩, hx8⟩ : ∃ z9, us[i]? = some z9 := ⟨_, List.getElem?_eq_getElem (show i < us.length by omega)⟩
  obtain ⟨A10, c11, rfl, hc12, hm13⟩ := H.nestR 0 rfl hx8
  have th14 := H.thRd 0 rfl hx8
  refine s_val rfl rfl (r_iaE (p := oOf A1 + i * 1) rfl sl22 rfl rfl (by omega) (by omega) th14 rfl) (s_val rfl rfl (r_ld rfl ty35 rfl (H.elRd 0 rfl hx8 rfl)) (s_1 rfl (s_nil (q_then (c_seq ?_)))))
  have hf0 := flat2_le us (i + 1)
  rw [flat2_step hx8, List.length_append] at hf0
  refine c_reg (s_k 2 rfl (s_val rfl rfl (r_lenL rfl un35 rfl) (s_val rfl rfl (r_add (z := (((flat2 (us.take i)).length + x7.length : Nat) : Int)) rfl rfl rfl (by rw [w64 (by omega) (by omega)]; omega)) (s_1 rfl (s_nil (q_then (c_seq (c_reg (s_1 rfl (s_val rfl rfl (r_lt rfl rfl rfl) (s_nil (q_then ?_))))))))))))
  refine c_dec rfl (fun h15 => ?_) (fun h15 => ?_)
  ·exfalso; omega
  refine c_skip (q_blockN (q_then (c_reg (s_val rfl rfl (r_add (z := ((i + 1 : Nat) : Int)) rfl rfl rfl (by rw [w64 (by omega) (by omega)]; omega)) (s_1 rfl (s_nil ?_))))))
  have hf1 := flat2_step hx8
  have hf2 : (flat2 (us.take (i + 1))).length = (flat2 (us.take i)).length + x7.length := by rw [hf1, List.length_append]
  exact q_round (s := i) (i + 1) ⟨rfl, rfl, (by (try dsimp only); rw [hf2]; first | rfl | (congr 2; omega)), rfl, rfl, rfl, trivial⟩ ⟨H, by (try dsimp only); omega⟩ (by (try dsimp only); omega)
 refine c_exit (q_thenE (q_thenE (q_blockE (q_then (c_seq ?_)))))
 have hfl2 := flat2_le us i
 refine c_reg (s_1 rfl (sc (grow0_ok ((flat2 (us.take i)).length) (by first | assumption | omega)) H l0 rfl rfl (e_fn kn216 rfl rfl) ?_))
 rintro v16 _ w rfl H
 replace H := H.h1 (A := osl kPair v16 [])
 refine s_1 rfl (s_nil (q_then (c_seq (c_seq (c_reg (s_1 rfl (s_val rfl rfl (r_lenL rfl un22 rfl) (s_1 rfl (s_nil (q_then (c_block ?_)))))))))))
 replace H := H.h1 (A := osl kPair v16 (flat2 (us.take 0)))
 refine c_loop (σ := Nat × Value) (fun (j, q) => [(2, .slice none 0 0), (6, q), (25, .slice A1 us.length c2), (26, .int .i64 ((us.length : Nat) : Int)), (27, .int .i64 ((j : Nat) : Int))]) (fun (j, q) w => (Hd w0 F0 w [osl kPair q (flat2 (us.take j))] [rsl (kHd kPair) (.slice A1 us.length c2) us]) ∧ (j ≤ us.length)) (fun (j, q) => us.length - j) (0, v16) ⟨rfl, rfl, rfl, rfl, rfl, trivial⟩ ⟨H, Nat.zero_le _⟩ ?_
 rintro ⟨j, q⟩ w ⟨H, hj⟩
 have hfl := flat2_le us j
 refine c_seq (c_reg (s_val rfl rfl (r_lt rfl rfl rfl) (s_nil (q_then (c_seq ?_)))))
 refine c_dec rfl (fun h17 => ?_) (fun h17 => ?_)
 ·refine c_skip (q_then (c_seq (c_block (c_seq (c_reg ?_)))))
  obtain ⟨⟨u20, x18⟩, hx19⟩ : ∃ z9, us[j]? = some z9 := ⟨_, List.getElem?_eq_getElem (show j < us.length by omega)⟩
  obtain ⟨A21, c22, rfl, hc23, hm24⟩ := H.nestR 0 rfl hx19
  have th25 := H.thRd 0 rfl hx19
  refine s_val rfl rfl (r_iaE (p := oOf A1 + j * 1) rfl sl22 rfl rfl (by omega) (by omega) th25 rfl) (s_val rfl rfl (r_ld rfl ty35 rfl (H.elRd 0 rfl hx19 rfl)) (s_1 rfl (s_nil (q_then ?_))))
  have hf0 := flat2_le us (j + 1)
  rw [flat2_step hx19, List.length_append] at hf0
  refine c_reg (s_k 2 rfl (s_appF (xs := flat2 (us.take j)) (ys := x18) rfl rfl rfl sl35 zr106 rfl (by decide) rfl rfl H (by omega) (fun F hA hR => nest_rsl (hR _ (List.mem_of_getElem? (i := 0) rfl)) hx19) (fun v26 w H => (s_1 rfl (s_nil (q_blockN (q_then ?_)))))))
  replace H : Hd _ _ _ [osl kPair v26 ((flat2 (us.take j)) ++ x18)] [rsl (kHd kPair) (.slice A1 us.length c2) us] := H
  refine c_reg (s_val rfl rfl (r_add (z := ((j + 1 : Nat) : Int)) rfl rfl rfl (by rw [w64 (by omega) (by omega)]; omega)) (s_1 rfl (s_nil ?_)))
  replace H : Hd w0 F0 w [osl kPair v26 (flat2 (us.take (j + 1)))] [rsl (kHd kPair) (.slice A1 us.length c2) us] := by rw [flat2_step hx19]; exact H
  exact q_round (s := (j, undef)) (j + 1, v26) ⟨rfl, rfl, rfl, rfl, rfl, trivial⟩ ⟨H, by (try dsimp only); omega⟩ (by (try dsimp only); omega)
 refine c_exit (q_thenE (q_thenE (q_blockE (q_then (c_seq (c_reg (s_k 2 rfl (s_nil (q_then (c_ret (q_ret1 rfl rfl ?_)))))))))))
 replace H : Hd w0 F0 w [osl kPair q (flat2 us)] [rsl (kHd kPair) (.slice A1 us.length c2) us] := by rw [List.take_of_length_le (show us.length ≤ j by omega)] at H; exact H
 exact fin rfl H
theorem join_ok (vus : Value) (us : List (Value × List Pair)) (hb : (flat2 us).length ≤ 1000000) (hul : us.length ≤ 1000000) :
    Cn Tryz.prog 127 [vus] [] [rsl (kHd kPair) vus us] (fun v Bs => Bs = [osl kPair v (flat2 us)]) := by
 intro w0 F0 H
 obtain ⟨A1, c2, rfl, hc3, hm4, hp5⟩ := H.fR 0 rfl
 refine enter Tryz.func127 rfl rfl (Nat.le_of_ble_eq_true rfl) (c_seq (c_reg (s_1 rfl (s_nil (q_then ?_)))))
 replace H : Hd _ _ _ [] [rsl (kHd kPair) (.slice A1 us.length c2) us] := H
 refine c_seq (c_reg (s_1 rfl (sc (concat_ok (.slice A1 us.length c2) us (by first | assumption | omega) (by first | assumption | omega)) H (lR 0 rfl l0) rfl rfl (e_fn kn179 rfl rfl) ?_)))
 rintro v6 _ w rfl H
 replace H := H.h1 (A := osl kPair v6 (flat2 us))
 exact s_1 rfl (s_nil (q_then (c_ret (q_ret1 rfl rfl (fin rfl H)))))
theorem stNext_ok (sb : Nat) (st : Stg) (a : Int) (b : Int) :
    Cn Tryz.prog 122 [.pointer (some ⟨sb, 0, none⟩), .int .i64 a, .int .i64 b] [stgI 253 sb (st)] [] (fun v Bs => v = .int .i64 (sgNext st a b) ∧ Bs = [stgI 253 sb (st)]) := by
 intro w0 F0 H
 refine enter Tryz.func122 rfl rfl (Nat.le_of_ble_eq_true rfl) (c_seq (c_reg (s_1 rfl (s_nil (q_then (c_seq (c_seq (c_reg (s_1 rfl (s_val rfl rfl (r_peq rfl un183 rfl rfl) (s_nil (q_then (c_no rfl (c_skip (q_then (c_seq ?_))))))))))))))))
 obtain ⟨mb1, kvs2, v3, us4, hst5, hnd6, hwk7, hlk8, hof9, H⟩ := H.stgOpen (a, b)
 replace H : Hd _ _ _ [blk sb [.map (some mb1)] 253, mapK key2 mb1 (kvs2.map stV), osl (kHd kPair) v3 us4, bigS stO (stK (a, b) kvs2)] [] := H
 obtain ⟨A10, c11, rfl, hc12, hm13, hp14⟩ := H.fA 2 rfl
 refine c_reg (s_1 rfl (s_val rfl rfl (r_nilP rfl rfl) (s_val rfl rfl (r_fa rfl fo253_0 rfl) (s_val rfl rfl (r_ld rfl ty251 rfl (H.cellI 0 rfl rfl)) (s_k 2 rfl (s_val rfl rfl (r_bd (parts := [(0, .tmp 13), (1, .tmp 14)]) (vs := [.int .i64 a, .int .i64 b]) (cs := [.int .i64 a, .int .i64 b]) rfl bd250 rfl rfl) (s_val rfl rfl (r_lookK1 zkt250 rfl un251 zr22 rfl (a, b) rfl H 1 rfl (hlk8)) (s_val rfl rfl (r_lenL rfl un22 rfl) (s_1 rfl (s_nil (q_then (c_ret (q_ret1 rfl rfl ?_)))))))))))))
 have e : ((us4.length : Nat) : Int) = sgNext st a b := by unfold sgNext; rw [← hof9]; simp
 replace H := Hd.stgShut hst5 hnd6 hwk7 H
 replace H := H.h1 (A := stgI 253 sb (st))
 exact fin ⟨by rw [e] <;> rfl, rfl⟩ H
theorem sgOf_add (a b : Int) (x : List Pair) : ∀ st : Stg, sgOf (sgAdd st a b x) a b = sgOf st a b ++ [x]
 | [] => by simp [sgAdd, sgOf]
 | e :: s => by
  show sgOf (if e.1.1 = a ∧ e.1.2 = b then (e.1, e.2 ++ [x]) :: s else e :: sgAdd s a b x) a b = (if e.1.1 = a ∧ e.1.2 = b then e.2 else sgOf s a b) ++ [x]
  by_cases h : e.1.1 = a ∧ e.1.2 = b
  ·rw [if_pos h, if_pos h]; exact if_pos h
  ·rw [if_neg h, if_neg h]; exact (if_neg h).trans (sgOf_add a b x s)
theorem sgNext_add (st : Stg) (a b : Int) (x : List Pair) : sgNext (sgAdd st a b x) a b = sgNext st a b + 1 := by
 unfold sgNext
 rw [sgOf_add, List.length_append]
 simp
theorem stPut_ok (sb : Nat) (st : Stg) (a : Int) (b : Int) (q : Int) (vps : Value) (ps : List Pair) (hps : ps.length ≤ 1000000) :
    Cn Tryz.prog 121 [.pointer (some ⟨sb, 0, none⟩), .int .i64 a, .int .i64 b, .int .i64 q, vps] [stgI 253 sb (st)] [rsl kPair vps ps] (fun v Bs => v = .int .i64 (sgNext (sgPut st a b q ps) a b) ∧ Bs = [stgI 253 sb (sgPut st a b q ps)]) := by
 intro w0 F0 H
 obtain ⟨A1, c2, rfl, hc3, hm4, hp5⟩ := H.fR 0 rfl
 refine enter Tryz.func121 rfl rfl (Nat.le_of_ble_eq_true rfl) (c_seq (c_reg (s_1 rfl (s_nil (q_then ?_)))))
 replace H : Hd _ _ _ [stgI 253 sb (st)] [rsl kPair (.slice A1 ps.length c2) ps] := H
 refine c_seq (c_reg (s_k 2 rfl (s_val rfl rfl (r_bd (parts := [(0, .tmp 13), (1, .tmp 14)]) (vs := [.int .i64 a, .int .i64 b]) (cs := [.int .i64 a, .int .i64 b]) rfl bd250 rfl rfl) (s_alloc rfl rfl rfl zr250 H (fun b6 w H => (s_st rfl rfl rfl ty250 rfl rfl H rfl (Nat.le_of_ble_eq_true rfl) (fun u hu => by simp [Value.cells] at hu; rcases hu with rfl | rfl <;> rfl) (fun w H => ?_)))))))
 replace H := H.h1 (A := blk b6 [.int .i64 a, .int .i64 b] 250)
 refine s_nil (q_then (c_seq (c_reg (s_k 3 rfl ?_))))
 replace H := H.p1
 refine sc (stNext_ok sb st a b) H l0 rfl rfl (e_fn kn122 rfl rfl) ?_
 rintro _ _ w ⟨rfl, rfl⟩ H
 refine s_1 rfl (s_nil (q_then (c_seq (c_seq (c_reg (s_1 rfl (s_val rfl rfl (r_peq rfl un183 rfl rfl) (s_k 3 rfl (s_val rfl rfl (r_ne rfl rfl rfl) (s_k 2 rfl ?_))))))))))
 refine s_dec (d := 27) rfl (fun h7 => ?_) (fun h7 => ?_)
 ·refine s_k 12 rfl (s_k 7 rfl (s_nil (q_then (c_yes rfl (c_seq (c_reg (s_k 2 rfl (s_nil (q_then (c_ret (q_thenR (q_ret1 rfl rfl ?_))))))))))))
  have e : sgPut st a b q ps = st := if_neg (fun h => by obtain ⟨h1, h2, h3, h4⟩ := h; omega)
  replace H := H.k1
  exact fin ⟨by rw [e] <;> rfl, by rw [e] <;> rfl⟩ H
 refine s_1 rfl (s_val rfl rfl (r_lt rfl rfl rfl) (s_k 2 rfl ?_))
 refine s_dec (d := 31) rfl (fun h8 => ?_) (fun h8 => ?_)
 ·refine s_k 12 rfl (s_k 3 rfl (s_nil (q_then (c_yes rfl (c_seq (c_reg (s_k 2 rfl (s_nil (q_then (c_ret (q_thenR (q_ret1 rfl rfl ?_))))))))))))
  have e : sgPut st a b q ps = st := if_neg (fun h => by obtain ⟨h1, h2, h3, h4⟩ := h; omega)
  replace H := H.k1
  exact fin ⟨by rw [e] <;> rfl, by rw [e] <;> rfl⟩ H
 refine s_1 rfl (s_val rfl rfl (r_ge rfl rfl rfl) (s_k 2 rfl ?_))
 refine s_dec (d := 35) rfl (fun h9 => ?_) (fun h9 => ?_)
 ·refine s_k 11 rfl (s_nil (q_then (c_yes rfl (c_seq (c_reg (s_k 2 rfl (s_nil (q_then (c_ret (q_thenR (q_ret1 rfl rfl ?_)))))))))))
  have e : sgPut st a b q ps = st := if_neg (fun h => by obtain ⟨h1, h2, h3, h4⟩ := h; omega)
  replace H := H.k1
  exact fin ⟨by rw [e] <;> rfl, by rw [e] <;> rfl⟩ H
 refine s_1 rfl (s_val rfl rfl (r_lt rfl rfl rfl) (s_k 2 rfl ?_))
 refine s_dec (d := 39) rfl (fun h10 => ?_) (fun h10 => ?_)
 ·refine s_k 7 rfl (s_nil (q_then (c_yes rfl (c_seq (c_reg (s_k 2 rfl (s_nil (q_then (c_ret (q_thenR (q_ret1 rfl rfl ?_)))))))))))
  have e : sgPut st a b q ps = st := if_neg (fun h => by obtain ⟨h1, h2, h3, h4⟩ := h; omega)
  replace H := H.k1
  exact fin ⟨by rw [e] <;> rfl, by rw [e] <;> rfl⟩ H
 refine s_1 rfl (s_val rfl rfl (r_gt rfl rfl rfl) (s_k 2 rfl ?_))
 refine s_dec (d := 43) rfl (fun h11 => ?_) (fun h11 => ?_)
 ·refine s_k 3 rfl (s_nil (q_then (c_yes rfl (c_seq (c_reg (s_k 2 rfl (s_nil (q_then (c_ret (q_thenR (q_ret1 rfl rfl ?_)))))))))))
  have e : sgPut st a b q ps = st := if_neg (fun h => by obtain ⟨h1, h2, h3, h4⟩ := h; omega)
  replace H := H.k1
  exact fin ⟨by rw [e] <;> rfl, by rw [e] <;> rfl⟩ H
 refine s_1 rfl (s_val rfl rfl (r_ge rfl rfl rfl) (s_1 rfl (s_nil (q_then ?_))))
 refine c_dec rfl (fun h12 => ?_) (fun h12 => ?_)
 ·refine c_seq (c_reg (s_k 2 rfl (s_nil (q_then (c_ret (q_thenR (q_ret1 rfl rfl ?_)))))))
  have e : sgPut st a b q ps = st := if_neg (fun h => by obtain ⟨h1, h2, h3, h4⟩ := h; omega)
  replace H := H.k1
  exact fin ⟨by rw [e] <;> rfl, by rw [e] <;> rfl⟩ H
 refine c_skip (q_then (c_seq ?_))
 have hmay : sgMay st a b q := ⟨by omega, by omega, by omega, by omega⟩
 have hq0 := hmay.1
 have hq1 := hmay.2.2.2
 unfold sgNext at hq0
 obtain ⟨mb13, kvs14, v15, us16, hst17, hnd18, hwk19, hlk20, hof21, H⟩ := H.stgOpen (a, b)
 replace H := H.h4 (A := blk sb [.map (some mb13)] 253) (B := mapK key2 mb13 (kvs14.map stV)) (C := osl (kHd kPair) v15 us16) (D := bigS stO (stK (a, b) kvs14))
 have hul : us16.length = (sgOf st a b).length := by have := congrArg List.length hof21; simpa using this
 obtain ⟨A22, c23, rfl, hc24, hm25, hp26⟩ := H.fA 2 rfl
 replace H := H.p4.p4.p2
 refine c_ord (.e 0 (.e 1 (.e 2 (.e 3 (.e 4 (.e 5 (.m 6 (.m 7 (.m 8 (.e 9 (.e 11 (.m 10 (.m 12 .z))))))))))))) (fun w => ∃ Ar, Hd w0 F0 w (blk sb [.map (some mb13)] 253 :: bigS stO (stK (a, b) kvs14) :: blk b6 [.int .i64 a, .int .i64 b] 250 :: Ar) [rsl kPair (.slice A1 ps.length c2) ps]) mo (by kernel_rfl) (fun w H => ⟨_, H⟩) H (fun w H => (d_1 rfl (d_val rfl rfl rfl (fun w ⟨Ar, H⟩ => r_nilP rfl rfl) (d_val rfl rfl rfl (fun w ⟨Ar, H⟩ => r_fa rfl fo253_0 rfl) (d_val rfl rfl rfl (fun w ⟨Ar, H⟩ => r_ld rfl ty251 rfl (H.cellI 0 rfl rfl)) (d_val rfl rfl rfl (fun w ⟨Ar, H⟩ => r_ldA (cs := [.int .i64 a, .int .i64 b]) rfl ty250 rfl rfl (H.cellsI 2 rfl rfl)) (d_1 rfl (d_main rfl (sc (clone_ok (.slice A1 ps.length c2) ps (by first | assumption | omega)) H (lR 0 rfl l0) rfl rfl (e_fn kn123 rfl rfl) ?_)))))))))
 rintro v27 _ w rfl H
 replace H := H.h1 (A := osl kPair v27 ps) |>.p3 |>.p3 |>.p3
 refine d_back ⟨_, H⟩ (d_main rfl ?_)
 obtain ⟨A29, c30, rfl, hc31, hm32, hp33⟩ := H.fA 3 rfl
 refine s_bsl (parts := [(0, .tmp 55)]) (vs := [.slice A29 ps.length c30]) (cs := [.slice A29 ps.length c30]) rfl rfl rfl sl22 zr35 rfl (by decide) (by decide) rfl rfl H (fun b28 w H => ?_)
 replace H : Hd _ _ _ [blk b28 [.slice A29 ps.length c30] 35, blk sb [.map (some mb13)] 253, bigS stO (stK (a, b) kvs14), blk b6 [.int .i64 a, .int .i64 b] 250, osl kPair (.slice A29 ps.length c30) ps, mapK key2 mb13 (kvs14.map stV), osl (kHd kPair) (.slice A22 us16.length c23) us16] [rsl kPair (.slice A1 ps.length c2) ps] := H
 replace H := H.p3.p3.p3
 refine d_back ⟨_, H⟩ (d_main rfl ?_)
 replace H := H.p5
 refine s_mentK zkt250 rfl rfl rfl un251 zr22 rfl (a, b) rfl H (fun st34 w H => ?_)
 rw [show (lookK (a, b) (kvs14.map stV)).getD (.slice none 0 0) = (.slice A22 us16.length c23) from hlk20] at H ⊢
 replace H : Hd _ _ _ [mapE key2 mb13 (setK (a, b) (.slice A22 us16.length c23) (kvs14.map stV)) (a, b) st34, blk sb [.map (some mb13)] 253, bigS stO (stK (a, b) kvs14), blk b6 [.int .i64 a, .int .i64 b] 250, blk b28 [.slice A29 ps.length c30] 35, osl kPair (.slice A29 ps.length c30) ps, osl (kHd kPair) (.slice A22 us16.length c23) us16] [rsl kPair (.slice A1 ps.length c2) ps] := H
 replace H := H.p3.p3.p3
 refine d_back ⟨_, H⟩ (d_1 rfl (d_1 rfl (d_main rfl ?_)))
 replace H := H.p6.p6.p6.p2
 refine s_appH rfl rfl rfl sl22 zr35 rfl (by decide) rfl rfl H (by first | omega | (simp only [List.length_append, List.length_cons, List.length_nil]; omega)) (fun v35 w H => ?_)
 replace H := H.h1 (A := osl (kHd kPair) v35 (us16 ++ [((.slice A29 ps.length c30 : Value), ps)])) |>.p3 |>.p3 |>.p3
 refine d_back ⟨_, H⟩ (d_main rfl ?_)
 replace H := H.p4
 refine s_mputK rfl rfl rfl rfl (a, b) rfl rfl zkt250.inj H (fun w H => ?_)
 replace H := H.h1 (A := mapK key2 mb13 (setK (a, b) v35 (setK (a, b) (.slice A22 us16.length c23) (kvs14.map stV))))
 rw [setK_setK] at H
 replace H : Hd _ _ _ [mapK key2 mb13 (setK (a, b) v35 (kvs14.map stV)), blk sb [.map (some mb13)] 253, bigS stO (stK (a, b) kvs14), blk b6 [.int .i64 a, .int .i64 b] 250, osl (kHd kPair) v35 (us16 ++ [((.slice A29 ps.length c30 : Value), ps)])] [rsl kPair (.slice A1 ps.length c2) ps] := H
 replace H := H.p3.p3.p3
 refine d_back ⟨_, H⟩ (d_nil (q_then (c_seq (c_reg (s_1 rfl (s_val rfl rfl (r_add (z := (sgNext st a b) + 1) rfl rfl rfl (w64 (by omega) (by omega))) (s_1 rfl (s_nil (q_then (c_ret (q_ret1 rfl rfl ?_)))))))))))
 replace H := H.p1.p4.p4.p3
 replace H := Hd.stgPut (k := (a, b)) (x := ps) hst17 hnd18 hof21 (by simp) H
 replace H := H.h1 (A := stgI 253 sb (sgAdd st a b ps)) |>.k1
 have e : sgPut st a b q ps = sgAdd st a b ps := if_pos hmay
 have e2 : sgNext (sgAdd st a b ps) a b = sgNext st a b + 1 := sgNext_add st a b ps
 exact fin ⟨by rw [e, e2] <;> rfl, by rw [e] <;> rfl⟩ H
theorem stTake_ok (sb : Nat) (st : Stg) (a : Int) (b : Int) (n : Int) (hb : (sgOf st a b).flatten.length ≤ 1000000) (hb2 : (sgOf st a b).length ≤ 1000000) :
    Cn Tryz.prog 171 [.pointer (some ⟨sb, 0, none⟩), .int .i64 a, .int .i64 b, .int .i64 n] [stgI 253 sb (st)] [] (fun v Bs => ∃ u : Value, v = .tuple #[u, .bool ((sgTake st a b n).isSome)] ∧ Bs = [osl kPair u ((sgTake st a b n).getD []), stgI 253 sb (st)]) := by
 intro w0 F0 H
 refine enter Tryz.func171 rfl rfl (Nat.le_of_ble_eq_true rfl) (c_seq (c_reg (s_k 2 rfl (s_nil (q_then (c_seq (c_seq (c_reg (s_1 rfl (s_val rfl rfl (r_peq rfl un183 rfl rfl) (s_k 2 rfl (s_val rfl rfl (r_lt rfl rfl rfl) (s_k 2 rfl ?_)))))))))))))
 refine s_dec (d := 16) rfl (fun h1 => ?_) (fun h1 => ?_)
 ·refine s_k 7 rfl (s_nil (q_then (c_yes rfl (c_seq (c_reg (s_k 2 rfl (s_nil (q_then (c_ret (q_thenR (q_ret2 rfl rfl rfl ?_)))))))))))
  have e : sgTake st a b n = none := if_pos (by omega)
  replace H := H.newnil kPair
  replace H : Hd _ _ _ [osl kPair (.slice none 0 0) [], stgI 253 sb (st)] [] := H
  replace H : Hd w0 F0 w0 [osl kPair (.slice none 0 0) ((sgTake st a b n).getD []), stgI 253 sb (st)] [] := by rw [e]; exact H
  replace H : Hd _ _ _ [osl kPair (.slice none 0 0) ((sgTake st a b n).getD []), stgI 253 sb (st)] [] := H
  exact fin ⟨_, by rw [e]; rfl, rfl⟩ H
 refine s_k 3 rfl (sc (stNext_ok sb st a b) H l0 rfl rfl (e_fn kn122 rfl rfl) ?_)
 rintro _ _ w ⟨rfl, rfl⟩ H
 refine s_1 rfl (s_val rfl rfl (r_ne rfl rfl rfl) (s_1 rfl (s_nil (q_then ?_))))
 replace H : Hd _ _ _ [stgI 253 sb (st)] [] := H
 refine c_dec rfl (fun h2 => ?_) (fun h2 => ?_)
 ·refine c_seq (c_reg (s_k 2 rfl (s_nil (q_then (c_ret (q_thenR (q_ret2 rfl rfl rfl ?_)))))))
  have e : sgTake st a b n = none := if_pos (by omega)
  replace H := H.newnil kPair
  replace H : Hd w0 F0 w [osl kPair (.slice none 0 0) ((sgTake st a b n).getD []), stgI 253 sb (st)] [] := by rw [e]; exact H
  exact fin ⟨_, by rw [e]; rfl, rfl⟩ H
 refine c_skip (q_then (c_seq ?_))
 obtain ⟨mb3, kvs4, v5, us6, hst7, hnd8, hwk9, hlk10, hof11, H⟩ := H.stgOpen (a, b)
 replace H := H.h4 (A := blk sb [.map (some mb3)] 253) (B := mapK key2 mb3 (kvs4.map stV)) (C := osl (kHd kPair) v5 us6) (D := bigS stO (stK (a, b) kvs4))
 have hul : us6.length = (sgOf st a b).length := by have := congrArg List.length hof11; simpa using this
 have hfl : flat2 us6 = (sgOf st a b).flatten := by rw [← hof11]; rfl
 have hfb : (flat2 us6).length ≤ 1000000 := by rw [hfl]; exact hb
 obtain ⟨A12, c13, rfl, hc14, hm15, hp16⟩ := H.fA 2 rfl
 refine c_reg (s_1 rfl (s_val rfl rfl (r_nilP rfl rfl) (s_val rfl rfl (r_fa rfl fo253_0 rfl) (s_val rfl rfl (r_ld rfl ty251 rfl (H.cellI 0 rfl rfl)) (s_k 2 rfl (s_val rfl rfl (r_bd (parts := [(0, .tmp 28), (1, .tmp 29)]) (vs := [.int .i64 a, .int .i64 b]) (cs := [.int .i64 a, .int .i64 b]) rfl bd250 rfl rfl) (s_val rfl rfl (r_lookK1 zkt250 rfl un251 zr22 rfl (a, b) rfl H 1 rfl (hlk10)) (sc (join_ok (.slice A12 us6.length c13) us6 (by first | assumption | omega) (by first | assumption | omega)) H (lA 2 rfl own_rd l0) rfl rfl (e_fn kn127 rfl rfl) ?_))))))))
 rintro v17 _ w rfl H
 replace H := H.h1 (A := osl kPair v17 (flat2 us6))
 refine s_k 2 rfl (s_nil (q_then (c_ret (q_ret2 rfl rfl rfl ?_))))
 replace H := H.p4.p4.p4.p4
 replace H := Hd.stgShut hst7 hnd8 hwk9 H
 replace H := H.h1 (A := stgI 253 sb (st))
 have e : sgTake st a b n = some (sgOf st a b).flatten := if_neg (by omega)
 replace H : Hd w0 F0 w [stgI 253 sb (st), osl kPair v17 ((sgTake st a b n).getD [])] [] := by rw [e, Option.getD_some, ← hfl]; exact H
 replace H := H.p1
 exact fin ⟨_, by rw [e]; rfl, rfl⟩ H
theorem stDrop_ok (sb : Nat) (st : Stg) (a : Int) :
    Cn Tryz.prog 172 [.pointer (some ⟨sb, 0, none⟩), .int .i64 a] [stgI 253 sb (st)] [] (fun v Bs => ∃ z : Int, v = .int .i64 z ∧ Bs = [stgI 253 sb (sgDrop st a)]) := by
 intro w0 F0 H
 refine enter Tryz.func172 rfl rfl (Nat.le_of_ble_eq_true rfl) (c_seq (c_reg (s_1 rfl (s_nil (q_then (c_seq (c_seq (c_reg (s_1 rfl (s_val rfl rfl (r_peq rfl un183 rfl rfl) (s_nil (q_then (c_no rfl (c_skip (q_then (c_seq ?_))))))))))))))))
 obtain ⟨mb1, kvs2, hst3, hnd4, H⟩ := H.stgA
 replace H : Hd _ _ _ [blk sb [.map (some mb1)] 253, mapK key2 mb1 (kvs2.map stV), bigS stO kvs2] [] := H
 refine c_reg (s_1 rfl (s_val rfl rfl (r_nilP rfl rfl) (s_val rfl rfl (r_fa rfl fo253_0 rfl) (s_val rfl rfl (r_ld rfl ty251 rfl (H.cellI 0 rfl rfl)) (s_val rfl rfl (r_lenK rfl un251 rfl H 1 rfl) (s_1 rfl (s_nil (q_then (c_seq (c_seq (c_reg (s_1 rfl (s_val rfl rfl (r_nilP rfl rfl) (s_val rfl rfl (r_fa rfl fo253_0 rfl) (s_val rfl rfl (r_ld rfl ty251 rfl (H.cellI 0 rfl rfl)) ?_)))))))))))))))
 replace H := H.p1
 refine s_rangeK rfl rfl rfl un251 rfl H (fun it5 w H => ?_)
 replace H := H.h1 (A := mapR key2 mb1 it5 (kvs2.map stV) [])
 refine s_nil (q_then (c_block ?_))
 replace H := H.p1
 refine c_loop (σ := List StE × List (Nat × (Int × Int))) (fun (kvs, ps) => [(0, .pointer (some ⟨sb, 0, none⟩)), (1, .int .i64 a), (4, .int .i64 0), (5, .int .i64 (((kvs2.map stV).length : Nat) : Int)), (18, .pointer (some ⟨it5, 0, none⟩))]) (fun (kvs, ps) w => (Hd w0 F0 w [blk sb [.map (some mb1)] 253, mapR key2 mb1 it5 (kvs.map stV) ps, bigS stO kvs] []) ∧ (NodK (kvs.map stV)) ∧ (offS a kvs = offS a kvs2) ∧ (seenS a kvs ps)) (fun (kvs, ps) => unS kvs ps) (kvs2, []) ⟨rfl, rfl, rfl, rfl, rfl, trivial⟩ ⟨H, hnd4, rfl, fun e _ h => by cases h⟩ ?_
 rintro ⟨kvs, ps⟩ w ⟨H, hn, ho, hs⟩
 refine c_seq (c_reg ?_)
 replace H := H.p1.h3 (A := mapR key2 mb1 it5 (kvs.map stV) ps) (C := bigS stO kvs)
 refine s_nextK zkt250.inj rfl rfl rfl rfl H (fun r6 ps7 w hr8 H => ?_)
 replace H := H.h1 (A := mapR key2 mb1 it5 (kvs.map stV) ps7)
 refine s_val rfl rfl (r_next0 (enc := key2) rfl rfl) (s_nil (q_then (c_seq ?_)))
 refine c_cond (b := r6.isSome) rfl (fun h9 => ?_) (fun h9 => ?_)
 ·obtain ⟨⟨⟨ka10, kb11⟩, pv12⟩, rfl⟩ := Option.isSome_iff_exists.1 h9
  obtain ⟨hpm13, hpn14, s15, rfl⟩ := hr8
  refine c_skip (q_then (c_block (c_seq (c_reg (s_val rfl rfl ((show Run _ _ _ _ _ (.tuple #[.agg #[.int .i64 ka10, .int .i64 kb11], pv12]) _ from r_entryK (p := ((ka10, kb11), pv12)) rfl rfl hpm13 H 0 rfl)) (s_1 rfl (s_alloc rfl rfl rfl zr250 H (fun b16 w H => (s_st rfl rfl rfl ty250 rfl rfl H rfl (Nat.le_of_ble_eq_true rfl) (fun u hu => by simp [Value.cells] at hu; rcases hu with rfl | rfl <;> rfl) (fun w H => ?_))))))))))
  replace H := H.h1 (A := blk b16 [.int .i64 ka10, .int .i64 kb11] 250)
  refine s_nil (q_then (c_seq (c_reg (s_val rfl rfl (r_fa rfl fo250_0 rfl) (s_val rfl rfl (r_ld rfl ty3 rfl (H.cellI 0 rfl rfl)) (s_1 rfl (s_val rfl rfl (r_eq rfl rfl rfl) (s_nil (q_then ?_)))))))))
  refine c_dec rfl (fun h17 => ?_) (fun h17 => ?_)
  ·replace H := H.p3.p3.p2
   refine c_ord (.e 0 (.e 1 (.e 2 (.e 3 (.e 4 (.m 5 .z)))))) (fun w => ∃ Ar, Hd w0 F0 w (blk b16 [.int .i64 ka10, .int .i64 kb11] 250 :: blk sb [.map (some mb1)] 253 :: bigS stO kvs :: Ar) []) mo (by kernel_rfl) (fun w H => ⟨_, H⟩) H (fun w H => (d_1 rfl (d_val rfl rfl rfl (fun w ⟨Ar, H⟩ => r_nilP rfl rfl) (d_val rfl rfl rfl (fun w ⟨Ar, H⟩ => r_fa rfl fo253_0 rfl) (d_val rfl rfl rfl (fun w ⟨Ar, H⟩ => r_ld rfl ty251 rfl (H.cellI 1 rfl rfl)) (d_val rfl rfl rfl (fun w ⟨Ar, H⟩ => r_ldA (cs := [.int .i64 ka10, .int .i64 kb11]) rfl ty250 rfl rfl (H.cellsI 0 rfl rfl)) (d_main rfl ?_)))))))
   replace H := H.p3
   refine s_mdelR zkt250 rfl rfl rfl un251 rfl (ka10, kb11) rfl H (fun w H => ?_)
   replace H := H.h1 (A := mapR key2 mb1 it5 (delK (ka10, kb11) (kvs.map stV)) (ps ++ [(s15, (ka10, kb11))])) |>.p3 |>.p3 |>.p3
   refine d_back ⟨_, H⟩ (d_nil (q_blockN ?_))
   replace H := H.p3.p2.p3.k3
   replace H := Hd.stgX (ka10, kb11) hn H
   rw [stK_V] at H
   replace H : Hd _ _ _ [bigS stO (stK (ka10, kb11) kvs), blk sb [.map (some mb1)] 253, mapR key2 mb1 it5 ((stK (ka10, kb11) kvs).map stV) (ps ++ [(s15, (ka10, kb11))])] [] := H
   replace H := H.p2.p2
   have hn2 : NodK ((stK (ka10, kb11) kvs).map stV) := by rw [← stK_V]; exact del_keys hn
   exact q_round (s := (kvs, ps)) (stK (ka10, kb11) kvs, ps ++ [(s15, (ka10, kb11))]) ⟨rfl, rfl, rfl, rfl, rfl, trivial⟩ ⟨H, hn2, (off_del h17).trans ho, seen_del hs⟩ (by exact un_next hpm13 hpn14 (.inr rfl))
  refine c_skip (q_blockN ?_)
  replace H := H.p3.p2.p3.k3
  exact q_round (s := (kvs, ps)) (kvs, ps ++ [(s15, (ka10, kb11))]) ⟨rfl, rfl, rfl, rfl, rfl, trivial⟩ ⟨H, hn, ho, seen_keep hs h17⟩ (by exact un_next hpm13 hpn14 (.inl rfl))
 obtain rfl : r6 = none := by cases r6 with | none => rfl | some _ => cases h9
 have hall := hr8.2
 rw [hr8.1] at H
 replace H : Hd _ _ _ [mapR key2 mb1 it5 (kvs.map stV) ps, blk sb [.map (some mb1)] 253, bigS stO kvs] [] := H
 refine c_exit (q_thenE (q_thenE (q_blockE (q_then (c_seq ?_)))))
 replace H := H.mapRK |>.h1 (A := mapK key2 mb1 (kvs.map stV))
 have hend : kvs.map stE = sgDrop st a := by rw [← seen_end hs hall, ho, off_E, hst3]
 refine c_reg (s_k 2 rfl (s_val rfl rfl (r_nilP rfl rfl) (s_val rfl rfl (r_fa rfl fo253_0 rfl) (s_val rfl rfl (r_ld rfl ty251 rfl (H.cellI 1 rfl rfl)) (s_val rfl rfl (r_lenK rfl un251 rfl H 0 rfl) (s_val rfl rfl (r_sub (z := IntKind.i64.wrap ((((kvs2.map stV).length : Nat) : Int) - (((kvs.map stV).length : Nat) : Int))) rfl rfl rfl rfl) (s_1 rfl (s_nil (q_then (c_ret (q_ret1 rfl rfl ?_)))))))))))
 replace H := H.p2.p1.p2
 replace H := Hd.stgC (st := sgDrop st a) hend H
 replace H := H.h1 (A := stgI 253 sb (sgDrop st a))
 exact fin ⟨_, rfl, rfl⟩ H
def redI (r : Nat) (vS : Value) (vM : Value) (vC : Value) (vR : Value) (vK : Value) (J : Job) (cw : Int) (ct : Int) (co : Int) (sb : Nat) (R : Red) : SP := ex fun hv : Nat → Value => ex fun vs : Value => ex fun us : List (Value × List Int) => star [pure_ ((us.map (fun u => u.2) = R.sets)), blk r (redC vS vM vC vR vK J cw ct co R.part R.ep R.g hv sb vs) 185, osl (kHd kPair) vS J.us, osl kIns vM J.map, osl kIns vC J.comb, osl kIns vR J.red, osl (kInt .i64) vK J.marks, prsS (R.g) hv, osl (kHd (kInt .i64)) vs us, stgI 253 sb (R.st)]
theorem redI_open (r : Nat) (vS : Value) (vM : Value) (vC : Value) (vR : Value) (vK : Value) (J : Job) (cw : Int) (ct : Int) (co : Int) (sb : Nat) (R : Red) {w0 w : World} {F0 : Foot} {As Rs : List SP} (H : Hd w0 F0 w (redI r vS vM vC vR vK J cw ct co sb R :: As) Rs) : ∃ hv : Nat → Value, ∃ vs : Value, ∃ us : List (Value × List Int), ((us.map (fun u => u.2) = R.sets)) ∧ Hd w0 F0 w ([blk r (redC vS vM vC vR vK J cw ct co R.part R.ep R.g hv sb vs) 185, osl (kHd kPair) vS J.us, osl kIns vM J.map, osl kIns vC J.comb, osl kIns vR J.red, osl (kInt .i64) vK J.marks, prsS (R.g) hv, osl (kHd (kInt .i64)) vs us, stgI 253 sb (R.st)] ++ As) Rs := by
 obtain ⟨hv, H⟩ := Hd.exA H
 obtain ⟨vs, H⟩ := Hd.exA H
 obtain ⟨us, H⟩ := Hd.exA H
 exact ⟨hv, vs, us, H.stA.puA⟩
theorem redI_shut (r : Nat) (vS : Value) (vM : Value) (vC : Value) (vR : Value) (vK : Value) (J : Job) (cw : Int) (ct : Int) (co : Int) (sb : Nat) (R : Red) (hv : Nat → Value) (vs : Value) (us : List (Value × List Int)) {w0 w : World} {F0 : Foot} {As Rs : List SP} (hp : (us.map (fun u => u.2) = R.sets)) (H : Hd w0 F0 w ([blk r (redC vS vM vC vR vK J cw ct co R.part R.ep R.g hv sb vs) 185, osl (kHd kPair) vS J.us, osl kIns vM J.map, osl kIns vC J.comb, osl kIns vR J.red, osl (kInt .i64) vK J.marks, prsS (R.g) hv, osl (kHd (kInt .i64)) vs us, stgI 253 sb (R.st)] ++ As) Rs) : Hd w0 F0 w (redI r vS vM vC vR vK J cw ct co sb R :: As) Rs := by
 have H1 := (show Hd w0 F0 w ([pure_ ((us.map (fun u => u.2) = R.sets)), blk r (redC vS vM vC vR vK J cw ct co R.part R.ep R.g hv sb vs) 185, osl (kHd kPair) vS J.us, osl kIns vM J.map, osl kIns vC J.comb, osl kIns vR J.red, osl (kInt .i64) vK J.marks, prsS (R.g) hv, osl (kHd (kInt .i64)) vs us, stgI 253 sb (R.st)] ++ As) Rs from H.puI hp).stI
 replace H1 := Hd.exI (A := fun us : List (Value × List Int) => star [pure_ ((us.map (fun u => u.2) = R.sets)), blk r (redC vS vM vC vR vK J cw ct co R.part R.ep R.g hv sb vs) 185, osl (kHd kPair) vS J.us, osl kIns vM J.map, osl kIns vC J.comb, osl kIns vR J.red, osl (kInt .i64) vK J.marks, prsS (R.g) hv, osl (kHd (kInt .i64)) vs us, stgI 253 sb (R.st)]) us H1
 replace H1 := Hd.exI (A := fun vs : Value => ex fun us : List (Value × List Int) => star [pure_ ((us.map (fun u => u.2) = R.sets)), blk r (redC vS vM vC vR vK J cw ct co R.part R.ep R.g hv sb vs) 185, osl (kHd kPair) vS J.us, osl kIns vM J.map, osl kIns vC J.comb, osl kIns vR J.red, osl (kInt .i64) vK J.marks, prsS (R.g) hv, osl (kHd (kInt .i64)) vs us, stgI 253 sb (R.st)]) vs H1
 replace H1 := Hd.exI (A := fun hv : Nat → Value => ex fun vs : Value => ex fun us : List (Value × List Int) => star [pure_ ((us.map (fun u => u.2) = R.sets)), blk r (redC vS vM vC vR vK J cw ct co R.part R.ep R.g hv sb vs) 185, osl (kHd kPair) vS J.us, osl kIns vM J.map, osl kIns vC J.comb, osl kIns vR J.red, osl (kInt .i64) vK J.marks, prsS (R.g) hv, osl (kHd (kInt .i64)) vs us, stgI 253 sb (R.st)]) hv H1
 exact H1
theorem due_ok (vmarks : Value) (marks : List Int) (n : Int) :
    Cn Tryz.prog 134 [vmarks, .int .i64 n] [] [rsl (kInt .i64) vmarks marks] (fun v Bs => v = .bool (decide (n ∈ marks)) ∧ Bs = []) := by
 intro w0 F0 H
 obtain ⟨A1, c2, rfl, hc3, hm4, hp5⟩ := H.fR 0 rfl
 refine enter Tryz.func134 rfl rfl (Nat.le_of_ble_eq_true rfl) (c_seq (c_reg (s_1 rfl (s_nil (q_then ?_)))))
 replace H : Hd _ _ _ [] [rsl (kInt .i64) (.slice A1 marks.length c2) marks] := H
 refine c_seq (c_reg (s_k 2 rfl (sc (containsI_ok (.slice A1 marks.length c2) marks n) H (lR 0 rfl l0) rfl rfl (e_fn kn136 rfl rfl) ?_)))
 rintro _ _ w ⟨rfl, rfl⟩ H
 exact s_1 rfl (s_nil (q_then (c_ret (q_ret1 rfl rfl (fin ⟨rfl, rfl⟩ H)))))
theorem looks_ok (r : Nat) (vS : Value) (vM : Value) (vC : Value) (vR : Value) (vK : Value) (J : Job) (cw : Int) (ct : Int) (co : Int) (sb : Nat) (R : Red) (n : Int) (hn : 0 ≤ n ∧ n < (J.us.length : Int)) (h6 : J.us.length ≤ 6) (hB : OkR 100000 R) (hmk : J.marks.length ≤ 1000) :
    Cn Tryz.prog 119 [.pointer (some ⟨r, 0, none⟩), .int .i64 n, .pointer (some ⟨r, 14 + (n).toNat * 5, none⟩)] [redI r vS vM vC vR vK J cw ct co sb R] [] (fun v Bs => ∃ rs : List Rec, Bs = [osl kRec v rs, redI r vS vM vC vR vK J cw ct co sb ((looksR J R (n).toNat).1)] ∧ (rs.map Rec.p = (looksR J R (n).toNat).2)) := by
 intro w0 F0 H
 obtain ⟨hv1, vs2, us3, hsets4, H⟩ := redI_open r vS vM vC vR vK J cw ct co sb R H
 replace H : Hd _ _ _ [blk r (redC vS vM vC vR vK J cw ct co R.part R.ep R.g hv1 sb vs2) 185, osl (kHd kPair) vS J.us, osl kIns vM J.map, osl kIns vC J.comb, osl kIns vR J.red, osl (kInt .i64) vK J.marks, prsS (R.g) hv1, osl (kHd (kInt .i64)) vs2 us3, stgI 253 sb (R.st)] [] := H
 obtain ⟨A5, c6, rfl, hc7, hm8, hp9⟩ := H.fA 1 rfl
 refine enter Tryz.func119 rfl rfl (Nat.le_of_ble_eq_true rfl) (c_seq (c_reg (s_1 rfl (s_nil (q_then (c_seq (c_seq (c_reg (s_1 rfl (s_val rfl rfl (r_nilP rfl rfl) (s_val rfl rfl (r_fa rfl fo181_2 rfl) (s_val rfl rfl (r_ld rfl ty4 rfl (H.cellI 0 rfl (redC_at2 (by omega)))) (s_val rfl rfl (r_not rfl rfl rfl) (s_nil (q_then ?_)))))))))))))))
 refine c_cond (b := !((R.g ((n).toNat)).told)) rfl (fun h10 => ?_) (fun h10 => ?_)
 ·refine c_seq (c_reg (s_1 rfl (s_nil (q_then (c_ret (q_thenR (q_ret1 rfl rfl ?_)))))))
  have e : looksR J R (n).toNat = (R, []) := looks_no1 (by simpa using h10)
  replace H := H.newnil kRec |>.p9 |>.p9 |>.p9 |>.p9 |>.p9 |>.p9 |>.p9 |>.p9 |>.p9
  replace H := redI_shut r (.slice A5 J.us.length c6) vM vC vR vK J cw ct co sb R hv1 vs2 us3 hsets4 H
  replace H := H.h1 (A := redI r (.slice A5 J.us.length c6) vM vC vR vK J cw ct co sb R) |>.p1
  exact fin ⟨[], by rw [e] <;> rfl, by rw [e]; rfl⟩ H
 refine c_skip (q_then (c_seq ?_))
 have hfl := hB.flat n (R.g (n).toNat).att
 have hsl := (hB.st n (R.g (n).toNat).att).1
 have hnn : (((n).toNat : Nat) : Int) = n := Int.toNat_of_nonneg hn.1
 refine c_ord (.e 0 (.e 1 (.e 2 (.e 3 (.e 4 (.e 5 (.e 6 (.e 7 (.e 8 (.e 9 (.e 10 (.e 11 (.e 12 (.m 13 (.e 14 (.e 15 (.e 16 (.e 17 (.e 18 .z))))))))))))))))))) (fun w => ∃ Ar, Hd w0 F0 w (blk r (redC (.slice A5 J.us.length c6) vM vC vR vK J cw ct co R.part R.ep R.g hv1 sb vs2) 185 :: osl (kHd kPair) (.slice A5 J.us.length c6) J.us :: osl kIns vM J.map :: osl kIns vC J.comb :: osl kIns vR J.red :: osl (kInt .i64) vK J.marks :: prsS (R.g) hv1 :: osl (kHd (kInt .i64)) vs2 us3 :: stgI 253 sb (R.st) :: Ar) []) mo (by kernel_rfl) (fun w H => ⟨_, H⟩) H (fun w H => (d_1 rfl (d_val rfl rfl rfl (fun w ⟨Ar, H⟩ => r_nilP rfl rfl) (d_val rfl rfl rfl (fun w ⟨Ar, H⟩ => r_fa rfl fo185_4 rfl) (d_val rfl rfl rfl (fun w ⟨Ar, H⟩ => r_ld rfl ty183 rfl (H.cellI 0 rfl rfl)) (d_1 rfl (d_1 rfl (d_val rfl rfl rfl (fun w ⟨Ar, H⟩ => r_nilP rfl rfl) (d_val rfl rfl rfl (fun w ⟨Ar, H⟩ => r_fa rfl fo181_3 rfl) ?_)))))))))
 refine d_val rfl rfl rfl (fun w ⟨Ar, H⟩ => r_ld rfl ty3 rfl (H.cellI 0 rfl (redC_at3 (by omega)))) (d_1 rfl (d_val rfl rfl rfl (fun w ⟨Ar, H⟩ => r_nilP rfl rfl) (d_val rfl rfl rfl (fun w ⟨Ar, H⟩ => r_fa rfl fo181_4 rfl) (d_val rfl rfl rfl (fun w ⟨Ar, H⟩ => r_ld rfl ty3 rfl (H.cellI 0 rfl (redC_at4 (by omega)))) (d_main rfl ?_)))))
 replace H := H.p8
 refine sc (stTake_ok sb R.st n ((R.g ((n).toNat)).att) ((R.g ((n).toNat)).cnt) (by first | assumption | omega) (by first | assumption | omega)) H l0 rfl rfl (e_fn kn171 rfl rfl) ?_
 rintro _ _ w ⟨u11, rfl, rfl⟩ H
 replace H := H.h1 (A := osl kPair u11 ((sgTake R.st n ((R.g ((n).toNat)).att) ((R.g ((n).toNat)).cnt)).getD [])) |>.p1 |>.p9 |>.p9 |>.p9 |>.p9 |>.p9 |>.p9 |>.p9 |>.p9
 refine d_back ⟨_, H⟩ (d_1 rfl (d_1 rfl (d_1 rfl (d_1 rfl (d_1 rfl (d_nil (q_then (c_seq (c_seq (c_reg (s_1 rfl (s_val rfl rfl (r_not rfl rfl rfl) (s_1 rfl ?_)))))))))))))
 refine s_boo (d := 35) (b := !((sgTake R.st n ((R.g ((n).toNat)).att) ((R.g ((n).toNat)).cnt)).isSome)) rfl (fun h12 => ?_) (fun h12 => ?_)
 ·refine s_k 4 rfl (s_nil (q_then (c_yes rfl (c_seq (c_reg (s_1 rfl (s_nil (q_then (c_ret (q_thenR (q_ret1 rfl rfl ?_)))))))))))
  have e : looksR J R (n).toNat = (R, []) := looks_no2 hnn (none_of (by simpa using h12))
  replace H := H.newnil kRec |>.p9 |>.p9 |>.p9 |>.p9 |>.p9 |>.p9 |>.p9 |>.p9 |>.p9 |>.k10
  replace H := redI_shut r (.slice A5 J.us.length c6) vM vC vR vK J cw ct co sb R hv1 vs2 us3 hsets4 H
  replace H := H.h1 (A := redI r (.slice A5 J.us.length c6) vM vC vR vK J cw ct co sb R) |>.p1
  exact fin ⟨[], by rw [e] <;> rfl, by rw [e]; rfl⟩ H
 refine s_1 rfl ?_
 obtain ⟨A13, c14, rfl, hc15, hm16, hp17⟩ := H.fA 9 rfl
 refine s_val rfl rfl (r_lenL rfl un35 rfl) (s_val rfl rfl (r_gt rfl rfl rfl) (s_1 rfl (s_nil (q_then ?_))))
 refine c_dec rfl (fun h18 => ?_) (fun h18 => ?_)
 ·refine c_seq (c_reg (s_1 rfl (s_nil (q_then (c_ret (q_thenR (q_ret1 rfl rfl ?_)))))))
  have e : looksR J R (n).toNat = (R, []) := looks_no3 hnn (some_getD ([] : List Pair) (by simpa using h12)) (by omega)
  replace H := H.newnil kRec |>.p9 |>.p9 |>.p9 |>.p9 |>.p9 |>.p9 |>.p9 |>.p9 |>.p9 |>.k10
  replace H := redI_shut r (.slice A5 J.us.length c6) vM vC vR vK J cw ct co sb R hv1 vs2 us3 hsets4 H
  replace H := H.h1 (A := redI r (.slice A5 J.us.length c6) vM vC vR vK J cw ct co sb R) |>.p1
  exact fin ⟨[], by rw [e] <;> rfl, by rw [e]; rfl⟩ H
 refine c_skip (q_then (c_seq ?_))
 have htk := some_getD ([] : List Pair) (by simpa using h12)
 have hto : (R.g (n).toNat).told = true := by simpa using h10
 have hpl : ((sgTake R.st n (R.g (n).toNat).att (R.g (n).toNat).cnt).getD []).length ≤ 40 := by omega
 refine c_reg (s_k 3 rfl (s_val rfl rfl (r_nilP rfl rfl) (s_val rfl rfl (r_fa rfl fo181_0 rfl) (s_st rfl rfl rfl ty4 rfl rfl H rfl (by show 14 + ((n).toNat) * 5 + 0 + 1 ≤ 46; omega) (fun u hu => by simp [Value.cells] at hu; subst hu; rfl) (fun w H => ?_)))))
 replace H : Hd w0 F0 w [blk r (redC (.slice A5 J.us.length c6) vM vC vR vK J cw ct co R.part R.ep (setD R.g ((n).toNat) { R.g ((n).toNat) with merged := true }) hv1 sb vs2) 185, osl (kHd kPair) (.slice A5 J.us.length c6) J.us, osl kIns vM J.map, osl kIns vC J.comb, osl kIns vR J.red, osl (kInt .i64) vK J.marks, prsS (R.g) hv1, osl (kHd (kInt .i64)) vs2 us3, stgI 253 sb (R.st), osl kPair (.slice A13 (((sgTake R.st n ((R.g ((n).toNat)).att) ((R.g ((n).toNat)).cnt)).getD []).length) c14) ((sgTake R.st n ((R.g ((n).toNat)).att) ((R.g ((n).toNat)).cnt)).getD [])] [] := by rw [← redC_put0 (show (n).toNat < 6 by omega) true]; exact H
 refine s_val rfl rfl (r_nilP rfl rfl) (s_val rfl rfl (r_fa rfl fo181_1 rfl) (s_st rfl rfl rfl ty35 rfl rfl H rfl (by show 14 + ((n).toNat) * 5 + 1 + 1 ≤ 46; omega) (fun u hu => by simp [Value.cells] at hu; subst hu; rfl) (fun w H => ?_)))
 replace H : Hd w0 F0 w [blk r (redC (.slice A5 J.us.length c6) vM vC vR vK J cw ct co R.part R.ep (setD R.g ((n).toNat) { R.g ((n).toNat) with merged := true }) (setD hv1 ((n).toNat) (.slice A13 (((sgTake R.st n ((R.g ((n).toNat)).att) ((R.g ((n).toNat)).cnt)).getD []).length) c14 : Value)) sb vs2) 185, osl (kHd kPair) (.slice A5 J.us.length c6) J.us, osl kIns vM J.map, osl kIns vC J.comb, osl kIns vR J.red, osl (kInt .i64) vK J.marks, prsS (R.g) hv1, osl (kHd (kInt .i64)) vs2 us3, stgI 253 sb (R.st), osl kPair (.slice A13 (((sgTake R.st n ((R.g ((n).toNat)).att) ((R.g ((n).toNat)).cnt)).getD []).length) c14) ((sgTake R.st n ((R.g ((n).toNat)).att) ((R.g ((n).toNat)).cnt)).getD [])] [] := by rw [← redC_put1 (show (n).toNat < 6 by omega) (.slice A13 (((sgTake R.st n ((R.g ((n).toNat)).att) ((R.g ((n).toNat)).cnt)).getD []).length) c14 : Value)]; exact H
 refine s_nil (q_then (c_seq (c_reg (s_1 rfl (s_val rfl rfl (r_nilP rfl rfl) (s_val rfl rfl (r_fa rfl fo185_4 rfl) (s_val rfl rfl (r_ld rfl ty183 rfl (H.cellI 0 rfl rfl)) (s_1 rfl ?_))))))))
 replace H := H.p8
 refine sc (stDrop_ok sb R.st n) H l0 rfl rfl (e_fn kn172 rfl rfl) ?_
 rintro _ _ w ⟨z19, rfl, rfl⟩ H
 replace H := H.h1 (A := stgI 253 sb (sgDrop R.st n))
 refine s_nil (q_then (c_seq (c_ord (.e 0 (.e 1 (.e 2 (.e 3 (.e 4 (.e 5 (.e 6 (.e 7 (.e 8 (.e 9 (.m 10 (.e 11 (.m 12 (.e 13 .z)))))))))))))) (fun w => ∃ Ar, Hd w0 F0 w (stgI 253 sb (sgDrop R.st n) :: blk r (redC (.slice A5 J.us.length c6) vM vC vR vK J cw ct co R.part R.ep (setD R.g ((n).toNat) { R.g ((n).toNat) with merged := true }) (setD hv1 ((n).toNat) (.slice A13 (((sgTake R.st n ((R.g ((n).toNat)).att) ((R.g ((n).toNat)).cnt)).getD []).length) c14 : Value)) sb vs2) 185 :: osl (kHd kPair) (.slice A5 J.us.length c6) J.us :: osl kIns vM J.map :: osl kIns vC J.comb :: osl kIns vR J.red :: osl (kInt .i64) vK J.marks :: prsS (R.g) hv1 :: osl (kHd (kInt .i64)) vs2 us3 :: osl kPair (.slice A13 (((sgTake R.st n ((R.g ((n).toNat)).att) ((R.g ((n).toNat)).cnt)).getD []).length) c14) ((sgTake R.st n ((R.g ((n).toNat)).att) ((R.g ((n).toNat)).cnt)).getD []) :: Ar) []) mo (by kernel_rfl) (fun w H => ⟨_, H⟩) H (fun w H => ?_))))
 refine d_1 rfl (d_val rfl rfl rfl (fun w ⟨Ar, H⟩ => r_nilP rfl rfl) (d_val rfl rfl rfl (fun w ⟨Ar, H⟩ => r_fa rfl fo185_1 rfl) (d_val rfl rfl rfl (fun w ⟨Ar, H⟩ => r_ld rfl ty3 rfl (H.cellI 1 rfl rfl)) (d_1 rfl (d_1 rfl (d_val rfl rfl rfl (fun w ⟨Ar, H⟩ => r_nilP rfl rfl) (d_val rfl rfl rfl (fun w ⟨Ar, H⟩ => r_fa rfl fo181_3 rfl) (d_val rfl rfl rfl (fun w ⟨Ar, H⟩ => r_ld rfl ty3 rfl (H.cellI 1 rfl ((redC_at3 (by omega)).trans (congrArg some (by rw [setD_self]))))) (d_1 rfl (d_main rfl (sc (clone_ok (.slice A13 (((sgTake R.st n ((R.g ((n).toNat)).att) ((R.g ((n).toNat)).cnt)).getD []).length) c14) ((sgTake R.st n ((R.g ((n).toNat)).att) ((R.g ((n).toNat)).cnt)).getD []) (by first | assumption | omega)) H (lA 9 rfl own_rd l0) rfl rfl (e_fn kn123 rfl rfl) ?_)))))))))))
 rintro v20 _ w rfl H
 obtain ⟨A21, c22, rfl, hc23, hm24, hp25⟩ := H.fA 0 rfl
 replace H : Hd _ _ _ [osl kPair (.slice A21 (((sgTake R.st n ((R.g ((n).toNat)).att) ((R.g ((n).toNat)).cnt)).getD []).length) c22) ((sgTake R.st n ((R.g ((n).toNat)).att) ((R.g ((n).toNat)).cnt)).getD []), stgI 253 sb (sgDrop R.st n), blk r (redC (.slice A5 J.us.length c6) vM vC vR vK J cw ct co R.part R.ep (setD R.g ((n).toNat) { R.g ((n).toNat) with merged := true }) (setD hv1 ((n).toNat) (.slice A13 (((sgTake R.st n ((R.g ((n).toNat)).att) ((R.g ((n).toNat)).cnt)).getD []).length) c14 : Value)) sb vs2) 185, osl (kHd kPair) (.slice A5 J.us.length c6) J.us, osl kIns vM J.map, osl kIns vC J.comb, osl kIns vR J.red, osl (kInt .i64) vK J.marks, prsS (R.g) hv1, osl (kHd (kInt .i64)) vs2 us3, osl kPair (.slice A13 (((sgTake R.st n ((R.g ((n).toNat)).att) ((R.g ((n).toNat)).cnt)).getD []).length) c14) ((sgTake R.st n ((R.g ((n).toNat)).att) ((R.g ((n).toNat)).cnt)).getD [])] [] := H
 replace H := H.pick 10 rfl |>.pick 10 rfl |>.pick 10 rfl |>.pick 10 rfl |>.pick 10 rfl |>.pick 10 rfl |>.pick 10 rfl |>.pick 10 rfl |>.pick 10 rfl |>.pick 10 rfl
 refine d_back ⟨_, H⟩ (d_val rfl rfl rfl (fun w ⟨Ar, H⟩ => r_bd (parts := [(0, .const (.int .i64 4)), (1, .tmp 56), (2, .tmp 57), (3, .tmp 61), (6, .tmp 63)]) (vs := [.int .i64 4, .int .i64 R.part, .int .i64 n, .int .i64 ((R.g (n).toNat).att), .slice A21 (((sgTake R.st n ((R.g ((n).toNat)).att) ((R.g ((n).toNat)).cnt)).getD []).length) c22]) (cs := [.int .i64 4, .int .i64 R.part, .int .i64 n, .int .i64 ((R.g (n).toNat).att), .int .i64 0, .slice none 0 0, .slice A21 (((sgTake R.st n ((R.g ((n).toNat)).att) ((R.g ((n).toNat)).cnt)).getD []).length) c22]) rfl bd37 rfl rfl) (d_main rfl (s_bsl (parts := [(0, .tmp 64)]) (vs := [.agg #[.int .i64 4, .int .i64 R.part, .int .i64 n, .int .i64 ((R.g (n).toNat).att), .int .i64 0, .slice none 0 0, .slice A21 (((sgTake R.st n ((R.g ((n).toNat)).att) ((R.g ((n).toNat)).cnt)).getD []).length) c22]]) (cs := [.int .i64 4, .int .i64 R.part, .int .i64 n, .int .i64 ((R.g (n).toNat).att), .int .i64 0, .slice none 0 0, .slice A21 (((sgTake R.st n ((R.g ((n).toNat)).att) ((R.g ((n).toNat)).cnt)).getD []).length) c22]) rfl rfl rfl sl29 zr37 rfl (by decide) (by decide) rfl rfl H (fun b26 w H => ?_))))
 replace H := H.h1 (A := blk b26 [.int .i64 4, .int .i64 R.part, .int .i64 n, .int .i64 ((R.g (n).toNat).att), .int .i64 0, .slice none 0 0, .slice A21 (((sgTake R.st n ((R.g ((n).toNat)).att) ((R.g ((n).toNat)).cnt)).getD []).length) c22] 37) |>.pick 10 rfl |>.pick 10 rfl |>.pick 10 rfl |>.pick 10 rfl |>.pick 10 rfl |>.pick 10 rfl |>.pick 10 rfl |>.pick 10 rfl |>.pick 10 rfl |>.pick 10 rfl
 refine d_back ⟨_, H⟩ (d_1 rfl (d_nil (q_then (c_seq (c_seq ?_)))))
 obtain ⟨R1, hR1⟩ : ∃ R1 : Red, R1 = { R with g := setD R.g (n).toNat { R.g (n).toNat with merged := true, pairs := (sgTake R.st n (R.g (n).toNat).att (R.g (n).toNat).cnt).getD [] }, st := sgDrop R.st n } := ⟨_, rfl⟩
 replace H := H.pick 11 rfl |>.p1 |>.p9 |>.p8 |>.p8 |>.p8 |>.p8 |>.p8 |>.p8 |>.p9 |>.pick 10 rfl |>.prsU (i := (n).toNat) (x := ({ R.g (n).toNat with merged := true, pairs := (sgTake R.st n (R.g (n).toNat).att (R.g (n).toNat).cnt).getD [] } : SpD)) (by omega)
 replace H : Hd w0 F0 w [prsS (R1.g) (setD hv1 ((n).toNat) (.slice A13 (((sgTake R.st n ((R.g ((n).toNat)).att) ((R.g ((n).toNat)).cnt)).getD []).length) c14 : Value)), blk r (redC (.slice A5 J.us.length c6) vM vC vR vK J cw ct co R1.part R1.ep R1.g (setD hv1 ((n).toNat) (.slice A13 (((sgTake R.st n ((R.g ((n).toNat)).att) ((R.g ((n).toNat)).cnt)).getD []).length) c14 : Value)) sb vs2) 185, osl (kHd kPair) (.slice A5 J.us.length c6) J.us, osl kIns vM J.map, osl kIns vC J.comb, osl kIns vR J.red, osl (kInt .i64) vK J.marks, osl (kHd (kInt .i64)) vs2 us3, stgI 253 sb (R1.st), osl kPair (.slice A21 (((sgTake R.st n ((R.g ((n).toNat)).att) ((R.g ((n).toNat)).cnt)).getD []).length) c22) ((sgTake R.st n ((R.g ((n).toNat)).att) ((R.g ((n).toNat)).cnt)).getD []), blk b26 [.int .i64 4, .int .i64 R.part, .int .i64 n, .int .i64 ((R.g (n).toNat).att), .int .i64 0, .slice none 0 0, .slice A21 (((sgTake R.st n ((R.g ((n).toNat)).att) ((R.g ((n).toNat)).cnt)).getD []).length) c22] 37] [] := by
   rw [hR1]
   rw [← redC_congr (g := setD R.g (n).toNat { R.g (n).toNat with merged := true }) (g' := setD R.g (n).toNat ({ R.g (n).toNat with merged := true, pairs := (sgTake R.st n (R.g (n).toNat).att (R.g (n).toNat).cnt).getD [] } : SpD)) (fun j => by by_cases e : j = (n).toNat <;> first | (subst e; rw [setD_self, setD_self]; exact ⟨rfl, rfl, rfl, rfl⟩) | (rw [setD_ne _ _ e, setD_ne _ _ e]; exact ⟨rfl, rfl, rfl, rfl⟩))]
   exact H
 have hs1 : R1.sets = R.sets := by rw [hR1]
 have hul := congrArg List.length hsets4
 rw [List.length_map] at hul
 have hbs := hB.sets
 refine c_reg (s_1 rfl (sc (merged_ok r A5 c6 vM vC vR vK J cw ct co R1.part R1.ep R1 (setD hv1 ((n).toNat) (.slice A13 (((sgTake R.st n ((R.g ((n).toNat)).att) ((R.g ((n).toNat)).cnt)).getD []).length) c14 : Value)) sb vs2 (by first | assumption | omega)) H (lA 1 rfl (fun _ h => h) l0) rfl rfl (e_fn kn51 rfl rfl) ?_))
 rintro v27 _ w rfl H
 obtain ⟨A28, c29, rfl, hc30, hm31, hp32⟩ := H.fA 0 rfl
 have hml := merged_len J.us.length R1
 refine s_1 rfl (s_nil (q_then ?_))
 replace H : Hd _ _ _ [osl (kInt .i64) (.slice A28 ((mergedL J.us.length R1).length) c29) (mergedL J.us.length R1), prsS (R1.g) (setD hv1 ((n).toNat) (.slice A13 (((sgTake R.st n ((R.g ((n).toNat)).att) ((R.g ((n).toNat)).cnt)).getD []).length) c14 : Value)), blk r (redC (.slice A5 J.us.length c6) vM vC vR vK J cw ct co R1.part R1.ep R1.g (setD hv1 ((n).toNat) (.slice A13 (((sgTake R.st n ((R.g ((n).toNat)).att) ((R.g ((n).toNat)).cnt)).getD []).length) c14 : Value)) sb vs2) 185, osl (kHd kPair) (.slice A5 J.us.length c6) J.us, osl kIns vM J.map, osl kIns vC J.comb, osl kIns vR J.red, osl (kInt .i64) vK J.marks, osl (kHd (kInt .i64)) vs2 us3, stgI 253 sb (R1.st), osl kPair (.slice A21 (((sgTake R.st n ((R.g ((n).toNat)).att) ((R.g ((n).toNat)).cnt)).getD []).length) c22) ((sgTake R.st n ((R.g ((n).toNat)).att) ((R.g ((n).toNat)).cnt)).getD []), blk b26 [.int .i64 4, .int .i64 R.part, .int .i64 n, .int .i64 ((R.g (n).toNat).att), .int .i64 0, .slice none 0 0, .slice A21 (((sgTake R.st n ((R.g ((n).toNat)).att) ((R.g ((n).toNat)).cnt)).getD []).length) c22] 37] [] := H
 refine c_seq (c_reg (s_1 rfl (s_val rfl rfl (r_nilP rfl rfl) (s_val rfl rfl (r_fa rfl fo185_0 rfl) (s_val rfl rfl (r_fa rfl fo28_0 rfl) (s_val rfl rfl (r_fa rfl fo26_8 rfl) (s_val rfl rfl (r_ld rfl ty24 rfl (H.cellI 2 rfl rfl)) (s_1 rfl (s_val rfl rfl (r_lenL rfl un24 rfl) (sc (due_ok vK J.marks (((mergedL J.us.length R1).length : Nat) : Int)) H (lA 7 rfl own_rd l0) rfl rfl (e_fn kn134 rfl rfl) ?_))))))))))
 rintro _ _ w ⟨rfl, rfl⟩ H
 refine s_nil (q_then ?_)
 refine c_dec rfl (fun h33 => ?_) (fun h33 => ?_)
 ·refine c_seq ?_
  replace H := H.sel 12 [0, 1, 3, 4, 5, 6, 7, 9, 10, 11, 2, 8] [] rfl (by kernel_rfl)
  replace H : Hd _ _ _ [osl (kInt .i64) (.slice A28 ((mergedL J.us.length R1).length) c29) (mergedL J.us.length R1), prsS (R1.g) (setD hv1 ((n).toNat) (.slice A13 (((sgTake R.st n ((R.g ((n).toNat)).att) ((R.g ((n).toNat)).cnt)).getD []).length) c14 : Value)), osl (kHd kPair) (.slice A5 J.us.length c6) J.us, osl kIns vM J.map, osl kIns vC J.comb, osl kIns vR J.red, osl (kInt .i64) vK J.marks, stgI 253 sb (R1.st), osl kPair (.slice A21 (((sgTake R.st n ((R.g ((n).toNat)).att) ((R.g ((n).toNat)).cnt)).getD []).length) c22) ((sgTake R.st n ((R.g ((n).toNat)).att) ((R.g ((n).toNat)).cnt)).getD []), blk b26 [.int .i64 4, .int .i64 R.part, .int .i64 n, .int .i64 ((R.g (n).toNat).att), .int .i64 0, .slice none 0 0, .slice A21 (((sgTake R.st n ((R.g ((n).toNat)).att) ((R.g ((n).toNat)).cnt)).getD []).length) c22] 37, blk r (redC (.slice A5 J.us.length c6) vM vC vR vK J cw ct co R1.part R1.ep R1.g (setD hv1 ((n).toNat) (.slice A13 (((sgTake R.st n ((R.g ((n).toNat)).att) ((R.g ((n).toNat)).cnt)).getD []).length) c14 : Value)) sb vs2) 185, osl (kHd (kInt .i64)) vs2 us3] [] := H
  refine c_ord (.e 0 (.e 1 (.e 2 (.e 3 (.e 5 (.b 4 6 (.m 6 (.m 7 (.m 8 (.e 9 (.e 10 (.m 11 .z)))))) (.b 4 7 (.m 7 (.m 8 (.e 9 (.e 10 (.m 11 .z))))) (.m 4 (.m 8 (.e 9 (.e 10 (.m 11 .z)))))))))))) (fun w => ∃ Ar, Hd w0 F0 w (osl (kInt .i64) (.slice A28 ((mergedL J.us.length R1).length) c29) (mergedL J.us.length R1) :: prsS (R1.g) (setD hv1 ((n).toNat) (.slice A13 (((sgTake R.st n ((R.g ((n).toNat)).att) ((R.g ((n).toNat)).cnt)).getD []).length) c14 : Value)) :: osl (kHd kPair) (.slice A5 J.us.length c6) J.us :: osl kIns vM J.map :: osl kIns vC J.comb :: osl kIns vR J.red :: osl (kInt .i64) vK J.marks :: stgI 253 sb (R1.st) :: osl kPair (.slice A21 (((sgTake R.st n ((R.g ((n).toNat)).att) ((R.g ((n).toNat)).cnt)).getD []).length) c22) ((sgTake R.st n ((R.g ((n).toNat)).att) ((R.g ((n).toNat)).cnt)).getD []) :: blk b26 [.int .i64 4, .int .i64 R.part, .int .i64 n, .int .i64 ((R.g (n).toNat).att), .int .i64 0, .slice none 0 0, .slice A21 (((sgTake R.st n ((R.g ((n).toNat)).att) ((R.g ((n).toNat)).cnt)).getD []).length) c22] 37 :: Ar) []) mo (by kernel_rfl) (fun w H => ⟨_, H⟩) H (fun w H => ?_)
  refine d_1 rfl (d_1 rfl (d_val rfl rfl rfl (fun w ⟨Ar, H⟩ => r_nilP rfl rfl) (d_val rfl rfl rfl (fun w ⟨Ar, H⟩ => r_fa rfl fo185_5 rfl) (d_1 rfl ?_))))
  refine d_both rfl rfl ?_ ?_
  ·refine s_val rfl rfl (r_ld rfl ty144 rfl (H.cellI 10 rfl rfl)) (d_back ⟨_, H⟩ (d_main rfl (sc (cloneInt_ok (.slice A28 ((mergedL J.us.length R1).length) c29) (mergedL J.us.length R1) (by first | assumption | omega)) H (lA 0 rfl own_rd l0) rfl rfl (e_fn kn129 rfl rfl) ?_)))
   rintro v34 _ w rfl H
   replace H := H.h1 (A := osl (kInt .i64) v34 (mergedL J.us.length R1)) |>.pick 10 rfl |>.pick 10 rfl |>.pick 10 rfl |>.pick 10 rfl |>.pick 10 rfl |>.pick 10 rfl |>.pick 10 rfl |>.pick 10 rfl |>.pick 10 rfl |>.pick 10 rfl
   refine d_back ⟨_, H⟩ (d_main rfl ?_)
   obtain ⟨A36, c37, rfl, hc38, hm39, hp40⟩ := H.fA 10 rfl
   refine s_bsl (parts := [(0, .tmp 83)]) (vs := [.slice A36 ((mergedL J.us.length R1).length) c37]) (cs := [.slice A36 ((mergedL J.us.length R1).length) c37]) rfl rfl rfl sl144 zr24 rfl (by decide) (by decide) rfl rfl H (fun b35 w H => ?_)
   replace H : Hd _ _ _ [blk b35 [.slice A36 ((mergedL J.us.length R1).length) c37] 24, osl (kInt .i64) (.slice A28 ((mergedL J.us.length R1).length) c29) (mergedL J.us.length R1), prsS (R1.g) (setD hv1 ((n).toNat) (.slice A13 (((sgTake R.st n ((R.g ((n).toNat)).att) ((R.g ((n).toNat)).cnt)).getD []).length) c14 : Value)), osl (kHd kPair) (.slice A5 J.us.length c6) J.us, osl kIns vM J.map, osl kIns vC J.comb, osl kIns vR J.red, osl (kInt .i64) vK J.marks, stgI 253 sb (R1.st), osl kPair (.slice A21 (((sgTake R.st n ((R.g ((n).toNat)).att) ((R.g ((n).toNat)).cnt)).getD []).length) c22) ((sgTake R.st n ((R.g ((n).toNat)).att) ((R.g ((n).toNat)).cnt)).getD []), blk b26 [.int .i64 4, .int .i64 R.part, .int .i64 n, .int .i64 ((R.g (n).toNat).att), .int .i64 0, .slice none 0 0, .slice A21 (((sgTake R.st n ((R.g ((n).toNat)).att) ((R.g ((n).toNat)).cnt)).getD []).length) c22] 37, osl (kInt .i64) (.slice A36 ((mergedL J.us.length R1).length) c37) (mergedL J.us.length R1), blk r (redC (.slice A5 J.us.length c6) vM vC vR vK J cw ct co R1.part R1.ep R1.g (setD hv1 ((n).toNat) (.slice A13 (((sgTake R.st n ((R.g ((n).toNat)).att) ((R.g ((n).toNat)).cnt)).getD []).length) c14 : Value)) sb vs2) 185, osl (kHd (kInt .i64)) vs2 us3] [] := H
   replace H := H.pick 10 rfl |>.pick 10 rfl |>.pick 10 rfl |>.pick 10 rfl |>.pick 10 rfl |>.pick 10 rfl |>.pick 10 rfl |>.pick 10 rfl |>.pick 10 rfl |>.pick 10 rfl
   refine d_back ⟨_, H⟩ (d_main rfl ?_)
   replace H := H.pick 13 rfl |>.pick 12 rfl |>.pick 12 rfl |>.p2
   refine s_appH rfl rfl rfl sl144 zr24 rfl (by decide) rfl rfl H (by first | omega | (simp only [List.length_append, List.length_cons, List.length_nil]; omega)) (fun v41 w H => ?_)
   replace H := H.h1 (A := osl (kHd (kInt .i64)) v41 (us3 ++ [((.slice A36 ((mergedL J.us.length R1).length) c37 : Value), mergedL J.us.length R1)])) |>.pick 10 rfl |>.pick 10 rfl |>.pick 10 rfl |>.pick 10 rfl |>.pick 10 rfl |>.pick 10 rfl |>.pick 10 rfl |>.pick 10 rfl |>.pick 10 rfl |>.pick 10 rfl
   refine d_back ⟨_, H⟩ (d_val rfl rfl rfl (fun w ⟨Ar, H⟩ => r_nilP rfl rfl) (d_val rfl rfl rfl (fun w ⟨Ar, H⟩ => r_fa rfl fo185_5 rfl) (d_main rfl ?_)))
   obtain ⟨A42, c43, rfl, hc44, hm45, hp46⟩ := H.fA 10 rfl
   replace H := H.pick 11 rfl
   refine s_st rfl rfl rfl ty144 rfl rfl H rfl (Nat.le_of_ble_eq_true rfl) (fun u hu => by simp [Value.cells] at hu; subst hu; rfl) (fun w H => ?_)
   replace H : Hd _ _ _ [blk r (redC (.slice A5 J.us.length c6) vM vC vR vK J cw ct co R1.part R1.ep R1.g (setD hv1 ((n).toNat) (.slice A13 (((sgTake R.st n ((R.g ((n).toNat)).att) ((R.g ((n).toNat)).cnt)).getD []).length) c14 : Value)) sb (.slice A42 ((us3 ++ [((.slice A36 ((mergedL J.us.length R1).length) c37 : Value), mergedL J.us.length R1)]).length) c43)) 185, osl (kInt .i64) (.slice A28 ((mergedL J.us.length R1).length) c29) (mergedL J.us.length R1), prsS (R1.g) (setD hv1 ((n).toNat) (.slice A13 (((sgTake R.st n ((R.g ((n).toNat)).att) ((R.g ((n).toNat)).cnt)).getD []).length) c14 : Value)), osl (kHd kPair) (.slice A5 J.us.length c6) J.us, osl kIns vM J.map, osl kIns vC J.comb, osl kIns vR J.red, osl (kInt .i64) vK J.marks, stgI 253 sb (R1.st), osl kPair (.slice A21 (((sgTake R.st n ((R.g ((n).toNat)).att) ((R.g ((n).toNat)).cnt)).getD []).length) c22) ((sgTake R.st n ((R.g ((n).toNat)).att) ((R.g ((n).toNat)).cnt)).getD []), blk b26 [.int .i64 4, .int .i64 R.part, .int .i64 n, .int .i64 ((R.g (n).toNat).att), .int .i64 0, .slice none 0 0, .slice A21 (((sgTake R.st n ((R.g ((n).toNat)).att) ((R.g ((n).toNat)).cnt)).getD []).length) c22] 37, osl (kHd (kInt .i64)) (.slice A42 ((us3 ++ [((.slice A36 ((mergedL J.us.length R1).length) c37 : Value), mergedL J.us.length R1)]).length) c43) (us3 ++ [((.slice A36 ((mergedL J.us.length R1).length) c37 : Value), mergedL J.us.length R1)])] [] := H
   replace H := H.pick 10 rfl |>.pick 10 rfl |>.pick 10 rfl |>.pick 10 rfl |>.pick 10 rfl |>.pick 10 rfl |>.pick 10 rfl |>.pick 10 rfl |>.pick 10 rfl |>.pick 10 rfl
   refine d_back ⟨_, H⟩ (d_nil (q_then (c_reg (s_k 2 rfl (s_val rfl rfl (r_nilP rfl rfl) (s_val rfl rfl (r_fa rfl fo185_1 rfl) (s_val rfl rfl (r_ld rfl ty3 rfl (H.cellI 10 rfl rfl)) (s_1 rfl (s_val rfl rfl (r_bd (parts := [(0, .const (.int .i64 5)), (1, .tmp 92), (5, .tmp 93)]) (vs := [.int .i64 5, .int .i64 R1.part, .slice A28 ((mergedL J.us.length R1).length) c29]) (cs := [.int .i64 5, .int .i64 R1.part, .int .i64 0, .int .i64 0, .int .i64 0, .slice A28 ((mergedL J.us.length R1).length) c29, .slice none 0 0]) rfl bd37 rfl rfl) (s_bsl (parts := [(0, .tmp 94)]) (vs := [.agg #[.int .i64 5, .int .i64 R1.part, .int .i64 0, .int .i64 0, .int .i64 0, .slice A28 ((mergedL J.us.length R1).length) c29, .slice none 0 0]]) (cs := [.int .i64 5, .int .i64 R1.part, .int .i64 0, .int .i64 0, .int .i64 0, .slice A28 ((mergedL J.us.length R1).length) c29, .slice none 0 0]) rfl rfl rfl sl29 zr37 rfl (by decide) (by decide) rfl rfl H (fun b47 w H => ?_)))))))))))
   replace H := H.h1 (A := blk b47 [.int .i64 5, .int .i64 R1.part, .int .i64 0, .int .i64 0, .int .i64 0, .slice A28 ((mergedL J.us.length R1).length) c29, .slice none 0 0] 37) |>.pick 10 rfl
   replace H : Hd w0 F0 w [osl kRecF (.slice (some ⟨b26, 0, none⟩) 1 1) [(⟨4, R.part, n, (R.g (n).toNat).att, 0, ⟨none, 0, 0⟩, ⟨A21, ((sgTake R.st n ((R.g ((n).toNat)).att) ((R.g ((n).toNat)).cnt)).getD []).length, c22⟩⟩ : RecF)], blk b47 [.int .i64 5, .int .i64 R1.part, .int .i64 0, .int .i64 0, .int .i64 0, .slice A28 ((mergedL J.us.length R1).length) c29, .slice none 0 0] 37, osl (kInt .i64) (.slice A28 ((mergedL J.us.length R1).length) c29) (mergedL J.us.length R1), prsS (R1.g) (setD hv1 ((n).toNat) (.slice A13 (((sgTake R.st n ((R.g ((n).toNat)).att) ((R.g ((n).toNat)).cnt)).getD []).length) c14 : Value)), osl (kHd kPair) (.slice A5 J.us.length c6) J.us, osl kIns vM J.map, osl kIns vC J.comb, osl kIns vR J.red, osl (kInt .i64) vK J.marks, stgI 253 sb (R1.st), osl kPair (.slice A21 (((sgTake R.st n ((R.g ((n).toNat)).att) ((R.g ((n).toNat)).cnt)).getD []).length) c22) ((sgTake R.st n ((R.g ((n).toNat)).att) ((R.g ((n).toNat)).cnt)).getD []), blk r (redC (.slice A5 J.us.length c6) vM vC vR vK J cw ct co R1.part R1.ep R1.g (setD hv1 ((n).toNat) (.slice A13 (((sgTake R.st n ((R.g ((n).toNat)).att) ((R.g ((n).toNat)).cnt)).getD []).length) c14 : Value)) sb (.slice A42 ((us3 ++ [((.slice A36 ((mergedL J.us.length R1).length) c37 : Value), mergedL J.us.length R1)]).length) c43)) 185, osl (kHd (kInt .i64)) (.slice A42 ((us3 ++ [((.slice A36 ((mergedL J.us.length R1).length) c37 : Value), mergedL J.us.length R1)]).length) c43) (us3 ++ [((.slice A36 ((mergedL J.us.length R1).length) c37 : Value), mergedL J.us.length R1)])] [] := H.turn (fun F h => blk_osl h rfl (by decide) rfl)
   refine s_appF (xs := [(⟨4, R.part, n, (R.g (n).toNat).att, 0, ⟨none, 0, 0⟩, ⟨A21, ((sgTake R.st n ((R.g ((n).toNat)).att) ((R.g ((n).toNat)).cnt)).getD []).length, c22⟩⟩ : RecF)]) (ys := [(⟨5, R1.part, 0, 0, 0, ⟨A28, (mergedL J.us.length R1).length, c29⟩, ⟨none, 0, 0⟩⟩ : RecF)]) rfl rfl rfl sl29 zr37 rfl (by decide) rfl rfl H (by first | omega | (simp only [List.length_append, List.length_cons, List.length_nil]; omega)) (fun F hA hR => blk_rsl (hA _ (List.mem_of_getElem? (i := 0) rfl)) rfl (by decide) (RepsR.flat_eq.2 rfl)) (fun v48 w H => ?_)
   replace H := H.h1 (A := osl kRecF v48 ([(⟨4, R.part, n, (R.g (n).toNat).att, 0, ⟨none, 0, 0⟩, ⟨A21, ((sgTake R.st n ((R.g ((n).toNat)).att) ((R.g ((n).toNat)).cnt)).getD []).length, c22⟩⟩ : RecF)] ++ [(⟨5, R1.part, 0, 0, 0, ⟨A28, (mergedL J.us.length R1).length, c29⟩, ⟨none, 0, 0⟩⟩ : RecF)]))
   refine s_1 rfl (s_nil (q_then (c_seq (c_reg (s_k 2 rfl (s_nil (q_then (c_ret (q_ret1 rfl rfl ?_)))))))))
   have e := looks_two hnn hto htk hpl hR1 h33
   replace H := H.p2.pick 10 rfl |>.p2 |>.pick 10 rfl |>.pick 12 rfl |>.p6 |>.pick 11 rfl |>.pick 11 rfl |>.pick 11 rfl |>.pick 11 rfl |>.pick 11 rfl |>.pick 12 rfl |>.keep 12 |>.h9 (A := blk r (redC (.slice A5 J.us.length c6) vM vC vR vK J cw ct co (({ R1 with sets := R1.sets ++ [mergedL J.us.length R1] } : Red).part) (({ R1 with sets := R1.sets ++ [mergedL J.us.length R1] } : Red).ep) (({ R1 with sets := R1.sets ++ [mergedL J.us.length R1] } : Red).g) (setD hv1 ((n).toNat) (.slice A13 (((sgTake R.st n ((R.g ((n).toNat)).att) ((R.g ((n).toNat)).cnt)).getD []).length) c14 : Value)) sb (.slice A42 ((us3 ++ [((.slice A36 ((mergedL J.us.length R1).length) c37 : Value), mergedL J.us.length R1)]).length) c43)) 185) (G := prsS (({ R1 with sets := R1.sets ++ [mergedL J.us.length R1] } : Red).g) (setD hv1 ((n).toNat) (.slice A13 (((sgTake R.st n ((R.g ((n).toNat)).att) ((R.g ((n).toNat)).cnt)).getD []).length) c14 : Value))) (J := stgI 253 sb (({ R1 with sets := R1.sets ++ [mergedL J.us.length R1] } : Red).st))
   replace H := redI_shut r (.slice A5 J.us.length c6) vM vC vR vK J cw ct co sb ({ R1 with sets := R1.sets ++ [mergedL J.us.length R1] } : Red) (setD hv1 ((n).toNat) (.slice A13 (((sgTake R.st n ((R.g ((n).toNat)).att) ((R.g ((n).toNat)).cnt)).getD []).length) c14 : Value)) (.slice A42 ((us3 ++ [((.slice A36 ((mergedL J.us.length R1).length) c37 : Value), mergedL J.us.length R1)]).length) c43) (us3 ++ [((.slice A36 ((mergedL J.us.length R1).length) c37 : Value), mergedL J.us.length R1)]) (by rw [List.map_append, hsets4, ← hs1]; rfl) H
   replace H := H.h1 (A := redI r (.slice A5 J.us.length c6) vM vC vR vK J cw ct co sb ({ R1 with sets := R1.sets ++ [mergedL J.us.length R1] } : Red)) |>.rec0 |>.h1 (A := recS []) |>.p3
   replace H := Hd.recN (r := (⟨4, R.part, n, (R.g (n).toNat).att, 0, .slice none 0 0, [], .slice A21 (((sgTake R.st n ((R.g ((n).toNat)).att) ((R.g ((n).toNat)).cnt)).getD []).length) c22, (sgTake R.st n (R.g (n).toNat).att (R.g (n).toNat).cnt).getD []⟩ : Rec)) (H.newnil (kInt .i64))
   replace H := H.h1 (A := recS ([] ++ [(⟨4, R.part, n, (R.g (n).toNat).att, 0, .slice none 0 0, [], .slice A21 (((sgTake R.st n ((R.g ((n).toNat)).att) ((R.g ((n).toNat)).cnt)).getD []).length) c22, (sgTake R.st n (R.g (n).toNat).att (R.g (n).toNat).cnt).getD []⟩ : Rec)])) |>.newnil kPair |>.p4
   replace H := Hd.recN (r := (⟨5, R1.part, 0, 0, 0, .slice A28 ((mergedL J.us.length R1).length) c29, mergedL J.us.length R1, .slice none 0 0, []⟩ : Rec)) H
   replace H := H.h1 (A := recS ([] ++ [(⟨4, R.part, n, (R.g (n).toNat).att, 0, .slice none 0 0, [], .slice A21 (((sgTake R.st n ((R.g ((n).toNat)).att) ((R.g ((n).toNat)).cnt)).getD []).length) c22, (sgTake R.st n (R.g (n).toNat).att (R.g (n).toNat).cnt).getD []⟩ : Rec)] ++ [(⟨5, R1.part, 0, 0, 0, .slice A28 ((mergedL J.us.length R1).length) c29, mergedL J.us.length R1, .slice none 0 0, []⟩ : Rec)])) |>.p2 |>.h1 (A := osl kRecF v48 (([] ++ [(⟨4, R.part, n, (R.g (n).toNat).att, 0, .slice none 0 0, [], .slice A21 (((sgTake R.st n ((R.g ((n).toNat)).att) ((R.g ((n).toNat)).cnt)).getD []).length) c22, (sgTake R.st n (R.g (n).toNat).att (R.g (n).toNat).cnt).getD []⟩ : Rec)] ++ [(⟨5, R1.part, 0, 0, 0, .slice A28 ((mergedL J.us.length R1).length) c29, mergedL J.us.length R1, .slice none 0 0, []⟩ : Rec)]).map toF)) |>.recI |>.h1 (A := osl kRec v48 ([] ++ [(⟨4, R.part, n, (R.g (n).toNat).att, 0, .slice none 0 0, [], .slice A21 (((sgTake R.st n ((R.g ((n).toNat)).att) ((R.g ((n).toNat)).cnt)).getD []).length) c22, (sgTake R.st n (R.g (n).toNat).att (R.g (n).toNat).cnt).getD []⟩ : Rec)] ++ [(⟨5, R1.part, 0, 0, 0, .slice A28 ((mergedL J.us.length R1).length) c29, mergedL J.us.length R1, .slice none 0 0, []⟩ : Rec)]))
   exact fin ⟨[] ++ [(⟨4, R.part, n, (R.g (n).toNat).att, 0, .slice none 0 0, [], .slice A21 (((sgTake R.st n ((R.g ((n).toNat)).att) ((R.g ((n).toNat)).cnt)).getD []).length) c22, (sgTake R.st n (R.g (n).toNat).att (R.g (n).toNat).cnt).getD []⟩ : Rec)] ++ [(⟨5, R1.part, 0, 0, 0, .slice A28 ((mergedL J.us.length R1).length) c29, mergedL J.us.length R1, .slice none 0 0, []⟩ : Rec)], by rw [e] <;> rfl, by rw [e, hR1]; rfl⟩ H
  refine sc (cloneInt_ok (.slice A28 ((mergedL J.us.length R1).length) c29) (mergedL J.us.length R1) (by first | assumption | omega)) H (lA 0 rfl own_rd l0) rfl rfl (e_fn kn129 rfl rfl) ?_
  rintro v49 _ w rfl H
  replace H := H.h1 (A := osl (kInt .i64) v49 (mergedL J.us.length R1)) |>.pick 10 rfl |>.pick 10 rfl |>.pick 10 rfl |>.pick 10 rfl |>.pick 10 rfl |>.pick 10 rfl |>.pick 10 rfl |>.pick 10 rfl |>.pick 10 rfl |>.pick 10 rfl
  refine d_back ⟨_, H⟩ ?_
  refine d_both rfl rfl ?_ ?_
  ·refine s_val rfl rfl (r_ld rfl ty144 rfl (H.cellI 11 rfl rfl)) (d_back ⟨_, H⟩ (d_main rfl ?_))
   obtain ⟨A51, c52, rfl, hc53, hm54, hp55⟩ := H.fA 10 rfl
   refine s_bsl (parts := [(0, .tmp 83)]) (vs := [.slice A51 ((mergedL J.us.length R1).length) c52]) (cs := [.slice A51 ((mergedL J.us.length R1).length) c52]) rfl rfl rfl sl144 zr24 rfl (by decide) (by decide) rfl rfl H (fun b50 w H => ?_)
   replace H : Hd _ _ _ [blk b50 [.slice A51 ((mergedL J.us.length R1).length) c52] 24, osl (kInt .i64) (.slice A28 ((mergedL J.us.length R1).length) c29) (mergedL J.us.length R1), prsS (R1.g) (setD hv1 ((n).toNat) (.slice A13 (((sgTake R.st n ((R.g ((n).toNat)).att) ((R.g ((n).toNat)).cnt)).getD []).length) c14 : Value)), osl (kHd kPair) (.slice A5 J.us.length c6) J.us, osl kIns vM J.map, osl kIns vC J.comb, osl kIns vR J.red, osl (kInt .i64) vK J.marks, stgI 253 sb (R1.st), osl kPair (.slice A21 (((sgTake R.st n ((R.g ((n).toNat)).att) ((R.g ((n).toNat)).cnt)).getD []).length) c22) ((sgTake R.st n ((R.g ((n).toNat)).att) ((R.g ((n).toNat)).cnt)).getD []), blk b26 [.int .i64 4, .int .i64 R.part, .int .i64 n, .int .i64 ((R.g (n).toNat).att), .int .i64 0, .slice none 0 0, .slice A21 (((sgTake R.st n ((R.g ((n).toNat)).att) ((R.g ((n).toNat)).cnt)).getD []).length) c22] 37, osl (kInt .i64) (.slice A51 ((mergedL J.us.length R1).length) c52) (mergedL J.us.length R1), blk r (redC (.slice A5 J.us.length c6) vM vC vR vK J cw ct co R1.part R1.ep R1.g (setD hv1 ((n).toNat) (.slice A13 (((sgTake R.st n ((R.g ((n).toNat)).att) ((R.g ((n).toNat)).cnt)).getD []).length) c14 : Value)) sb vs2) 185, osl (kHd (kInt .i64)) vs2 us3] [] := H
   replace H := H.pick 10 rfl |>.pick 10 rfl |>.pick 10 rfl |>.pick 10 rfl |>.pick 10 rfl |>.pick 10 rfl |>.pick 10 rfl |>.pick 10 rfl |>.pick 10 rfl |>.pick 10 rfl
   refine d_back ⟨_, H⟩ (d_main rfl ?_)
   replace H := H.pick 13 rfl |>.pick 12 rfl |>.pick 12 rfl |>.p2
   refine s_appH rfl rfl rfl sl144 zr24 rfl (by decide) rfl rfl H (by first | omega | (simp only [List.length_append, List.length_cons, List.length_nil]; omega)) (fun v56 w H => ?_)
   replace H := H.h1 (A := osl (kHd (kInt .i64)) v56 (us3 ++ [((.slice A51 ((mergedL J.us.length R1).length) c52 : Value), mergedL J.us.length R1)])) |>.pick 10 rfl |>.pick 10 rfl |>.pick 10 rfl |>.pick 10 rfl |>.pick 10 rfl |>.pick 10 rfl |>.pick 10 rfl |>.pick 10 rfl |>.pick 10 rfl |>.pick 10 rfl
   refine d_back ⟨_, H⟩ (d_val rfl rfl rfl (fun w ⟨Ar, H⟩ => r_nilP rfl rfl) (d_val rfl rfl rfl (fun w ⟨Ar, H⟩ => r_fa rfl fo185_5 rfl) (d_main rfl ?_)))
   obtain ⟨A57, c58, rfl, hc59, hm60, hp61⟩ := H.fA 10 rfl
   replace H := H.pick 11 rfl
   refine s_st rfl rfl rfl ty144 rfl rfl H rfl (Nat.le_of_ble_eq_true rfl) (fun u hu => by simp [Value.cells] at hu; subst hu; rfl) (fun w H => ?_)
   replace H : Hd _ _ _ [blk r (redC (.slice A5 J.us.length c6) vM vC vR vK J cw ct co R1.part R1.ep R1.g (setD hv1 ((n).toNat) (.slice A13 (((sgTake R.st n ((R.g ((n).toNat)).att) ((R.g ((n).toNat)).cnt)).getD []).length) c14 : Value)) sb (.slice A57 ((us3 ++ [((.slice A51 ((mergedL J.us.length R1).length) c52 : Value), mergedL J.us.length R1)]).length) c58)) 185, osl (kInt .i64) (.slice A28 ((mergedL J.us.length R1).length) c29) (mergedL J.us.length R1), prsS (R1.g) (setD hv1 ((n).toNat) (.slice A13 (((sgTake R.st n ((R.g ((n).toNat)).att) ((R.g ((n).toNat)).cnt)).getD []).length) c14 : Value)), osl (kHd kPair) (.slice A5 J.us.length c6) J.us, osl kIns vM J.map, osl kIns vC J.comb, osl kIns vR J.red, osl (kInt .i64) vK J.marks, stgI 253 sb (R1.st), osl kPair (.slice A21 (((sgTake R.st n ((R.g ((n).toNat)).att) ((R.g ((n).toNat)).cnt)).getD []).length) c22) ((sgTake R.st n ((R.g ((n).toNat)).att) ((R.g ((n).toNat)).cnt)).getD []), blk b26 [.int .i64 4, .int .i64 R.part, .int .i64 n, .int .i64 ((R.g (n).toNat).att), .int .i64 0, .slice none 0 0, .slice A21 (((sgTake R.st n ((R.g ((n).toNat)).att) ((R.g ((n).toNat)).cnt)).getD []).length) c22] 37, osl (kHd (kInt .i64)) (.slice A57 ((us3 ++ [((.slice A51 ((mergedL J.us.length R1).length) c52 : Value), mergedL J.us.length R1)]).length) c58) (us3 ++ [((.slice A51 ((mergedL J.us.length R1).length) c52 : Value), mergedL J.us.length R1)])] [] := H
   replace H := H.pick 10 rfl |>.pick 10 rfl |>.pick 10 rfl |>.pick 10 rfl |>.pick 10 rfl |>.pick 10 rfl |>.pick 10 rfl |>.pick 10 rfl |>.pick 10 rfl |>.pick 10 rfl
   refine d_back ⟨_, H⟩ (d_nil (q_then (c_reg (s_k 2 rfl (s_val rfl rfl (r_nilP rfl rfl) (s_val rfl rfl (r_fa rfl fo185_1 rfl) (s_val rfl rfl (r_ld rfl ty3 rfl (H.cellI 10 rfl rfl)) (s_1 rfl (s_val rfl rfl (r_bd (parts := [(0, .const (.int .i64 5)), (1, .tmp 92), (5, .tmp 93)]) (vs := [.int .i64 5, .int .i64 R1.part, .slice A28 ((mergedL J.us.length R1).length) c29]) (cs := [.int .i64 5, .int .i64 R1.part, .int .i64 0, .int .i64 0, .int .i64 0, .slice A28 ((mergedL J.us.length R1).length) c29, .slice none 0 0]) rfl bd37 rfl rfl) (s_bsl (parts := [(0, .tmp 94)]) (vs := [.agg #[.int .i64 5, .int .i64 R1.part, .int .i64 0, .int .i64 0, .int .i64 0, .slice A28 ((mergedL J.us.length R1).length) c29, .slice none 0 0]]) (cs := [.int .i64 5, .int .i64 R1.part, .int .i64 0, .int .i64 0, .int .i64 0, .slice A28 ((mergedL J.us.length R1).length) c29, .slice none 0 0]) rfl rfl rfl sl29 zr37 rfl (by decide) (by decide) rfl rfl H (fun b62 w H => ?_)))))))))))
   replace H := H.h1 (A := blk b62 [.int .i64 5, .int .i64 R1.part, .int .i64 0, .int .i64 0, .int .i64 0, .slice A28 ((mergedL J.us.length R1).length) c29, .slice none 0 0] 37) |>.pick 10 rfl
   replace H : Hd w0 F0 w [osl kRecF (.slice (some ⟨b26, 0, none⟩) 1 1) [(⟨4, R.part, n, (R.g (n).toNat).att, 0, ⟨none, 0, 0⟩, ⟨A21, ((sgTake R.st n ((R.g ((n).toNat)).att) ((R.g ((n).toNat)).cnt)).getD []).length, c22⟩⟩ : RecF)], blk b62 [.int .i64 5, .int .i64 R1.part, .int .i64 0, .int .i64 0, .int .i64 0, .slice A28 ((mergedL J.us.length R1).length) c29, .slice none 0 0] 37, osl (kInt .i64) (.slice A28 ((mergedL J.us.length R1).length) c29) (mergedL J.us.length R1), prsS (R1.g) (setD hv1 ((n).toNat) (.slice A13 (((sgTake R.st n ((R.g ((n).toNat)).att) ((R.g ((n).toNat)).cnt)).getD []).length) c14 : Value)), osl (kHd kPair) (.slice A5 J.us.length c6) J.us, osl kIns vM J.map, osl kIns vC J.comb, osl kIns vR J.red, osl (kInt .i64) vK J.marks, stgI 253 sb (R1.st), osl kPair (.slice A21 (((sgTake R.st n ((R.g ((n).toNat)).att) ((R.g ((n).toNat)).cnt)).getD []).length) c22) ((sgTake R.st n ((R.g ((n).toNat)).att) ((R.g ((n).toNat)).cnt)).getD []), blk r (redC (.slice A5 J.us.length c6) vM vC vR vK J cw ct co R1.part R1.ep R1.g (setD hv1 ((n).toNat) (.slice A13 (((sgTake R.st n ((R.g ((n).toNat)).att) ((R.g ((n).toNat)).cnt)).getD []).length) c14 : Value)) sb (.slice A57 ((us3 ++ [((.slice A51 ((mergedL J.us.length R1).length) c52 : Value), mergedL J.us.length R1)]).length) c58)) 185, osl (kHd (kInt .i64)) (.slice A57 ((us3 ++ [((.slice A51 ((mergedL J.us.length R1).length) c52 : Value), mergedL J.us.length R1)]).length) c58) (us3 ++ [((.slice A51 ((mergedL J.us.length R1).length) c52 : Value), mergedL J.us.length R1)])] [] := H.turn (fun F h => blk_osl h rfl (by decide) rfl)
   refine s_appF (xs := [(⟨4, R.part, n, (R.g (n).toNat).att, 0, ⟨none, 0, 0⟩, ⟨A21, ((sgTake R.st n ((R.g ((n).toNat)).att) ((R.g ((n).toNat)).cnt)).getD []).length, c22⟩⟩ : RecF)]) (ys := [(⟨5, R1.part, 0, 0, 0, ⟨A28, (mergedL J.us.length R1).length, c29⟩, ⟨none, 0, 0⟩⟩ : RecF)]) rfl rfl rfl sl29 zr37 rfl (by decide) rfl rfl H (by first | omega | (simp only [List.length_append, List.length_cons, List.length_nil]; omega)) (fun F hA hR => blk_rsl (hA _ (List.mem_of_getElem? (i := 0) rfl)) rfl (by decide) (RepsR.flat_eq.2 rfl)) (fun v63 w H => ?_)
   replace H := H.h1 (A := osl kRecF v63 ([(⟨4, R.part, n, (R.g (n).toNat).att, 0, ⟨none, 0, 0⟩, ⟨A21, ((sgTake R.st n ((R.g ((n).toNat)).att) ((R.g ((n).toNat)).cnt)).getD []).length, c22⟩⟩ : RecF)] ++ [(⟨5, R1.part, 0, 0, 0, ⟨A28, (mergedL J.us.length R1).length, c29⟩, ⟨none, 0, 0⟩⟩ : RecF)]))
   refine s_1 rfl (s_nil (q_then (c_seq (c_reg (s_k 2 rfl (s_nil (q_then (c_ret (q_ret1 rfl rfl ?_)))))))))
   have e := looks_two hnn hto htk hpl hR1 h33
   replace H := H.p2.pick 10 rfl |>.p2 |>.pick 10 rfl |>.pick 12 rfl |>.p6 |>.pick 11 rfl |>.pick 11 rfl |>.pick 11 rfl |>.pick 11 rfl |>.pick 11 rfl |>.pick 12 rfl |>.keep 12 |>.h9 (A := blk r (redC (.slice A5 J.us.length c6) vM vC vR vK J cw ct co (({ R1 with sets := R1.sets ++ [mergedL J.us.length R1] } : Red).part) (({ R1 with sets := R1.sets ++ [mergedL J.us.length R1] } : Red).ep) (({ R1 with sets := R1.sets ++ [mergedL J.us.length R1] } : Red).g) (setD hv1 ((n).toNat) (.slice A13 (((sgTake R.st n ((R.g ((n).toNat)).att) ((R.g ((n).toNat)).cnt)).getD []).length) c14 : Value)) sb (.slice A57 ((us3 ++ [((.slice A51 ((mergedL J.us.length R1).length) c52 : Value), mergedL J.us.length R1)]).length) c58)) 185) (G := prsS (({ R1 with sets := R1.sets ++ [mergedL J.us.length R1] } : Red).g) (setD hv1 ((n).toNat) (.slice A13 (((sgTake R.st n ((R.g ((n).toNat)).att) ((R.g ((n).toNat)).cnt)).getD []).length) c14 : Value))) (J := stgI 253 sb (({ R1 with sets := R1.sets ++ [mergedL J.us.length R1] } : Red).st))
   replace H := redI_shut r (.slice A5 J.us.length c6) vM vC vR vK J cw ct co sb ({ R1 with sets := R1.sets ++ [mergedL J.us.length R1] } : Red) (setD hv1 ((n).toNat) (.slice A13 (((sgTake R.st n ((R.g ((n).toNat)).att) ((R.g ((n).toNat)).cnt)).getD []).length) c14 : Value)) (.slice A57 ((us3 ++ [((.slice A51 ((mergedL J.us.length R1).length) c52 : Value), mergedL J.us.length R1)]).length) c58) (us3 ++ [((.slice A51 ((mergedL J.us.length R1).length) c52 : Value), mergedL J.us.length R1)]) (by rw [List.map_append, hsets4, ← hs1]; rfl) H
   replace H := H.h1 (A := redI r (.slice A5 J.us.length c6) vM vC vR vK J cw ct co sb ({ R1 with sets := R1.sets ++ [mergedL J.us.length R1] } : Red)) |>.rec0 |>.h1 (A := recS []) |>.p3
   replace H := Hd.recN (r := (⟨4, R.part, n, (R.g (n).toNat).att, 0, .slice none 0 0, [], .slice A21 (((sgTake R.st n ((R.g ((n).toNat)).att) ((R.g ((n).toNat)).cnt)).getD []).length) c22, (sgTake R.st n (R.g (n).toNat).att (R.g (n).toNat).cnt).getD []⟩ : Rec)) (H.newnil (kInt .i64))
   replace H := H.h1 (A := recS ([] ++ [(⟨4, R.part, n, (R.g (n).toNat).att, 0, .slice none 0 0, [], .slice A21 (((sgTake R.st n ((R.g ((n).toNat)).att) ((R.g ((n).toNat)).cnt)).getD []).length) c22, (sgTake R.st n (R.g (n).toNat).att (R.g (n).toNat).cnt).getD []⟩ : Rec)])) |>.newnil kPair |>.p4
   replace H := Hd.recN (r := (⟨5, R1.part, 0, 0, 0, .slice A28 ((mergedL J.us.length R1).length) c29, mergedL J.us.length R1, .slice none 0 0, []⟩ : Rec)) H
   replace H := H.h1 (A := recS ([] ++ [(⟨4, R.part, n, (R.g (n).toNat).att, 0, .slice none 0 0, [], .slice A21 (((sgTake R.st n ((R.g ((n).toNat)).att) ((R.g ((n).toNat)).cnt)).getD []).length) c22, (sgTake R.st n (R.g (n).toNat).att (R.g (n).toNat).cnt).getD []⟩ : Rec)] ++ [(⟨5, R1.part, 0, 0, 0, .slice A28 ((mergedL J.us.length R1).length) c29, mergedL J.us.length R1, .slice none 0 0, []⟩ : Rec)])) |>.p2 |>.h1 (A := osl kRecF v63 (([] ++ [(⟨4, R.part, n, (R.g (n).toNat).att, 0, .slice none 0 0, [], .slice A21 (((sgTake R.st n ((R.g ((n).toNat)).att) ((R.g ((n).toNat)).cnt)).getD []).length) c22, (sgTake R.st n (R.g (n).toNat).att (R.g (n).toNat).cnt).getD []⟩ : Rec)] ++ [(⟨5, R1.part, 0, 0, 0, .slice A28 ((mergedL J.us.length R1).length) c29, mergedL J.us.length R1, .slice none 0 0, []⟩ : Rec)]).map toF)) |>.recI |>.h1 (A := osl kRec v63 ([] ++ [(⟨4, R.part, n, (R.g (n).toNat).att, 0, .slice none 0 0, [], .slice A21 (((sgTake R.st n ((R.g ((n).toNat)).att) ((R.g ((n).toNat)).cnt)).getD []).length) c22, (sgTake R.st n (R.g (n).toNat).att (R.g (n).toNat).cnt).getD []⟩ : Rec)] ++ [(⟨5, R1.part, 0, 0, 0, .slice A28 ((mergedL J.us.length R1).length) c29, mergedL J.us.length R1, .slice none 0 0, []⟩ : Rec)]))
   exact fin ⟨[] ++ [(⟨4, R.part, n, (R.g (n).toNat).att, 0, .slice none 0 0, [], .slice A21 (((sgTake R.st n ((R.g ((n).toNat)).att) ((R.g ((n).toNat)).cnt)).getD []).length) c22, (sgTake R.st n (R.g (n).toNat).att (R.g (n).toNat).cnt).getD []⟩ : Rec)] ++ [(⟨5, R1.part, 0, 0, 0, .slice A28 ((mergedL J.us.length R1).length) c29, mergedL J.us.length R1, .slice none 0 0, []⟩ : Rec)], by rw [e] <;> rfl, by rw [e, hR1]; rfl⟩ H
  obtain ⟨A65, c66, rfl, hc67, hm68, hp69⟩ := H.fA 10 rfl
  refine s_bsl (parts := [(0, .tmp 83)]) (vs := [.slice A65 ((mergedL J.us.length R1).length) c66]) (cs := [.slice A65 ((mergedL J.us.length R1).length) c66]) rfl rfl rfl sl144 zr24 rfl (by decide) (by decide) rfl rfl H (fun b64 w H => ?_)
  replace H : Hd _ _ _ [blk b64 [.slice A65 ((mergedL J.us.length R1).length) c66] 24, osl (kInt .i64) (.slice A28 ((mergedL J.us.length R1).length) c29) (mergedL J.us.length R1), prsS (R1.g) (setD hv1 ((n).toNat) (.slice A13 (((sgTake R.st n ((R.g ((n).toNat)).att) ((R.g ((n).toNat)).cnt)).getD []).length) c14 : Value)), osl (kHd kPair) (.slice A5 J.us.length c6) J.us, osl kIns vM J.map, osl kIns vC J.comb, osl kIns vR J.red, osl (kInt .i64) vK J.marks, stgI 253 sb (R1.st), osl kPair (.slice A21 (((sgTake R.st n ((R.g ((n).toNat)).att) ((R.g ((n).toNat)).cnt)).getD []).length) c22) ((sgTake R.st n ((R.g ((n).toNat)).att) ((R.g ((n).toNat)).cnt)).getD []), blk b26 [.int .i64 4, .int .i64 R.part, .int .i64 n, .int .i64 ((R.g (n).toNat).att), .int .i64 0, .slice none 0 0, .slice A21 (((sgTake R.st n ((R.g ((n).toNat)).att) ((R.g ((n).toNat)).cnt)).getD []).length) c22] 37, osl (kInt .i64) (.slice A65 ((mergedL J.us.length R1).length) c66) (mergedL J.us.length R1), blk r (redC (.slice A5 J.us.length c6) vM vC vR vK J cw ct co R1.part R1.ep R1.g (setD hv1 ((n).toNat) (.slice A13 (((sgTake R.st n ((R.g ((n).toNat)).att) ((R.g ((n).toNat)).cnt)).getD []).length) c14 : Value)) sb vs2) 185, osl (kHd (kInt .i64)) vs2 us3] [] := H
  replace H := H.pick 10 rfl |>.pick 10 rfl |>.pick 10 rfl |>.pick 10 rfl |>.pick 10 rfl |>.pick 10 rfl |>.pick 10 rfl |>.pick 10 rfl |>.pick 10 rfl |>.pick 10 rfl
  refine d_back ⟨_, H⟩ (d_main rfl (s_val rfl rfl (r_ld rfl ty144 rfl (H.cellI 12 rfl rfl)) (d_back ⟨_, H⟩ (d_main rfl ?_))))
  replace H := H.pick 13 rfl |>.pick 12 rfl |>.pick 12 rfl |>.p2
  refine s_appH rfl rfl rfl sl144 zr24 rfl (by decide) rfl rfl H (by first | omega | (simp only [List.length_append, List.length_cons, List.length_nil]; omega)) (fun v70 w H => ?_)
  replace H := H.h1 (A := osl (kHd (kInt .i64)) v70 (us3 ++ [((.slice A65 ((mergedL J.us.length R1).length) c66 : Value), mergedL J.us.length R1)])) |>.pick 10 rfl |>.pick 10 rfl |>.pick 10 rfl |>.pick 10 rfl |>.pick 10 rfl |>.pick 10 rfl |>.pick 10 rfl |>.pick 10 rfl |>.pick 10 rfl |>.pick 10 rfl
  refine d_back ⟨_, H⟩ (d_val rfl rfl rfl (fun w ⟨Ar, H⟩ => r_nilP rfl rfl) (d_val rfl rfl rfl (fun w ⟨Ar, H⟩ => r_fa rfl fo185_5 rfl) (d_main rfl ?_)))
  obtain ⟨A71, c72, rfl, hc73, hm74, hp75⟩ := H.fA 10 rfl
  replace H := H.pick 11 rfl
  refine s_st rfl rfl rfl ty144 rfl rfl H rfl (Nat.le_of_ble_eq_true rfl) (fun u hu => by simp [Value.cells] at hu; subst hu; rfl) (fun w H => ?_)
  replace H : Hd _ _ _ [blk r (redC (.slice A5 J.us.length c6) vM vC vR vK J cw ct co R1.part R1.ep R1.g (setD hv1 ((n).toNat) (.slice A13 (((sgTake R.st n ((R.g ((n).toNat)).att) ((R.g ((n).toNat)).cnt)).getD []).length) c14 : Value)) sb (.slice A71 ((us3 ++ [((.slice A65 ((mergedL J.us.length R1).length) c66 : Value), mergedL J.us.length R1)]).length) c72)) 185, osl (kInt .i64) (.slice A28 ((mergedL J.us.length R1).length) c29) (mergedL J.us.length R1), prsS (R1.g) (setD hv1 ((n).toNat) (.slice A13 (((sgTake R.st n ((R.g ((n).toNat)).att) ((R.g ((n).toNat)).cnt)).getD []).length) c14 : Value)), osl (kHd kPair) (.slice A5 J.us.length c6) J.us, osl kIns vM J.map, osl kIns vC J.comb, osl kIns vR J.red, osl (kInt .i64) vK J.marks, stgI 253 sb (R1.st), osl kPair (.slice A21 (((sgTake R.st n ((R.g ((n).toNat)).att) ((R.g ((n).toNat)).cnt)).getD []).length) c22) ((sgTake R.st n ((R.g ((n).toNat)).att) ((R.g ((n).toNat)).cnt)).getD []), blk b26 [.int .i64 4, .int .i64 R.part, .int .i64 n, .int .i64 ((R.g (n).toNat).att), .int .i64 0, .slice none 0 0, .slice A21 (((sgTake R.st n ((R.g ((n).toNat)).att) ((R.g ((n).toNat)).cnt)).getD []).length) c22] 37, osl (kHd (kInt .i64)) (.slice A71 ((us3 ++ [((.slice A65 ((mergedL J.us.length R1).length) c66 : Value), mergedL J.us.length R1)]).length) c72) (us3 ++ [((.slice A65 ((mergedL J.us.length R1).length) c66 : Value), mergedL J.us.length R1)])] [] := H
  replace H := H.pick 10 rfl |>.pick 10 rfl |>.pick 10 rfl |>.pick 10 rfl |>.pick 10 rfl |>.pick 10 rfl |>.pick 10 rfl |>.pick 10 rfl |>.pick 10 rfl |>.pick 10 rfl
  refine d_back ⟨_, H⟩ (d_nil (q_then (c_reg (s_k 2 rfl (s_val rfl rfl (r_nilP rfl rfl) (s_val rfl rfl (r_fa rfl fo185_1 rfl) (s_val rfl rfl (r_ld rfl ty3 rfl (H.cellI 10 rfl rfl)) (s_1 rfl (s_val rfl rfl (r_bd (parts := [(0, .const (.int .i64 5)), (1, .tmp 92), (5, .tmp 93)]) (vs := [.int .i64 5, .int .i64 R1.part, .slice A28 ((mergedL J.us.length R1).length) c29]) (cs := [.int .i64 5, .int .i64 R1.part, .int .i64 0, .int .i64 0, .int .i64 0, .slice A28 ((mergedL J.us.length R1).length) c29, .slice none 0 0]) rfl bd37 rfl rfl) (s_bsl (parts := [(0, .tmp 94)]) (vs := [.agg #[.int .i64 5, .int .i64 R1.part, .int .i64 0, .int .i64 0, .int .i64 0, .slice A28 ((mergedL J.us.length R1).length) c29, .slice none 0 0]]) (cs := [.int .i64 5, .int .i64 R1.part, .int .i64 0, .int .i64 0, .int .i64 0, .slice A28 ((mergedL J.us.length R1).length) c29, .slice none 0 0]) rfl rfl rfl sl29 zr37 rfl (by decide) (by decide) rfl rfl H (fun b76 w H => ?_)))))))))))
  replace H := H.h1 (A := blk b76 [.int .i64 5, .int .i64 R1.part, .int .i64 0, .int .i64 0, .int .i64 0, .slice A28 ((mergedL J.us.length R1).length) c29, .slice none 0 0] 37) |>.pick 10 rfl
  replace H : Hd w0 F0 w [osl kRecF (.slice (some ⟨b26, 0, none⟩) 1 1) [(⟨4, R.part, n, (R.g (n).toNat).att, 0, ⟨none, 0, 0⟩, ⟨A21, ((sgTake R.st n ((R.g ((n).toNat)).att) ((R.g ((n).toNat)).cnt)).getD []).length, c22⟩⟩ : RecF)], blk b76 [.int .i64 5, .int .i64 R1.part, .int .i64 0, .int .i64 0, .int .i64 0, .slice A28 ((mergedL J.us.length R1).length) c29, .slice none 0 0] 37, osl (kInt .i64) (.slice A28 ((mergedL J.us.length R1).length) c29) (mergedL J.us.length R1), prsS (R1.g) (setD hv1 ((n).toNat) (.slice A13 (((sgTake R.st n ((R.g ((n).toNat)).att) ((R.g ((n).toNat)).cnt)).getD []).length) c14 : Value)), osl (kHd kPair) (.slice A5 J.us.length c6) J.us, osl kIns vM J.map, osl kIns vC J.comb, osl kIns vR J.red, osl (kInt .i64) vK J.marks, stgI 253 sb (R1.st), osl kPair (.slice A21 (((sgTake R.st n ((R.g ((n).toNat)).att) ((R.g ((n).toNat)).cnt)).getD []).length) c22) ((sgTake R.st n ((R.g ((n).toNat)).att) ((R.g ((n).toNat)).cnt)).getD []), blk r (redC (.slice A5 J.us.length c6) vM vC vR vK J cw ct co R1.part R1.ep R1.g (setD hv1 ((n).toNat) (.slice A13 (((sgTake R.st n ((R.g ((n).toNat)).att) ((R.g ((n).toNat)).cnt)).getD []).length) c14 : Value)) sb (.slice A71 ((us3 ++ [((.slice A65 ((mergedL J.us.length R1).length) c66 : Value), mergedL J.us.length R1)]).length) c72)) 185, osl (kHd (kInt .i64)) (.slice A71 ((us3 ++ [((.slice A65 ((mergedL J.us.length R1).length) c66 : Value), mergedL J.us.length R1)]).length) c72) (us3 ++ [((.slice A65 ((mergedL J.us.length R1).length) c66 : Value), mergedL J.us.length R1)])] [] := H.turn (fun F h => blk_osl h rfl (by decide) rfl)
  refine s_appF (xs := [(⟨4, R.part, n, (R.g (n).toNat).att, 0, ⟨none, 0, 0⟩, ⟨A21, ((sgTake R.st n ((R.g ((n).toNat)).att) ((R.g ((n).toNat)).cnt)).getD []).length, c22⟩⟩ : RecF)]) (ys := [(⟨5, R1.part, 0, 0, 0, ⟨A28, (mergedL J.us.length R1).length, c29⟩, ⟨none, 0, 0⟩⟩ : RecF)]) rfl rfl rfl sl29 zr37 rfl (by decide) rfl rfl H (by first | omega | (simp only [List.length_append, List.length_cons, List.length_nil]; omega)) (fun F hA hR => blk_rsl (hA _ (List.mem_of_getElem? (i := 0) rfl)) rfl (by decide) (RepsR.flat_eq.2 rfl)) (fun v77 w H => ?_)
  replace H := H.h1 (A := osl kRecF v77 ([(⟨4, R.part, n, (R.g (n).toNat).att, 0, ⟨none, 0, 0⟩, ⟨A21, ((sgTake R.st n ((R.g ((n).toNat)).att) ((R.g ((n).toNat)).cnt)).getD []).length, c22⟩⟩ : RecF)] ++ [(⟨5, R1.part, 0, 0, 0, ⟨A28, (mergedL J.us.length R1).length, c29⟩, ⟨none, 0, 0⟩⟩ : RecF)]))
  refine s_1 rfl (s_nil (q_then (c_seq (c_reg (s_k 2 rfl (s_nil (q_then (c_ret (q_ret1 rfl rfl ?_)))))))))
  have e := looks_two hnn hto htk hpl hR1 h33
  replace H := H.p2.pick 10 rfl |>.p2 |>.pick 10 rfl |>.pick 12 rfl |>.p6 |>.pick 11 rfl |>.pick 11 rfl |>.pick 11 rfl |>.pick 11 rfl |>.pick 11 rfl |>.pick 12 rfl |>.keep 12 |>.h9 (A := blk r (redC (.slice A5 J.us.length c6) vM vC vR vK J cw ct co (({ R1 with sets := R1.sets ++ [mergedL J.us.length R1] } : Red).part) (({ R1 with sets := R1.sets ++ [mergedL J.us.length R1] } : Red).ep) (({ R1 with sets := R1.sets ++ [mergedL J.us.length R1] } : Red).g) (setD hv1 ((n).toNat) (.slice A13 (((sgTake R.st n ((R.g ((n).toNat)).att) ((R.g ((n).toNat)).cnt)).getD []).length) c14 : Value)) sb (.slice A71 ((us3 ++ [((.slice A65 ((mergedL J.us.length R1).length) c66 : Value), mergedL J.us.length R1)]).length) c72)) 185) (G := prsS (({ R1 with sets := R1.sets ++ [mergedL J.us.length R1] } : Red).g) (setD hv1 ((n).toNat) (.slice A13 (((sgTake R.st n ((R.g ((n).toNat)).att) ((R.g ((n).toNat)).cnt)).getD []).length) c14 : Value))) (J := stgI 253 sb (({ R1 with sets := R1.sets ++ [mergedL J.us.length R1] } : Red).st))
  replace H := redI_shut r (.slice A5 J.us.length c6) vM vC vR vK J cw ct co sb ({ R1 with sets := R1.sets ++ [mergedL J.us.length R1] } : Red) (setD hv1 ((n).toNat) (.slice A13 (((sgTake R.st n ((R.g ((n).toNat)).att) ((R.g ((n).toNat)).cnt)).getD []).length) c14 : Value)) (.slice A71 ((us3 ++ [((.slice A65 ((mergedL J.us.length R1).length) c66 : Value), mergedL J.us.length R1)]).length) c72) (us3 ++ [((.slice A65 ((mergedL J.us.length R1).length) c66 : Value), mergedL J.us.length R1)]) (by rw [List.map_append, hsets4, ← hs1]; rfl) H
  replace H := H.h1 (A := redI r (.slice A5 J.us.length c6) vM vC vR vK J cw ct co sb ({ R1 with sets := R1.sets ++ [mergedL J.us.length R1] } : Red)) |>.rec0 |>.h1 (A := recS []) |>.p3
  replace H := Hd.recN (r := (⟨4, R.part, n, (R.g (n).toNat).att, 0, .slice none 0 0, [], .slice A21 (((sgTake R.st n ((R.g ((n).toNat)).att) ((R.g ((n).toNat)).cnt)).getD []).length) c22, (sgTake R.st n (R.g (n).toNat).att (R.g (n).toNat).cnt).getD []⟩ : Rec)) (H.newnil (kInt .i64))
  replace H := H.h1 (A := recS ([] ++ [(⟨4, R.part, n, (R.g (n).toNat).att, 0, .slice none 0 0, [], .slice A21 (((sgTake R.st n ((R.g ((n).toNat)).att) ((R.g ((n).toNat)).cnt)).getD []).length) c22, (sgTake R.st n (R.g (n).toNat).att (R.g (n).toNat).cnt).getD []⟩ : Rec)])) |>.newnil kPair |>.p4
  replace H := Hd.recN (r := (⟨5, R1.part, 0, 0, 0, .slice A28 ((mergedL J.us.length R1).length) c29, mergedL J.us.length R1, .slice none 0 0, []⟩ : Rec)) H
  replace H := H.h1 (A := recS ([] ++ [(⟨4, R.part, n, (R.g (n).toNat).att, 0, .slice none 0 0, [], .slice A21 (((sgTake R.st n ((R.g ((n).toNat)).att) ((R.g ((n).toNat)).cnt)).getD []).length) c22, (sgTake R.st n (R.g (n).toNat).att (R.g (n).toNat).cnt).getD []⟩ : Rec)] ++ [(⟨5, R1.part, 0, 0, 0, .slice A28 ((mergedL J.us.length R1).length) c29, mergedL J.us.length R1, .slice none 0 0, []⟩ : Rec)])) |>.p2 |>.h1 (A := osl kRecF v77 (([] ++ [(⟨4, R.part, n, (R.g (n).toNat).att, 0, .slice none 0 0, [], .slice A21 (((sgTake R.st n ((R.g ((n).toNat)).att) ((R.g ((n).toNat)).cnt)).getD []).length) c22, (sgTake R.st n (R.g (n).toNat).att (R.g (n).toNat).cnt).getD []⟩ : Rec)] ++ [(⟨5, R1.part, 0, 0, 0, .slice A28 ((mergedL J.us.length R1).length) c29, mergedL J.us.length R1, .slice none 0 0, []⟩ : Rec)]).map toF)) |>.recI |>.h1 (A := osl kRec v77 ([] ++ [(⟨4, R.part, n, (R.g (n).toNat).att, 0, .slice none 0 0, [], .slice A21 (((sgTake R.st n ((R.g ((n).toNat)).att) ((R.g ((n).toNat)).cnt)).getD []).length) c22, (sgTake R.st n (R.g (n).toNat).att (R.g (n).toNat).cnt).getD []⟩ : Rec)] ++ [(⟨5, R1.part, 0, 0, 0, .slice A28 ((mergedL J.us.length R1).length) c29, mergedL J.us.length R1, .slice none 0 0, []⟩ : Rec)]))
  exact fin ⟨[] ++ [(⟨4, R.part, n, (R.g (n).toNat).att, 0, .slice none 0 0, [], .slice A21 (((sgTake R.st n ((R.g ((n).toNat)).att) ((R.g ((n).toNat)).cnt)).getD []).length) c22, (sgTake R.st n (R.g (n).toNat).att (R.g (n).toNat).cnt).getD []⟩ : Rec)] ++ [(⟨5, R1.part, 0, 0, 0, .slice A28 ((mergedL J.us.length R1).length) c29, mergedL J.us.length R1, .slice none 0 0, []⟩ : Rec)], by rw [e] <;> rfl, by rw [e, hR1]; rfl⟩ H
 refine c_skip (q_then (c_seq (c_reg (s_k 2 rfl (s_nil (q_then (c_ret (q_ret1 rfl rfl ?_))))))))
 replace H := H.pick 11 rfl
 replace H : Hd _ _ _ [blk b26 [.int .i64 4, .int .i64 R.part, .int .i64 n, .int .i64 ((R.g (n).toNat).att), .int .i64 0, .slice none 0 0, .slice A21 (((sgTake R.st n ((R.g ((n).toNat)).att) ((R.g ((n).toNat)).cnt)).getD []).length) c22] 37, osl (kInt .i64) (.slice A28 ((mergedL J.us.length R1).length) c29) (mergedL J.us.length R1), prsS (R1.g) (setD hv1 ((n).toNat) (.slice A13 (((sgTake R.st n ((R.g ((n).toNat)).att) ((R.g ((n).toNat)).cnt)).getD []).length) c14 : Value)), blk r (redC (.slice A5 J.us.length c6) vM vC vR vK J cw ct co R1.part R1.ep R1.g (setD hv1 ((n).toNat) (.slice A13 (((sgTake R.st n ((R.g ((n).toNat)).att) ((R.g ((n).toNat)).cnt)).getD []).length) c14 : Value)) sb vs2) 185, osl (kHd kPair) (.slice A5 J.us.length c6) J.us, osl kIns vM J.map, osl kIns vC J.comb, osl kIns vR J.red, osl (kInt .i64) vK J.marks, osl (kHd (kInt .i64)) vs2 us3, stgI 253 sb (R1.st), osl kPair (.slice A21 (((sgTake R.st n ((R.g ((n).toNat)).att) ((R.g ((n).toNat)).cnt)).getD []).length) c22) ((sgTake R.st n ((R.g ((n).toNat)).att) ((R.g ((n).toNat)).cnt)).getD [])] [] := H
 replace H : Hd w0 F0 w [osl kRecF (.slice (some ⟨b26, 0, none⟩) 1 1) [(⟨4, R.part, n, (R.g (n).toNat).att, 0, ⟨none, 0, 0⟩, ⟨A21, ((sgTake R.st n ((R.g ((n).toNat)).att) ((R.g ((n).toNat)).cnt)).getD []).length, c22⟩⟩ : RecF)], osl (kInt .i64) (.slice A28 ((mergedL J.us.length R1).length) c29) (mergedL J.us.length R1), prsS (R1.g) (setD hv1 ((n).toNat) (.slice A13 (((sgTake R.st n ((R.g ((n).toNat)).att) ((R.g ((n).toNat)).cnt)).getD []).length) c14 : Value)), blk r (redC (.slice A5 J.us.length c6) vM vC vR vK J cw ct co R1.part R1.ep R1.g (setD hv1 ((n).toNat) (.slice A13 (((sgTake R.st n ((R.g ((n).toNat)).att) ((R.g ((n).toNat)).cnt)).getD []).length) c14 : Value)) sb vs2) 185, osl (kHd kPair) (.slice A5 J.us.length c6) J.us, osl kIns vM J.map, osl kIns vC J.comb, osl kIns vR J.red, osl (kInt .i64) vK J.marks, osl (kHd (kInt .i64)) vs2 us3, stgI 253 sb (R1.st), osl kPair (.slice A21 (((sgTake R.st n ((R.g ((n).toNat)).att) ((R.g ((n).toNat)).cnt)).getD []).length) c22) ((sgTake R.st n ((R.g ((n).toNat)).att) ((R.g ((n).toNat)).cnt)).getD [])] [] := H.turn (fun F h => blk_osl h rfl (by decide) rfl)
 have e := looks_one hnn hto htk hpl hR1 h33
 replace H := H.pick 11 rfl |>.p1 |>.pick 11 rfl |>.pick 11 rfl |>.p5 |>.pick 11 rfl |>.pick 11 rfl |>.pick 11 rfl |>.pick 11 rfl |>.pick 11 rfl |>.pick 11 rfl |>.keep 11
 replace H := redI_shut r (.slice A5 J.us.length c6) vM vC vR vK J cw ct co sb R1 (setD hv1 ((n).toNat) (.slice A13 (((sgTake R.st n ((R.g ((n).toNat)).att) ((R.g ((n).toNat)).cnt)).getD []).length) c14 : Value)) vs2 us3 (hsets4.trans hs1.symm) H
 replace H := H.h1 (A := redI r (.slice A5 J.us.length c6) vM vC vR vK J cw ct co sb R1) |>.rec0 |>.h1 (A := recS []) |>.p3
 replace H := Hd.recN (r := (⟨4, R.part, n, (R.g (n).toNat).att, 0, .slice none 0 0, [], .slice A21 (((sgTake R.st n ((R.g ((n).toNat)).att) ((R.g ((n).toNat)).cnt)).getD []).length) c22, (sgTake R.st n (R.g (n).toNat).att (R.g (n).toNat).cnt).getD []⟩ : Rec)) (H.newnil (kInt .i64))
 replace H := H.h1 (A := recS ([] ++ [(⟨4, R.part, n, (R.g (n).toNat).att, 0, .slice none 0 0, [], .slice A21 (((sgTake R.st n ((R.g ((n).toNat)).att) ((R.g ((n).toNat)).cnt)).getD []).length) c22, (sgTake R.st n (R.g (n).toNat).att (R.g (n).toNat).cnt).getD []⟩ : Rec)])) |>.p2 |>.h1 (A := osl kRecF (.slice (some ⟨b26, 0, none⟩) 1 1) (([] ++ [(⟨4, R.part, n, (R.g (n).toNat).att, 0, .slice none 0 0, [], .slice A21 (((sgTake R.st n ((R.g ((n).toNat)).att) ((R.g ((n).toNat)).cnt)).getD []).length) c22, (sgTake R.st n (R.g (n).toNat).att (R.g (n).toNat).cnt).getD []⟩ : Rec)]).map toF)) |>.recI |>.h1 (A := osl kRec (.slice (some ⟨b26, 0, none⟩) 1 1) ([] ++ [(⟨4, R.part, n, (R.g (n).toNat).att, 0, .slice none 0 0, [], .slice A21 (((sgTake R.st n ((R.g ((n).toNat)).att) ((R.g ((n).toNat)).cnt)).getD []).length) c22, (sgTake R.st n (R.g (n).toNat).att (R.g (n).toNat).cnt).getD []⟩ : Rec)]))
 exact fin ⟨[] ++ [(⟨4, R.part, n, (R.g (n).toNat).att, 0, .slice none 0 0, [], .slice A21 (((sgTake R.st n ((R.g ((n).toNat)).att) ((R.g ((n).toNat)).cnt)).getD []).length) c22, (sgTake R.st n (R.g (n).toNat).att (R.g (n).toNat).cnt).getD []⟩ : Rec)], by rw [e] <;> rfl, by rw [e, hR1]; rfl⟩ H
end Go.Proofs.YthgehekecfpikaaGreatDoor.X
