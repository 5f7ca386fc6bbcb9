/- CheckOrders: texts N4, XOrd, N5, N6, G1, joined by a program of ours; what nothing names is left out. -/
import Derived.Test.YthgehekecfpikaaGreatDoorCheckOrdersQ4
import Derived.Test.YthgehekecfpikaaGreatDoorRows
import Derived.LaidSub
import Derived.Lib.LaidTab
import Derived.Stop.LaidErr
set_option linter.unusedVariables false
set_option linter.unusedSimpArgs false
set_option maxHeartbeats 8000000
namespace Go.Proofs.YthgehekecfpikaaGreatDoor.X
open Go
theorem redNew_ok (vS : Value) (vM : Value) (vC : Value) (vR : Value) (vK : Value) (C : Cf) (p : Int) (ep : Int) (vr : Value) (recs : List Rec) (hC : mayC C) (hp : In64 p) (he : In64 ep) (hgo : homeC C p ≠ 0 ∧ 1 ≤ ep) (hrs : ∀ r ∈ recs, (In64 r.sp ∧ r.set.length ≤ 1000) ∧ r.pairs.length ≤ 1000) (hrl : recs.length ≤ 100000) :
    Cn Tryz.prog 56 [.agg #[vS, .int .i64 C.J.parts, vM, vC, vR, .int .i64 C.J.chunk, .int .i64 C.J.window, .int .i64 C.J.fuel, vK, .int .i64 C.w, .int .i64 C.t, .int .i64 C.o], .int .i64 p, .int .i64 ep, vr] [] [rsl (kHd kPair) vS C.J.us, rsl kIns vM C.J.map, rsl kIns vC C.J.comb, rsl kIns vR C.J.red, rsl (kInt .i64) vK C.J.marks, rsl kRec vr recs] (fun v Bs => ∃ r : Nat, ∃ vS2 : Value, ∃ vM2 : Value, ∃ vC2 : Value, ∃ vR2 : Value, ∃ vK2 : Value, ∃ J2 : Job, ∃ hv : Nat → Value, ∃ sb : Nat, ∃ vs : Value, ∃ us : List (Value × List Int), v = .tuple #[.pointer (some ⟨r, 0, none⟩), .int .i64 0] ∧ Bs = [blk r (redC vS2 vM2 vC2 vR2 vK2 J2 C.w C.t C.o p ep ((newR J2.us.length p ep (recs.map Rec.p)).g) hv sb vs) 185, osl (kHd kPair) vS2 J2.us, osl kIns vM2 J2.map, osl kIns vC2 J2.comb, osl kIns vR2 J2.red, osl (kInt .i64) vK2 J2.marks, prsS ((newR J2.us.length p ep (recs.map Rec.p)).g) hv, osl (kHd (kInt .i64)) vs us, stgI 253 sb ([])] ∧ (SameJ J2 C.J) ∧ (us.map (·.2) = (newR J2.us.length p ep (recs.map Rec.p)).sets)) := by
 intro w0 F0 H
 obtain ⟨A1, c2, rfl, hc3, hm4, hp5⟩ := H.fR 0 rfl
 obtain ⟨A6, c7, rfl, hc8, hm9, hp10⟩ := H.fR 1 rfl
 obtain ⟨A11, c12, rfl, hc13, hm14, hp15⟩ := H.fR 2 rfl
 obtain ⟨A16, c17, rfl, hc18, hm19, hp20⟩ := H.fR 3 rfl
 obtain ⟨A21, c22, rfl, hc23, hm24, hp25⟩ := H.fR 4 rfl
 obtain ⟨A26, c27, rfl, hc28, hm29, hp30⟩ := H.fR 5 rfl
 refine enter Tryz.func56 rfl rfl (Nat.le_of_ble_eq_true rfl) (c_seq (c_reg (s_box rfl rfl rfl rfl H (fun b31 w H => (s_k 2 rfl (s_nil (q_then ?_)))))))
 replace H : Hd _ _ _ [blk b31 [.slice A1 C.J.us.length c2, .int .i64 C.J.parts, .slice A6 C.J.map.length c7, .slice A11 C.J.comb.length c12, .slice A16 C.J.red.length c17, .int .i64 C.J.chunk, .int .i64 C.J.window, .int .i64 C.J.fuel, .slice A21 C.J.marks.length c22, .int .i64 C.w, .int .i64 C.t, .int .i64 C.o] 28] [rsl (kHd kPair) (.slice A1 C.J.us.length c2) C.J.us, rsl kIns (.slice A6 C.J.map.length c7) C.J.map, rsl kIns (.slice A11 C.J.comb.length c12) C.J.comb, rsl kIns (.slice A16 C.J.red.length c17) C.J.red, rsl (kInt .i64) (.slice A21 C.J.marks.length c22) C.J.marks, rsl kRec (.slice A26 recs.length c27) recs] := H
 refine c_seq (c_seq (c_reg (s_val rfl rfl (r_ldA (cs := [.slice A1 C.J.us.length c2, .int .i64 C.J.parts, .slice A6 C.J.map.length c7, .slice A11 C.J.comb.length c12, .slice A16 C.J.red.length c17, .int .i64 C.J.chunk, .int .i64 C.J.window, .int .i64 C.J.fuel, .slice A21 C.J.marks.length c22, .int .i64 C.w, .int .i64 C.t, .int .i64 C.o]) rfl ty28 rfl rfl (H.cellsI 0 rfl rfl)) (s_1 rfl (sc (home_ok (.slice A1 C.J.us.length c2) (.slice A6 C.J.map.length c7) (.slice A11 C.J.comb.length c12) (.slice A16 C.J.red.length c17) (.slice A21 C.J.marks.length c22) C p (by first | assumption | omega)) H (lR 0 rfl (lR 1 rfl (lR 2 rfl (lR 3 rfl (lR 4 rfl l0))))) rfl rfl (e_fn kn71 rfl rfl) ?_)))))
 rintro _ _ w ⟨rfl, rfl⟩ H
 refine s_val rfl rfl (r_eq rfl rfl rfl) (s_1 rfl ?_)
 refine s_dec (d := 18) rfl (fun h32 => ?_) (fun h32 => ?_)
 ·exact (hgo.1 h32).elim
 refine s_1 rfl (s_val rfl rfl (r_lt rfl rfl rfl) (s_1 rfl (s_nil (q_then ?_))))
 replace H : Hd _ _ _ [blk b31 [.slice A1 C.J.us.length c2, .int .i64 C.J.parts, .slice A6 C.J.map.length c7, .slice A11 C.J.comb.length c12, .slice A16 C.J.red.length c17, .int .i64 C.J.chunk, .int .i64 C.J.window, .int .i64 C.J.fuel, .slice A21 C.J.marks.length c22, .int .i64 C.w, .int .i64 C.t, .int .i64 C.o] 28] [rsl (kHd kPair) (.slice A1 C.J.us.length c2) C.J.us, rsl kIns (.slice A6 C.J.map.length c7) C.J.map, rsl kIns (.slice A11 C.J.comb.length c12) C.J.comb, rsl kIns (.slice A16 C.J.red.length c17) C.J.red, rsl (kInt .i64) (.slice A21 C.J.marks.length c22) C.J.marks, rsl kRec (.slice A26 recs.length c27) recs] := H
 refine c_dec rfl (fun h33 => ?_) (fun h33 => ?_)
 ·exfalso; omega
 refine c_skip (q_then (c_seq (c_reg (s_val rfl rfl (r_ldA (cs := [.slice A1 C.J.us.length c2, .int .i64 C.J.parts, .slice A6 C.J.map.length c7, .slice A11 C.J.comb.length c12, .slice A16 C.J.red.length c17, .int .i64 C.J.chunk, .int .i64 C.J.window, .int .i64 C.J.fuel, .slice A21 C.J.marks.length c22, .int .i64 C.w, .int .i64 C.t, .int .i64 C.o]) rfl ty28 rfl rfl (H.cellsI 0 rfl rfl)) (sc (own_ok (.slice A1 C.J.us.length c2) (.slice A6 C.J.map.length c7) (.slice A11 C.J.comb.length c12) (.slice A16 C.J.red.length c17) (.slice A21 C.J.marks.length c22) C (by first | assumption | omega)) H (lR 0 rfl (lR 1 rfl (lR 2 rfl (lR 3 rfl (lR 4 rfl l0))))) rfl rfl (e_fn kn94 rfl rfl) ?_)))))
 rintro _ _ w ⟨J34, vS35, vM36, vC37, vR38, vK39, rfl, rfl, hf40⟩ H
 replace H := H.h5 (A := osl (kHd kPair) vS35 J34.us) (B := osl kIns vM36 J34.map) (C := osl kIns vC37 J34.comb) (D := osl kIns vR38 J34.red) (E := osl (kInt .i64) vK39 J34.marks)
 have hsj := hf40
 refine s_k 2 rfl (sc (stNew_ok) H l0 rfl rfl (e_fn kn128 rfl rfl) ?_)
 rintro _ _ w ⟨b41, rfl, rfl⟩ H
 obtain ⟨A42, c43, rfl, hc44, hm45, hp46⟩ := H.fA 1 rfl
 obtain ⟨A47, c48, rfl, hc49, hm50, hp51⟩ := H.fA 2 rfl
 obtain ⟨A52, c53, rfl, hc54, hm55, hp56⟩ := H.fA 3 rfl
 obtain ⟨A57, c58, rfl, hc59, hm60, hp61⟩ := H.fA 4 rfl
 obtain ⟨A62, c63, rfl, hc64, hm65, hp66⟩ := H.fA 5 rfl
 refine s_val rfl rfl (r_bd (parts := [(0, .tmp 23), (1, .tmp 24), (2, .tmp 25), (4, .tmp 26)]) (vs := [.agg #[.slice A42 J34.us.length c43, .int .i64 J34.parts, .slice A47 J34.map.length c48, .slice A52 J34.comb.length c53, .slice A57 J34.red.length c58, .int .i64 J34.chunk, .int .i64 J34.window, .int .i64 J34.fuel, .slice A62 J34.marks.length c63, .int .i64 C.w, .int .i64 C.t, .int .i64 C.o], .int .i64 p, .int .i64 ep, .pointer (some ⟨b41, 0, none⟩)]) (cs := [.slice A42 J34.us.length c43, .int .i64 J34.parts, .slice A47 J34.map.length c48, .slice A52 J34.comb.length c53, .slice A57 J34.red.length c58, .int .i64 J34.chunk, .int .i64 J34.window, .int .i64 J34.fuel, .slice A62 J34.marks.length c63, .int .i64 C.w, .int .i64 C.t, .int .i64 C.o, .int .i64 p, .int .i64 ep, .bool false, .slice none 0 0, .bool false, .int .i64 0, .int .i64 0, .bool false, .slice none 0 0, .bool false, .int .i64 0, .int .i64 0, .bool false, .slice none 0 0, .bool false, .int .i64 0, .int .i64 0, .bool false, .slice none 0 0, .bool false, .int .i64 0, .int .i64 0, .bool false, .slice none 0 0, .bool false, .int .i64 0, .int .i64 0, .bool false, .slice none 0 0, .bool false, .int .i64 0, .int .i64 0, .pointer (some ⟨b41, 0, none⟩), .slice none 0 0]) rfl bd185 rfl rfl) ?_
 refine s_box rfl rfl rfl rfl H (fun b67 w H => (s_1 rfl (s_nil (q_then ?_))))
 replace H : Hd _ _ _ [blk b67 [.slice A42 J34.us.length c43, .int .i64 J34.parts, .slice A47 J34.map.length c48, .slice A52 J34.comb.length c53, .slice A57 J34.red.length c58, .int .i64 J34.chunk, .int .i64 J34.window, .int .i64 J34.fuel, .slice A62 J34.marks.length c63, .int .i64 C.w, .int .i64 C.t, .int .i64 C.o, .int .i64 p, .int .i64 ep, .bool false, .slice none 0 0, .bool false, .int .i64 0, .int .i64 0, .bool false, .slice none 0 0, .bool false, .int .i64 0, .int .i64 0, .bool false, .slice none 0 0, .bool false, .int .i64 0, .int .i64 0, .bool false, .slice none 0 0, .bool false, .int .i64 0, .int .i64 0, .bool false, .slice none 0 0, .bool false, .int .i64 0, .int .i64 0, .bool false, .slice none 0 0, .bool false, .int .i64 0, .int .i64 0, .pointer (some ⟨b41, 0, none⟩), .slice none 0 0] 185, stgI 253 b41 ([]), osl (kHd kPair) (.slice A42 J34.us.length c43) J34.us, osl kIns (.slice A47 J34.map.length c48) J34.map, osl kIns (.slice A52 J34.comb.length c53) J34.comb, osl kIns (.slice A57 J34.red.length c58) J34.red, osl (kInt .i64) (.slice A62 J34.marks.length c63) J34.marks, blk b31 [.slice A1 C.J.us.length c2, .int .i64 C.J.parts, .slice A6 C.J.map.length c7, .slice A11 C.J.comb.length c12, .slice A16 C.J.red.length c17, .int .i64 C.J.chunk, .int .i64 C.J.window, .int .i64 C.J.fuel, .slice A21 C.J.marks.length c22, .int .i64 C.w, .int .i64 C.t, .int .i64 C.o] 28] [rsl (kHd kPair) (.slice A1 C.J.us.length c2) C.J.us, rsl kIns (.slice A6 C.J.map.length c7) C.J.map, rsl kIns (.slice A11 C.J.comb.length c12) C.J.comb, rsl kIns (.slice A16 C.J.red.length c17) C.J.red, rsl (kInt .i64) (.slice A21 C.J.marks.length c22) C.J.marks, rsl kRec (.slice A26 recs.length c27) recs] := H
 refine c_seq (c_seq ?_)
 have hlen : J34.us.length ≤ 6 := by have := hC.1.1; have := hsj.len; omega
 replace H := (H.newnil (kHd (kInt .i64))).prsN
 replace H := H.h2 (A := prsS ((red0 p ep).g) (fun _ => .slice none 0 0)) (B := osl (kHd (kInt .i64)) (.slice none 0 0) []) |>.p8 |>.p8 |>.p8 |>.p8 |>.p8 |>.p7 |>.k9 |>.h1 (A := blk b67 (redC (.slice A42 J34.us.length c43) (.slice A47 J34.map.length c48) (.slice A52 J34.comb.length c53) (.slice A57 J34.red.length c58) (.slice A62 J34.marks.length c63) J34 C.w C.t C.o p ep ((red0 p ep).g) (fun _ => .slice none 0 0) b41 (.slice none 0 0)) 185)
 refine c_reg (s_1 rfl (s_val rfl rfl (r_lenL rfl un29 rfl) (s_1 rfl (s_nil (q_then (c_block (c_loop (σ := Nat × Red × (Nat → Value) × Value × List (Value × List Int)) (fun (k, R, hv, vs, us) => [(1, .int .i64 p), (8, .pointer none), (9, .int .i64 0), (10, .pointer (some ⟨b67, 0, none⟩)), (29, .slice A26 recs.length c27), (30, .int .i64 ((recs.length : Nat) : Int)), (31, .int .i64 ((k : Nat) : Int))]) (fun (k, R, hv, vs, us) w => (Hd w0 F0 w [blk b67 (redC (.slice A42 J34.us.length c43) (.slice A47 J34.map.length c48) (.slice A52 J34.comb.length c53) (.slice A57 J34.red.length c58) (.slice A62 J34.marks.length c63) J34 C.w C.t C.o p ep R.g hv b41 vs) 185, osl (kHd kPair) (.slice A42 J34.us.length c43) J34.us, osl kIns (.slice A47 J34.map.length c48) J34.map, osl kIns (.slice A52 J34.comb.length c53) J34.comb, osl kIns (.slice A57 J34.red.length c58) J34.red, osl (kInt .i64) (.slice A62 J34.marks.length c63) J34.marks, prsS (R.g) hv, osl (kHd (kInt .i64)) vs us, stgI 253 b41 ([])] [rsl (kHd kPair) (.slice A1 C.J.us.length c2) C.J.us, rsl kIns (.slice A6 C.J.map.length c7) C.J.map, rsl kIns (.slice A11 C.J.comb.length c12) C.J.comb, rsl kIns (.slice A16 C.J.red.length c17) C.J.red, rsl (kInt .i64) (.slice A21 C.J.marks.length c22) C.J.marks, rsl kRec (.slice A26 recs.length c27) recs]) ∧ (R = newR J34.us.length p ep ((recs.take k).map Rec.p)) ∧ (R.part = p) ∧ (us.map (·.2) = R.sets) ∧ (k ≤ recs.length) ∧ (us.length ≤ k)) (fun (k, R, hv, vs, us) => recs.length - k) (0, red0 p ep, (fun _ => .slice none 0 0), .slice none 0 0, []) ⟨rfl, rfl, rfl, rfl, rfl, rfl, rfl, trivial⟩ ⟨H, rfl, rfl, rfl, Nat.zero_le _, Nat.le_refl _⟩ ?_)))))))
 rintro ⟨k, R, hv, vs, us⟩ w ⟨H, hR, hRp, hus, hk, hul⟩
 refine c_seq (c_reg (s_val rfl rfl (r_lt rfl rfl rfl) (s_nil (q_then (c_seq ?_)))))
 refine c_dec rfl (fun h68 => ?_) (fun h68 => ?_)
 ·refine c_skip (q_then (c_seq (c_block (c_seq ?_))))
  obtain ⟨⟨a71, a72, a73, a74, a75, sv76, se77, pv78, pr79⟩, hx70⟩ : ∃ z9, recs[k]? = some z9 := ⟨_, List.getElem?_eq_getElem (show k < recs.length by omega)⟩
  obtain ⟨A80, c81, A82, c83, rfl, rfl, m84, m85, m86, m87⟩ := H.nestRr 5 rfl hx70
  have hr1 := hrs _ (at_mem hx70)
  unfold In64 at hr1
  dsimp only at hr1
  refine c_reg ?_
  have th88 := H.thRr 5 rfl hx70
  refine s_val rfl rfl (r_iaE (p := oOf A26 + k * 7) rfl sl29 rfl rfl (by omega) (by omega) th88 rfl) (s_val rfl rfl (r_ldA (cs := [.int .i64 a71, .int .i64 a72, .int .i64 a73, .int .i64 a74, .int .i64 a75, .slice A80 se77.length c81, .slice A82 pr79.length c83]) rfl ty37 rfl rfl (H.elsRr 5 rfl hx70 rfl)) (s_alloc rfl rfl rfl zr37 H (fun b89 w H => (s_st rfl rfl rfl ty37 rfl rfl H rfl (Nat.le_of_ble_eq_true rfl) (fun u hu => by simp [Value.cells] at hu; rcases hu with rfl | rfl | rfl | rfl | rfl | rfl | rfl <;> rfl) (fun w H => ?_)))))
  replace H : Hd _ _ _ [blk b89 [.int .i64 a71, .int .i64 a72, .int .i64 a73, .int .i64 a74, .int .i64 a75, .slice A80 se77.length c81, .slice A82 pr79.length c83] 37, blk b67 (redC (.slice A42 J34.us.length c43) (.slice A47 J34.map.length c48) (.slice A52 J34.comb.length c53) (.slice A57 J34.red.length c58) (.slice A62 J34.marks.length c63) J34 C.w C.t C.o p ep R.g hv b41 vs) 185, osl (kHd kPair) (.slice A42 J34.us.length c43) J34.us, osl kIns (.slice A47 J34.map.length c48) J34.map, osl kIns (.slice A52 J34.comb.length c53) J34.comb, osl kIns (.slice A57 J34.red.length c58) J34.red, osl (kInt .i64) (.slice A62 J34.marks.length c63) J34.marks, prsS (R.g) hv, osl (kHd (kInt .i64)) vs us, stgI 253 b41 ([])] [rsl (kHd kPair) (.slice A1 C.J.us.length c2) C.J.us, rsl kIns (.slice A6 C.J.map.length c7) C.J.map, rsl kIns (.slice A11 C.J.comb.length c12) C.J.comb, rsl kIns (.slice A16 C.J.red.length c17) C.J.red, rsl (kInt .i64) (.slice A21 C.J.marks.length c22) C.J.marks, rsl kRec (.slice A26 recs.length c27) recs] := H
  refine s_nil (q_then (c_seq (c_seq (c_reg (s_val rfl rfl (r_fa rfl fo37_1 rfl) (s_val rfl rfl (r_ld rfl ty3 rfl (H.cellI 0 rfl rfl)) (s_1 rfl (s_val rfl rfl (r_ne rfl rfl rfl) (s_nil (q_then ?_))))))))))
  refine c_dec rfl (fun h90 => ?_) (fun h90 => ?_)
  ·refine c_exit (q_thenE (q_blockE (q_then (c_reg (s_val rfl rfl (r_add (z := ((k + 1 : Nat) : Int)) rfl rfl rfl (by rw [w64 (by omega) (by omega)]; omega)) (s_1 rfl (s_nil ?_)))))))
   have hpart : (Rec.p (⟨a71, a72, a73, a74, a75, .slice A80 se77.length c81, se77, .slice A82 pr79.length c83, pr79⟩ : Rec)).part ≠ R.part := by rw [hRp]; exact h90
   have hR2 := newR_take hR hx70 (recIn_skip hpart)
   replace H := H.p9.p9.p9.p9.p9.p9.p9.p9.p9.k9
   exact q_round (s := (k, R, hv, undef, us)) (k + 1, R, hv, vs, us) ⟨rfl, rfl, rfl, rfl, rfl, rfl, rfl, trivial⟩ ⟨H, hR2, hRp, by (try dsimp only); exact hus, by (try dsimp only); omega, by (try dsimp only); omega⟩ (by (try dsimp only); omega)
  refine c_skip (q_then (c_seq (c_seq ?_)))
  by_cases hin91 : 0 ≤ a73 ∧ a73 < ((J34.us.length : Nat) : Int)
  ·refine c_reg (s_1 rfl (s_val rfl rfl (r_fa rfl fo37_2 rfl) (s_val rfl rfl (r_ld rfl ty3 rfl (H.cellI 0 rfl rfl)) (sc (at_ok b67 A42 J34.us.length c43 (.slice A47 J34.map.length c48) (.slice A52 J34.comb.length c53) (.slice A57 J34.red.length c58) (.slice A62 J34.marks.length c63) J34 C.w C.t C.o p ep R.g hv b41 vs a73 (by first | assumption | omega) (by first | assumption | omega)) H (lA 1 rfl (fun _ h => h) l0) rfl rfl (e_fn kn118 rfl rfl) ?_))))
   rintro _ _ w ⟨rfl, rfl⟩ H
   refine s_1 rfl (s_nil (q_then (c_seq (c_reg (s_val rfl rfl (r_fa rfl fo37_0 rfl) (s_val rfl rfl (r_ld rfl ty3 rfl (H.cellI 0 rfl rfl)) (s_val rfl rfl (r_eq rfl rfl rfl) (s_1 rfl ?_))))))))
   refine s_dec (d := 46) rfl (fun h92 => ?_) (fun h92 => ?_)
   ·refine s_1 rfl (s_val rfl rfl (r_pne rfl un178 rfl rfl) (s_k 3 rfl (s_val rfl rfl (r_nilP rfl rfl) (s_val rfl rfl (r_fa rfl fo181_0 rfl) (s_val rfl rfl (r_ld rfl ty4 rfl (H.cellI 1 rfl (redC_at0 (by omega)))) (s_val rfl rfl (r_not rfl rfl rfl) (s_1 rfl (s_nil (q_then ?_)))))))))
    refine c_cond (b := !((R.g ((a73).toNat)).merged)) rfl (fun h93 => ?_) (fun h93 => ?_)
    ·refine c_reg (s_k 2 rfl (s_val rfl rfl (r_fa rfl fo37_6 rfl) (s_val rfl rfl (r_ld rfl ty35 rfl (H.cellI 0 rfl rfl)) (sc (clone_ok (.slice A82 pr79.length c83) pr79 (by first | assumption | omega)) H (lX (fun F hA hR => rec_pairs (hR _ (List.mem_of_getElem? (i := 5) rfl)) hx70) l0) rfl rfl (e_fn kn123 rfl rfl) ?_))))
     rintro v94 _ w rfl H
     refine s_val rfl rfl (r_nilP rfl rfl) (s_val rfl rfl (r_fa rfl fo181_0 rfl) ?_)
     replace H := H.p2
     refine s_st rfl rfl rfl ty4 rfl rfl H rfl (by show 14 + ((a73).toNat) * 5 + 0 + 1 ≤ 46; omega) (fun u hu => by simp [Value.cells] at hu; subst hu; rfl) (fun w H => ?_)
     replace H : Hd w0 F0 w [blk b67 (redC (.slice A42 J34.us.length c43) (.slice A47 J34.map.length c48) (.slice A52 J34.comb.length c53) (.slice A57 J34.red.length c58) (.slice A62 J34.marks.length c63) J34 C.w C.t C.o p ep (setD R.g ((a73).toNat) { R.g ((a73).toNat) with merged := true }) hv b41 vs) 185, osl kPair v94 pr79, blk b89 [.int .i64 a71, .int .i64 a72, .int .i64 a73, .int .i64 a74, .int .i64 a75, .slice A80 se77.length c81, .slice A82 pr79.length c83] 37, osl (kHd kPair) (.slice A42 J34.us.length c43) J34.us, osl kIns (.slice A47 J34.map.length c48) J34.map, osl kIns (.slice A52 J34.comb.length c53) J34.comb, osl kIns (.slice A57 J34.red.length c58) J34.red, osl (kInt .i64) (.slice A62 J34.marks.length c63) J34.marks, prsS (R.g) hv, osl (kHd (kInt .i64)) vs us, stgI 253 b41 ([])] [rsl (kHd kPair) (.slice A1 C.J.us.length c2) C.J.us, rsl kIns (.slice A6 C.J.map.length c7) C.J.map, rsl kIns (.slice A11 C.J.comb.length c12) C.J.comb, rsl kIns (.slice A16 C.J.red.length c17) C.J.red, rsl (kInt .i64) (.slice A21 C.J.marks.length c22) C.J.marks, rsl kRec (.slice A26 recs.length c27) recs] := by rw [← redC_put0 (show (a73).toNat < 6 by omega) true]; exact H
     refine s_val rfl rfl (r_nilP rfl rfl) (s_val rfl rfl (r_fa rfl fo181_1 rfl) ?_)
     obtain ⟨A95, c96, rfl, hc97, hm98, hp99⟩ := H.fA 1 rfl
     refine s_st rfl rfl rfl ty35 rfl rfl H rfl (by show 14 + ((a73).toNat) * 5 + 1 + 1 ≤ 46; omega) (fun u hu => by simp [Value.cells] at hu; subst hu; rfl) (fun w H => ?_)
     replace H : Hd w0 F0 w [blk b67 (redC (.slice A42 J34.us.length c43) (.slice A47 J34.map.length c48) (.slice A52 J34.comb.length c53) (.slice A57 J34.red.length c58) (.slice A62 J34.marks.length c63) J34 C.w C.t C.o p ep (setD R.g ((a73).toNat) { R.g ((a73).toNat) with merged := true }) (setD hv ((a73).toNat) (.slice A95 pr79.length c96 : Value)) b41 vs) 185, osl kPair (.slice A95 pr79.length c96) pr79, blk b89 [.int .i64 a71, .int .i64 a72, .int .i64 a73, .int .i64 a74, .int .i64 a75, .slice A80 se77.length c81, .slice A82 pr79.length c83] 37, osl (kHd kPair) (.slice A42 J34.us.length c43) J34.us, osl kIns (.slice A47 J34.map.length c48) J34.map, osl kIns (.slice A52 J34.comb.length c53) J34.comb, osl kIns (.slice A57 J34.red.length c58) J34.red, osl (kInt .i64) (.slice A62 J34.marks.length c63) J34.marks, prsS (R.g) hv, osl (kHd (kInt .i64)) vs us, stgI 253 b41 ([])] [rsl (kHd kPair) (.slice A1 C.J.us.length c2) C.J.us, rsl kIns (.slice A6 C.J.map.length c7) C.J.map, rsl kIns (.slice A11 C.J.comb.length c12) C.J.comb, rsl kIns (.slice A16 C.J.red.length c17) C.J.red, rsl (kInt .i64) (.slice A21 C.J.marks.length c22) C.J.marks, rsl kRec (.slice A26 recs.length c27) recs] := by rw [← redC_put1 (show (a73).toNat < 6 by omega) (.slice A95 pr79.length c96 : Value)]; exact H
     refine s_nil (q_then (c_seq (c_reg (s_val rfl rfl (r_fa rfl fo37_0 rfl) (s_val rfl rfl (r_ld rfl ty3 rfl (H.cellI 2 rfl rfl)) (s_val rfl rfl (r_eq rfl rfl rfl) (s_nil (q_then ?_))))))))
     refine c_dec rfl (fun h100 => ?_) (fun h100 => ?_)
     ·exfalso; omega
     refine c_skip (q_blockN (q_then (c_reg (s_val rfl rfl (r_add (z := ((k + 1 : Nat) : Int)) rfl rfl rfl (by rw [w64 (by omega) (by omega)]; omega)) (s_1 rfl (s_nil ?_))))))
     have hpart : (Rec.p (⟨a71, a72, a73, a74, a75, .slice A80 se77.length c81, se77, .slice A82 pr79.length c83, pr79⟩ : Rec)).part = R.part := by rw [hRp]; exact Classical.not_not.1 h90
     replace H := H.pick 10 rfl |>.pick 10 rfl |>.p9 |>.p9 |>.p9 |>.p9 |>.p9 |>.p7 |>.pick 10 rfl |>.p9 |>.k10 |>.prsU (i := (a73).toNat) (x := ({ R.g (a73).toNat with merged := true, pairs := pr79 } : SpD)) (by omega)
     replace H : Hd w0 F0 w [prsS (({ R with g := setD R.g (a73).toNat ({ R.g (a73).toNat with merged := true, pairs := pr79 } : SpD) } : Red).g) (setD hv (a73).toNat (.slice A95 pr79.length c96 : Value)), blk b67 (redC (.slice A42 J34.us.length c43) (.slice A47 J34.map.length c48) (.slice A52 J34.comb.length c53) (.slice A57 J34.red.length c58) (.slice A62 J34.marks.length c63) J34 C.w C.t C.o p ep (({ R with g := setD R.g (a73).toNat ({ R.g (a73).toNat with merged := true, pairs := pr79 } : SpD) } : Red).g) (setD hv (a73).toNat (.slice A95 pr79.length c96 : Value)) b41 vs) 185, osl (kHd kPair) (.slice A42 J34.us.length c43) J34.us, osl kIns (.slice A47 J34.map.length c48) J34.map, osl kIns (.slice A52 J34.comb.length c53) J34.comb, osl kIns (.slice A57 J34.red.length c58) J34.red, osl (kInt .i64) (.slice A62 J34.marks.length c63) J34.marks, osl (kHd (kInt .i64)) vs us, stgI 253 b41 ([])] [rsl (kHd kPair) (.slice A1 C.J.us.length c2) C.J.us, rsl kIns (.slice A6 C.J.map.length c7) C.J.map, rsl kIns (.slice A11 C.J.comb.length c12) C.J.comb, rsl kIns (.slice A16 C.J.red.length c17) C.J.red, rsl (kInt .i64) (.slice A21 C.J.marks.length c22) C.J.marks, rsl kRec (.slice A26 recs.length c27) recs] := by
       rw [← redC_congr (g := setD R.g (a73).toNat { R.g (a73).toNat with merged := true }) (g' := ({ R with g := setD R.g (a73).toNat ({ R.g (a73).toNat with merged := true, pairs := pr79 } : SpD) } : Red).g) (fun j => by dsimp only; by_cases e : j = (a73).toNat <;> first | (subst e; rw [setD_self, setD_self]; exact ⟨rfl, rfl, rfl, rfl⟩) | (rw [setD_ne _ _ e, setD_ne _ _ e]; exact ⟨rfl, rfl, rfl, rfl⟩))]
       exact H
     have hR2 := newR_take hR hx70 (recIn_m hpart h92 hin91 (by simpa [Rec.p] using h93))
     replace H := H.sel 9 [1, 2, 3, 4, 5, 6, 0, 7, 8] [] rfl (by kernel_rfl)
     replace H : Hd _ _ _ [blk b67 (redC (.slice A42 J34.us.length c43) (.slice A47 J34.map.length c48) (.slice A52 J34.comb.length c53) (.slice A57 J34.red.length c58) (.slice A62 J34.marks.length c63) J34 C.w C.t C.o p ep (({ R with g := setD R.g (a73).toNat ({ R.g (a73).toNat with merged := true, pairs := pr79 } : SpD) } : Red).g) (setD hv (a73).toNat (.slice A95 pr79.length c96 : Value)) b41 vs) 185, osl (kHd kPair) (.slice A42 J34.us.length c43) J34.us, osl kIns (.slice A47 J34.map.length c48) J34.map, osl kIns (.slice A52 J34.comb.length c53) J34.comb, osl kIns (.slice A57 J34.red.length c58) J34.red, osl (kInt .i64) (.slice A62 J34.marks.length c63) J34.marks, prsS (({ R with g := setD R.g (a73).toNat ({ R.g (a73).toNat with merged := true, pairs := pr79 } : SpD) } : Red).g) (setD hv (a73).toNat (.slice A95 pr79.length c96 : Value)), osl (kHd (kInt .i64)) vs us, stgI 253 b41 ([])] [rsl (kHd kPair) (.slice A1 C.J.us.length c2) C.J.us, rsl kIns (.slice A6 C.J.map.length c7) C.J.map, rsl kIns (.slice A11 C.J.comb.length c12) C.J.comb, rsl kIns (.slice A16 C.J.red.length c17) C.J.red, rsl (kInt .i64) (.slice A21 C.J.marks.length c22) C.J.marks, rsl kRec (.slice A26 recs.length c27) recs] := H
     exact q_round (s := (k, R, hv, undef, us)) (k + 1, ({ R with g := setD R.g (a73).toNat ({ R.g (a73).toNat with merged := true, pairs := pr79 } : SpD) } : Red), setD hv (a73).toNat (.slice A95 pr79.length c96 : Value), vs, us) ⟨rfl, rfl, rfl, rfl, rfl, rfl, rfl, trivial⟩ ⟨H, hR2, hRp, by (try dsimp only); exact hus, by (try dsimp only); omega, by (try dsimp only); omega⟩ (by (try dsimp only); omega)
    refine c_skip (q_then (c_seq (c_reg (s_val rfl rfl (r_fa rfl fo37_0 rfl) (s_val rfl rfl (r_ld rfl ty3 rfl (H.cellI 0 rfl rfl)) (s_val rfl rfl (r_eq rfl rfl rfl) (s_nil (q_then ?_))))))))
    refine c_dec rfl (fun h101 => ?_) (fun h101 => ?_)
    ·exfalso; omega
    refine c_skip (q_blockN (q_then (c_reg (s_val rfl rfl (r_add (z := ((k + 1 : Nat) : Int)) rfl rfl rfl (by rw [w64 (by omega) (by omega)]; omega)) (s_1 rfl (s_nil ?_))))))
    have hpart : (Rec.p (⟨a71, a72, a73, a74, a75, .slice A80 se77.length c81, se77, .slice A82 pr79.length c83, pr79⟩ : Rec)).part = R.part := by rw [hRp]; exact Classical.not_not.1 h90
    have hR2 := newR_take hR hx70 (recIn_no hpart (fun h => by have h2 := h.2.2; have h3 := h93; dsimp only [Rec.p] at h2; rw [h2] at h3; exact absurd h3 (by decide)) h101)
    replace H := H.p9.p9.p9.p9.p9.p9.p9.p9.p9.k9
    exact q_round (s := (k, R, hv, undef, us)) (k + 1, R, hv, vs, us) ⟨rfl, rfl, rfl, rfl, rfl, rfl, rfl, trivial⟩ ⟨H, hR2, hRp, by (try dsimp only); exact hus, by (try dsimp only); omega, by (try dsimp only); omega⟩ (by (try dsimp only); omega)
   refine s_k 10 rfl (s_nil (q_then (c_no rfl (c_skip (q_then (c_seq (c_reg (s_val rfl rfl (r_fa rfl fo37_0 rfl) (s_val rfl rfl (r_ld rfl ty3 rfl (H.cellI 0 rfl rfl)) (s_val rfl rfl (r_eq rfl rfl rfl) (s_nil (q_then ?_))))))))))))
   refine c_dec rfl (fun h102 => ?_) (fun h102 => ?_)
   ·replace H := H.p9.p8.p8.p8.p8.p8.p8.p7
    refine c_ord (.e 0 (.e 1 (.e 2 (.e 3 (.e 5 (.e 6 (.b 4 7 (.m 7 (.m 8 (.m 9 (.e 10 (.e 11 (.m 12 .z)))))) (.b 4 8 (.m 8 (.m 9 (.e 10 (.e 11 (.m 12 .z))))) (.m 4 (.m 9 (.e 10 (.e 11 (.m 12 .z))))))))))))) (fun w => ∃ Ar, Hd w0 F0 w (blk b89 [.int .i64 a71, .int .i64 a72, .int .i64 a73, .int .i64 a74, .int .i64 a75, .slice A80 se77.length c81, .slice A82 pr79.length c83] 37 :: osl (kHd kPair) (.slice A42 J34.us.length c43) J34.us :: osl kIns (.slice A47 J34.map.length c48) J34.map :: osl kIns (.slice A52 J34.comb.length c53) J34.comb :: osl kIns (.slice A57 J34.red.length c58) J34.red :: osl (kInt .i64) (.slice A62 J34.marks.length c63) J34.marks :: prsS (R.g) hv :: stgI 253 b41 ([]) :: Ar) [rsl (kHd kPair) (.slice A1 C.J.us.length c2) C.J.us, rsl kIns (.slice A6 C.J.map.length c7) C.J.map, rsl kIns (.slice A11 C.J.comb.length c12) C.J.comb, rsl kIns (.slice A16 C.J.red.length c17) C.J.red, rsl (kInt .i64) (.slice A21 C.J.marks.length c22) C.J.marks, rsl kRec (.slice A26 recs.length c27) recs]) mo (by kernel_rfl) (fun w H => ⟨_, H⟩) H (fun w H => ?_)
    refine d_1 rfl (d_1 rfl (d_val rfl rfl rfl (fun w ⟨Ar, H⟩ => r_nilP rfl rfl) (d_val rfl rfl rfl (fun w ⟨Ar, H⟩ => r_fa rfl fo185_5 rfl) (d_val rfl rfl rfl (fun w ⟨Ar, H⟩ => r_fa rfl fo37_5 rfl) (d_val rfl rfl rfl (fun w ⟨Ar, H⟩ => r_ld rfl ty24 rfl (H.cellI 0 rfl rfl)) ?_)))))
    refine d_both rfl rfl ?_ ?_
    ·refine s_val rfl rfl (r_ld rfl ty144 rfl (H.cellI 8 rfl rfl)) (d_back ⟨_, H⟩ (d_main rfl (sc (cloneInt_ok (.slice A80 se77.length c81) se77 (by first | assumption | omega)) H (lX (fun F hA hR => rec_set (hR _ (List.mem_of_getElem? (i := 5) rfl)) hx70) l0) rfl rfl (e_fn kn129 rfl rfl) ?_)))
     rintro v103 _ w rfl H
     replace H := H.h1 (A := osl (kInt .i64) v103 se77) |>.p8 |>.p8 |>.p8 |>.p8 |>.p8 |>.p8 |>.p8 |>.p8
     refine d_back ⟨_, H⟩ (d_main rfl ?_)
     obtain ⟨A105, c106, rfl, hc107, hm108, hp109⟩ := H.fA 8 rfl
     refine s_bsl (parts := [(0, .tmp 76)]) (vs := [.slice A105 se77.length c106]) (cs := [.slice A105 se77.length c106]) rfl rfl rfl sl144 zr24 rfl (by decide) (by decide) rfl rfl H (fun b104 w H => ?_)
     replace H : Hd _ _ _ [blk b104 [.slice A105 se77.length c106] 24, blk b89 [.int .i64 a71, .int .i64 a72, .int .i64 a73, .int .i64 a74, .int .i64 a75, .slice A80 se77.length c81, .slice A82 pr79.length c83] 37, osl (kHd kPair) (.slice A42 J34.us.length c43) J34.us, osl kIns (.slice A47 J34.map.length c48) J34.map, osl kIns (.slice A52 J34.comb.length c53) J34.comb, osl kIns (.slice A57 J34.red.length c58) J34.red, osl (kInt .i64) (.slice A62 J34.marks.length c63) J34.marks, prsS (R.g) hv, stgI 253 b41 ([]), osl (kInt .i64) (.slice A105 se77.length c106) se77, blk b67 (redC (.slice A42 J34.us.length c43) (.slice A47 J34.map.length c48) (.slice A52 J34.comb.length c53) (.slice A57 J34.red.length c58) (.slice A62 J34.marks.length c63) J34 C.w C.t C.o p ep R.g hv b41 vs) 185, osl (kHd (kInt .i64)) vs us] [rsl (kHd kPair) (.slice A1 C.J.us.length c2) C.J.us, rsl kIns (.slice A6 C.J.map.length c7) C.J.map, rsl kIns (.slice A11 C.J.comb.length c12) C.J.comb, rsl kIns (.slice A16 C.J.red.length c17) C.J.red, rsl (kInt .i64) (.slice A21 C.J.marks.length c22) C.J.marks, rsl kRec (.slice A26 recs.length c27) recs] := H
     replace H := H.p8.p8.p8.p8.p8.p8.p8.p8
     refine d_back ⟨_, H⟩ (d_main rfl ?_)
     replace H := H.pick 11 rfl |>.pick 10 rfl |>.pick 10 rfl |>.p2
     refine s_appH rfl rfl rfl sl144 zr24 rfl (by decide) rfl rfl H (by first | omega | (simp only [List.length_append, List.length_cons, List.length_nil]; omega)) (fun v110 w H => ?_)
     replace H := H.h1 (A := osl (kHd (kInt .i64)) v110 (us ++ [((.slice A105 se77.length c106 : Value), se77)])) |>.p8 |>.p8 |>.p8 |>.p8 |>.p8 |>.p8 |>.p8 |>.p8
     refine d_back ⟨_, H⟩ (d_val rfl rfl rfl (fun w ⟨Ar, H⟩ => r_nilP rfl rfl) (d_val rfl rfl rfl (fun w ⟨Ar, H⟩ => r_fa rfl fo185_5 rfl) (d_main rfl ?_)))
     obtain ⟨A111, c112, rfl, hc113, hm114, hp115⟩ := H.fA 8 rfl
     replace H := H.p9
     refine s_st rfl rfl rfl ty144 rfl rfl H rfl (Nat.le_of_ble_eq_true rfl) (fun u hu => by simp [Value.cells] at hu; subst hu; rfl) (fun w H => ?_)
     replace H : Hd _ _ _ [blk b67 (redC (.slice A42 J34.us.length c43) (.slice A47 J34.map.length c48) (.slice A52 J34.comb.length c53) (.slice A57 J34.red.length c58) (.slice A62 J34.marks.length c63) J34 C.w C.t C.o p ep R.g hv b41 (.slice A111 ((us ++ [((.slice A105 se77.length c106 : Value), se77)]).length) c112)) 185, blk b89 [.int .i64 a71, .int .i64 a72, .int .i64 a73, .int .i64 a74, .int .i64 a75, .slice A80 se77.length c81, .slice A82 pr79.length c83] 37, osl (kHd kPair) (.slice A42 J34.us.length c43) J34.us, osl kIns (.slice A47 J34.map.length c48) J34.map, osl kIns (.slice A52 J34.comb.length c53) J34.comb, osl kIns (.slice A57 J34.red.length c58) J34.red, osl (kInt .i64) (.slice A62 J34.marks.length c63) J34.marks, prsS (R.g) hv, stgI 253 b41 ([]), osl (kHd (kInt .i64)) (.slice A111 ((us ++ [((.slice A105 se77.length c106 : Value), se77)]).length) c112) (us ++ [((.slice A105 se77.length c106 : Value), se77)])] [rsl (kHd kPair) (.slice A1 C.J.us.length c2) C.J.us, rsl kIns (.slice A6 C.J.map.length c7) C.J.map, rsl kIns (.slice A11 C.J.comb.length c12) C.J.comb, rsl kIns (.slice A16 C.J.red.length c17) C.J.red, rsl (kInt .i64) (.slice A21 C.J.marks.length c22) C.J.marks, rsl kRec (.slice A26 recs.length c27) recs] := H
     replace H := H.p8.p8.p8.p8.p8.p8.p8.p8
     refine d_back ⟨_, H⟩ (d_nil (q_blockN (q_then (c_reg (s_val rfl rfl (r_add (z := ((k + 1 : Nat) : Int)) rfl rfl rfl (by rw [w64 (by omega) (by omega)]; omega)) (s_1 rfl (s_nil ?_)))))))
     have hpart : (Rec.p (⟨a71, a72, a73, a74, a75, .slice A80 se77.length c81, se77, .slice A82 pr79.length c83, pr79⟩ : Rec)).part = R.part := by rw [hRp]; exact Classical.not_not.1 h90
     have hR2 := newR_take hR hx70 (recIn_s hpart h102)
     replace H := H.p7.p9.p8.p8.p8.p8.p8.p8.p9.k9.h7 (A := blk b67 (redC (.slice A42 J34.us.length c43) (.slice A47 J34.map.length c48) (.slice A52 J34.comb.length c53) (.slice A57 J34.red.length c58) (.slice A62 J34.marks.length c63) J34 C.w C.t C.o p ep (({ R with sets := R.sets ++ [se77] } : Red).g) hv b41 (.slice A111 ((us ++ [((.slice A105 se77.length c106 : Value), se77)]).length) c112)) 185) (G := prsS (({ R with sets := R.sets ++ [se77] } : Red).g) hv)
     exact q_round (s := (k, R, hv, undef, us)) (k + 1, ({ R with sets := R.sets ++ [se77] } : Red), hv, .slice A111 ((us ++ [((.slice A105 se77.length c106 : Value), se77)]).length) c112, us ++ [((.slice A105 se77.length c106 : Value), se77)]) ⟨rfl, rfl, rfl, rfl, rfl, rfl, rfl, trivial⟩ ⟨H, hR2, hRp, by (try dsimp only); rw [List.map_append, hus]; rfl, by (try dsimp only); omega, by (try dsimp only); rw [List.length_append]; simp only [List.length_cons, List.length_nil]; omega⟩ (by (try dsimp only); omega)
    refine sc (cloneInt_ok (.slice A80 se77.length c81) se77 (by first | assumption | omega)) H (lX (fun F hA hR => rec_set (hR _ (List.mem_of_getElem? (i := 5) rfl)) hx70) l0) rfl rfl (e_fn kn129 rfl rfl) ?_
    rintro v116 _ w rfl H
    replace H := H.h1 (A := osl (kInt .i64) v116 se77) |>.p8 |>.p8 |>.p8 |>.p8 |>.p8 |>.p8 |>.p8 |>.p8
    refine d_back ⟨_, H⟩ ?_
    refine d_both rfl rfl ?_ ?_
    ·refine s_val rfl rfl (r_ld rfl ty144 rfl (H.cellI 9 rfl rfl)) (d_back ⟨_, H⟩ (d_main rfl ?_))
     obtain ⟨A118, c119, rfl, hc120, hm121, hp122⟩ := H.fA 8 rfl
     refine s_bsl (parts := [(0, .tmp 76)]) (vs := [.slice A118 se77.length c119]) (cs := [.slice A118 se77.length c119]) rfl rfl rfl sl144 zr24 rfl (by decide) (by decide) rfl rfl H (fun b117 w H => ?_)
     replace H : Hd _ _ _ [blk b117 [.slice A118 se77.length c119] 24, blk b89 [.int .i64 a71, .int .i64 a72, .int .i64 a73, .int .i64 a74, .int .i64 a75, .slice A80 se77.length c81, .slice A82 pr79.length c83] 37, osl (kHd kPair) (.slice A42 J34.us.length c43) J34.us, osl kIns (.slice A47 J34.map.length c48) J34.map, osl kIns (.slice A52 J34.comb.length c53) J34.comb, osl kIns (.slice A57 J34.red.length c58) J34.red, osl (kInt .i64) (.slice A62 J34.marks.length c63) J34.marks, prsS (R.g) hv, stgI 253 b41 ([]), osl (kInt .i64) (.slice A118 se77.length c119) se77, blk b67 (redC (.slice A42 J34.us.length c43) (.slice A47 J34.map.length c48) (.slice A52 J34.comb.length c53) (.slice A57 J34.red.length c58) (.slice A62 J34.marks.length c63) J34 C.w C.t C.o p ep R.g hv b41 vs) 185, osl (kHd (kInt .i64)) vs us] [rsl (kHd kPair) (.slice A1 C.J.us.length c2) C.J.us, rsl kIns (.slice A6 C.J.map.length c7) C.J.map, rsl kIns (.slice A11 C.J.comb.length c12) C.J.comb, rsl kIns (.slice A16 C.J.red.length c17) C.J.red, rsl (kInt .i64) (.slice A21 C.J.marks.length c22) C.J.marks, rsl kRec (.slice A26 recs.length c27) recs] := H
     replace H := H.p8.p8.p8.p8.p8.p8.p8.p8
     refine d_back ⟨_, H⟩ (d_main rfl ?_)
     replace H := H.pick 11 rfl |>.pick 10 rfl |>.pick 10 rfl |>.p2
     refine s_appH rfl rfl rfl sl144 zr24 rfl (by decide) rfl rfl H (by first | omega | (simp only [List.length_append, List.length_cons, List.length_nil]; omega)) (fun v123 w H => ?_)
     replace H := H.h1 (A := osl (kHd (kInt .i64)) v123 (us ++ [((.slice A118 se77.length c119 : Value), se77)])) |>.p8 |>.p8 |>.p8 |>.p8 |>.p8 |>.p8 |>.p8 |>.p8
     refine d_back ⟨_, H⟩ (d_val rfl rfl rfl (fun w ⟨Ar, H⟩ => r_nilP rfl rfl) (d_val rfl rfl rfl (fun w ⟨Ar, H⟩ => r_fa rfl fo185_5 rfl) (d_main rfl ?_)))
     obtain ⟨A124, c125, rfl, hc126, hm127, hp128⟩ := H.fA 8 rfl
     replace H := H.p9
     refine s_st rfl rfl rfl ty144 rfl rfl H rfl (Nat.le_of_ble_eq_true rfl) (fun u hu => by simp [Value.cells] at hu; subst hu; rfl) (fun w H => ?_)
     replace H : Hd _ _ _ [blk b67 (redC (.slice A42 J34.us.length c43) (.slice A47 J34.map.length c48) (.slice A52 J34.comb.length c53) (.slice A57 J34.red.length c58) (.slice A62 J34.marks.length c63) J34 C.w C.t C.o p ep R.g hv b41 (.slice A124 ((us ++ [((.slice A118 se77.length c119 : Value), se77)]).length) c125)) 185, blk b89 [.int .i64 a71, .int .i64 a72, .int .i64 a73, .int .i64 a74, .int .i64 a75, .slice A80 se77.length c81, .slice A82 pr79.length c83] 37, osl (kHd kPair) (.slice A42 J34.us.length c43) J34.us, osl kIns (.slice A47 J34.map.length c48) J34.map, osl kIns (.slice A52 J34.comb.length c53) J34.comb, osl kIns (.slice A57 J34.red.length c58) J34.red, osl (kInt .i64) (.slice A62 J34.marks.length c63) J34.marks, prsS (R.g) hv, stgI 253 b41 ([]), osl (kHd (kInt .i64)) (.slice A124 ((us ++ [((.slice A118 se77.length c119 : Value), se77)]).length) c125) (us ++ [((.slice A118 se77.length c119 : Value), se77)])] [rsl (kHd kPair) (.slice A1 C.J.us.length c2) C.J.us, rsl kIns (.slice A6 C.J.map.length c7) C.J.map, rsl kIns (.slice A11 C.J.comb.length c12) C.J.comb, rsl kIns (.slice A16 C.J.red.length c17) C.J.red, rsl (kInt .i64) (.slice A21 C.J.marks.length c22) C.J.marks, rsl kRec (.slice A26 recs.length c27) recs] := H
     replace H := H.p8.p8.p8.p8.p8.p8.p8.p8
     refine d_back ⟨_, H⟩ (d_nil (q_blockN (q_then (c_reg (s_val rfl rfl (r_add (z := ((k + 1 : Nat) : Int)) rfl rfl rfl (by rw [w64 (by omega) (by omega)]; omega)) (s_1 rfl (s_nil ?_)))))))
     have hpart : (Rec.p (⟨a71, a72, a73, a74, a75, .slice A80 se77.length c81, se77, .slice A82 pr79.length c83, pr79⟩ : Rec)).part = R.part := by rw [hRp]; exact Classical.not_not.1 h90
     have hR2 := newR_take hR hx70 (recIn_s hpart h102)
     replace H := H.p7.p9.p8.p8.p8.p8.p8.p8.p9.k9.h7 (A := blk b67 (redC (.slice A42 J34.us.length c43) (.slice A47 J34.map.length c48) (.slice A52 J34.comb.length c53) (.slice A57 J34.red.length c58) (.slice A62 J34.marks.length c63) J34 C.w C.t C.o p ep (({ R with sets := R.sets ++ [se77] } : Red).g) hv b41 (.slice A124 ((us ++ [((.slice A118 se77.length c119 : Value), se77)]).length) c125)) 185) (G := prsS (({ R with sets := R.sets ++ [se77] } : Red).g) hv)
     exact q_round (s := (k, R, hv, undef, us)) (k + 1, ({ R with sets := R.sets ++ [se77] } : Red), hv, .slice A124 ((us ++ [((.slice A118 se77.length c119 : Value), se77)]).length) c125, us ++ [((.slice A118 se77.length c119 : Value), se77)]) ⟨rfl, rfl, rfl, rfl, rfl, rfl, rfl, trivial⟩ ⟨H, hR2, hRp, by (try dsimp only); rw [List.map_append, hus]; rfl, by (try dsimp only); omega, by (try dsimp only); rw [List.length_append]; simp only [List.length_cons, List.length_nil]; omega⟩ (by (try dsimp only); omega)
    obtain ⟨A130, c131, rfl, hc132, hm133, hp134⟩ := H.fA 8 rfl
    refine s_bsl (parts := [(0, .tmp 76)]) (vs := [.slice A130 se77.length c131]) (cs := [.slice A130 se77.length c131]) rfl rfl rfl sl144 zr24 rfl (by decide) (by decide) rfl rfl H (fun b129 w H => ?_)
    replace H : Hd _ _ _ [blk b129 [.slice A130 se77.length c131] 24, blk b89 [.int .i64 a71, .int .i64 a72, .int .i64 a73, .int .i64 a74, .int .i64 a75, .slice A80 se77.length c81, .slice A82 pr79.length c83] 37, osl (kHd kPair) (.slice A42 J34.us.length c43) J34.us, osl kIns (.slice A47 J34.map.length c48) J34.map, osl kIns (.slice A52 J34.comb.length c53) J34.comb, osl kIns (.slice A57 J34.red.length c58) J34.red, osl (kInt .i64) (.slice A62 J34.marks.length c63) J34.marks, prsS (R.g) hv, stgI 253 b41 ([]), osl (kInt .i64) (.slice A130 se77.length c131) se77, blk b67 (redC (.slice A42 J34.us.length c43) (.slice A47 J34.map.length c48) (.slice A52 J34.comb.length c53) (.slice A57 J34.red.length c58) (.slice A62 J34.marks.length c63) J34 C.w C.t C.o p ep R.g hv b41 vs) 185, osl (kHd (kInt .i64)) vs us] [rsl (kHd kPair) (.slice A1 C.J.us.length c2) C.J.us, rsl kIns (.slice A6 C.J.map.length c7) C.J.map, rsl kIns (.slice A11 C.J.comb.length c12) C.J.comb, rsl kIns (.slice A16 C.J.red.length c17) C.J.red, rsl (kInt .i64) (.slice A21 C.J.marks.length c22) C.J.marks, rsl kRec (.slice A26 recs.length c27) recs] := H
    replace H := H.p8.p8.p8.p8.p8.p8.p8.p8
    refine d_back ⟨_, H⟩ (d_main rfl (s_val rfl rfl (r_ld rfl ty144 rfl (H.cellI 10 rfl rfl)) (d_back ⟨_, H⟩ (d_main rfl ?_))))
    replace H := H.pick 11 rfl |>.pick 10 rfl |>.pick 10 rfl |>.p2
    refine s_appH rfl rfl rfl sl144 zr24 rfl (by decide) rfl rfl H (by first | omega | (simp only [List.length_append, List.length_cons, List.length_nil]; omega)) (fun v135 w H => ?_)
    replace H := H.h1 (A := osl (kHd (kInt .i64)) v135 (us ++ [((.slice A130 se77.length c131 : Value), se77)])) |>.p8 |>.p8 |>.p8 |>.p8 |>.p8 |>.p8 |>.p8 |>.p8
    refine d_back ⟨_, H⟩ (d_val rfl rfl rfl (fun w ⟨Ar, H⟩ => r_nilP rfl rfl) (d_val rfl rfl rfl (fun w ⟨Ar, H⟩ => r_fa rfl fo185_5 rfl) (d_main rfl ?_)))
    obtain ⟨A136, c137, rfl, hc138, hm139, hp140⟩ := H.fA 8 rfl
    replace H := H.p9
    refine s_st rfl rfl rfl ty144 rfl rfl H rfl (Nat.le_of_ble_eq_true rfl) (fun u hu => by simp [Value.cells] at hu; subst hu; rfl) (fun w H => ?_)
    replace H : Hd _ _ _ [blk b67 (redC (.slice A42 J34.us.length c43) (.slice A47 J34.map.length c48) (.slice A52 J34.comb.length c53) (.slice A57 J34.red.length c58) (.slice A62 J34.marks.length c63) J34 C.w C.t C.o p ep R.g hv b41 (.slice A136 ((us ++ [((.slice A130 se77.length c131 : Value), se77)]).length) c137)) 185, blk b89 [.int .i64 a71, .int .i64 a72, .int .i64 a73, .int .i64 a74, .int .i64 a75, .slice A80 se77.length c81, .slice A82 pr79.length c83] 37, osl (kHd kPair) (.slice A42 J34.us.length c43) J34.us, osl kIns (.slice A47 J34.map.length c48) J34.map, osl kIns (.slice A52 J34.comb.length c53) J34.comb, osl kIns (.slice A57 J34.red.length c58) J34.red, osl (kInt .i64) (.slice A62 J34.marks.length c63) J34.marks, prsS (R.g) hv, stgI 253 b41 ([]), osl (kHd (kInt .i64)) (.slice A136 ((us ++ [((.slice A130 se77.length c131 : Value), se77)]).length) c137) (us ++ [((.slice A130 se77.length c131 : Value), se77)])] [rsl (kHd kPair) (.slice A1 C.J.us.length c2) C.J.us, rsl kIns (.slice A6 C.J.map.length c7) C.J.map, rsl kIns (.slice A11 C.J.comb.length c12) C.J.comb, rsl kIns (.slice A16 C.J.red.length c17) C.J.red, rsl (kInt .i64) (.slice A21 C.J.marks.length c22) C.J.marks, rsl kRec (.slice A26 recs.length c27) recs] := H
    replace H := H.p8.p8.p8.p8.p8.p8.p8.p8
    refine d_back ⟨_, H⟩ (d_nil (q_blockN (q_then (c_reg (s_val rfl rfl (r_add (z := ((k + 1 : Nat) : Int)) rfl rfl rfl (by rw [w64 (by omega) (by omega)]; omega)) (s_1 rfl (s_nil ?_)))))))
    have hpart : (Rec.p (⟨a71, a72, a73, a74, a75, .slice A80 se77.length c81, se77, .slice A82 pr79.length c83, pr79⟩ : Rec)).part = R.part := by rw [hRp]; exact Classical.not_not.1 h90
    have hR2 := newR_take hR hx70 (recIn_s hpart h102)
    replace H := H.p7.p9.p8.p8.p8.p8.p8.p8.p9.k9.h7 (A := blk b67 (redC (.slice A42 J34.us.length c43) (.slice A47 J34.map.length c48) (.slice A52 J34.comb.length c53) (.slice A57 J34.red.length c58) (.slice A62 J34.marks.length c63) J34 C.w C.t C.o p ep (({ R with sets := R.sets ++ [se77] } : Red).g) hv b41 (.slice A136 ((us ++ [((.slice A130 se77.length c131 : Value), se77)]).length) c137)) 185) (G := prsS (({ R with sets := R.sets ++ [se77] } : Red).g) hv)
    exact q_round (s := (k, R, hv, undef, us)) (k + 1, ({ R with sets := R.sets ++ [se77] } : Red), hv, .slice A136 ((us ++ [((.slice A130 se77.length c131 : Value), se77)]).length) c137, us ++ [((.slice A130 se77.length c131 : Value), se77)]) ⟨rfl, rfl, rfl, rfl, rfl, rfl, rfl, trivial⟩ ⟨H, hR2, hRp, by (try dsimp only); rw [List.map_append, hus]; rfl, by (try dsimp only); omega, by (try dsimp only); rw [List.length_append]; simp only [List.length_cons, List.length_nil]; omega⟩ (by (try dsimp only); omega)
   refine c_skip (q_blockN (q_then (c_reg (s_val rfl rfl (r_add (z := ((k + 1 : Nat) : Int)) rfl rfl rfl (by rw [w64 (by omega) (by omega)]; omega)) (s_1 rfl (s_nil ?_))))))
   have hpart : (Rec.p (⟨a71, a72, a73, a74, a75, .slice A80 se77.length c81, se77, .slice A82 pr79.length c83, pr79⟩ : Rec)).part = R.part := by rw [hRp]; exact Classical.not_not.1 h90
   have hR2 := newR_take hR hx70 (recIn_no hpart (fun h => h92 h.1) h102)
   replace H := H.p9.p9.p9.p9.p9.p9.p9.p9.p9.k9
   exact q_round (s := (k, R, hv, undef, us)) (k + 1, R, hv, vs, us) ⟨rfl, rfl, rfl, rfl, rfl, rfl, rfl, trivial⟩ ⟨H, hR2, hRp, by (try dsimp only); exact hus, by (try dsimp only); omega, by (try dsimp only); omega⟩ (by (try dsimp only); omega)
  refine c_reg (s_1 rfl (s_val rfl rfl (r_fa rfl fo37_2 rfl) (s_val rfl rfl (r_ld rfl ty3 rfl (H.cellI 0 rfl rfl)) (sc (at_no b67 A42 J34.us.length c43 (.slice A47 J34.map.length c48) (.slice A52 J34.comb.length c53) (.slice A57 J34.red.length c58) (.slice A62 J34.marks.length c63) J34 C.w C.t C.o p ep R.g hv b41 vs a73 (by first | assumption | omega)) H (lA 1 rfl (fun _ h => h) l0) rfl rfl (e_fn kn118 rfl rfl) ?_))))
  rintro _ _ w ⟨rfl, rfl⟩ H
  refine s_1 rfl (s_nil (q_then (c_seq (c_reg (s_val rfl rfl (r_fa rfl fo37_0 rfl) (s_val rfl rfl (r_ld rfl ty3 rfl (H.cellI 0 rfl rfl)) (s_val rfl rfl (r_eq rfl rfl rfl) (s_1 rfl ?_))))))))
  refine s_dec (d := 46) rfl (fun h141 => ?_) (fun h141 => ?_)
  ·refine s_1 rfl (s_val rfl rfl (r_pne rfl un178 rfl rfl) (s_k 8 rfl (s_nil (q_then (c_no rfl (c_skip (q_then (c_seq (c_reg (s_val rfl rfl (r_fa rfl fo37_0 rfl) (s_val rfl rfl (r_ld rfl ty3 rfl (H.cellI 0 rfl rfl)) (s_val rfl rfl (r_eq rfl rfl rfl) (s_nil (q_then ?_))))))))))))))
   refine c_dec rfl (fun h142 => ?_) (fun h142 => ?_)
   ·exfalso; omega
   refine c_skip (q_blockN (q_then (c_reg (s_val rfl rfl (r_add (z := ((k + 1 : Nat) : Int)) rfl rfl rfl (by rw [w64 (by omega) (by omega)]; omega)) (s_1 rfl (s_nil ?_))))))
   have hpart : (Rec.p (⟨a71, a72, a73, a74, a75, .slice A80 se77.length c81, se77, .slice A82 pr79.length c83, pr79⟩ : Rec)).part = R.part := by rw [hRp]; exact Classical.not_not.1 h90
   have hR2 := newR_take hR hx70 (recIn_no hpart (fun h => hin91 h.2.1) h142)
   replace H := H.p9.p9.p9.p9.p9.p9.p9.p9.p9.k9
   exact q_round (s := (k, R, hv, undef, us)) (k + 1, R, hv, vs, us) ⟨rfl, rfl, rfl, rfl, rfl, rfl, rfl, trivial⟩ ⟨H, hR2, hRp, by (try dsimp only); exact hus, by (try dsimp only); omega, by (try dsimp only); omega⟩ (by (try dsimp only); omega)
  refine s_k 10 rfl (s_nil (q_then (c_no rfl (c_skip (q_then (c_seq (c_reg (s_val rfl rfl (r_fa rfl fo37_0 rfl) (s_val rfl rfl (r_ld rfl ty3 rfl (H.cellI 0 rfl rfl)) (s_val rfl rfl (r_eq rfl rfl rfl) (s_nil (q_then ?_))))))))))))
  refine c_dec rfl (fun h143 => ?_) (fun h143 => ?_)
  ·replace H := H.p9.p8.p8.p8.p8.p8.p8.p7
   refine c_ord (.e 0 (.e 1 (.e 2 (.e 3 (.e 5 (.e 6 (.b 4 7 (.m 7 (.m 8 (.m 9 (.e 10 (.e 11 (.m 12 .z)))))) (.b 4 8 (.m 8 (.m 9 (.e 10 (.e 11 (.m 12 .z))))) (.m 4 (.m 9 (.e 10 (.e 11 (.m 12 .z))))))))))))) (fun w => ∃ Ar, Hd w0 F0 w (blk b89 [.int .i64 a71, .int .i64 a72, .int .i64 a73, .int .i64 a74, .int .i64 a75, .slice A80 se77.length c81, .slice A82 pr79.length c83] 37 :: osl (kHd kPair) (.slice A42 J34.us.length c43) J34.us :: osl kIns (.slice A47 J34.map.length c48) J34.map :: osl kIns (.slice A52 J34.comb.length c53) J34.comb :: osl kIns (.slice A57 J34.red.length c58) J34.red :: osl (kInt .i64) (.slice A62 J34.marks.length c63) J34.marks :: prsS (R.g) hv :: stgI 253 b41 ([]) :: Ar) [rsl (kHd kPair) (.slice A1 C.J.us.length c2) C.J.us, rsl kIns (.slice A6 C.J.map.length c7) C.J.map, rsl kIns (.slice A11 C.J.comb.length c12) C.J.comb, rsl kIns (.slice A16 C.J.red.length c17) C.J.red, rsl (kInt .i64) (.slice A21 C.J.marks.length c22) C.J.marks, rsl kRec (.slice A26 recs.length c27) recs]) mo (by kernel_rfl) (fun w H => ⟨_, H⟩) H (fun w H => ?_)
   refine d_1 rfl (d_1 rfl (d_val rfl rfl rfl (fun w ⟨Ar, H⟩ => r_nilP rfl rfl) (d_val rfl rfl rfl (fun w ⟨Ar, H⟩ => r_fa rfl fo185_5 rfl) (d_val rfl rfl rfl (fun w ⟨Ar, H⟩ => r_fa rfl fo37_5 rfl) (d_val rfl rfl rfl (fun w ⟨Ar, H⟩ => r_ld rfl ty24 rfl (H.cellI 0 rfl rfl)) ?_)))))
   refine d_both rfl rfl ?_ ?_
   ·refine s_val rfl rfl (r_ld rfl ty144 rfl (H.cellI 8 rfl rfl)) (d_back ⟨_, H⟩ (d_main rfl (sc (cloneInt_ok (.slice A80 se77.length c81) se77 (by first | assumption | omega)) H (lX (fun F hA hR => rec_set (hR _ (List.mem_of_getElem? (i := 5) rfl)) hx70) l0) rfl rfl (e_fn kn129 rfl rfl) ?_)))
    rintro v144 _ w rfl H
    replace H := H.h1 (A := osl (kInt .i64) v144 se77) |>.p8 |>.p8 |>.p8 |>.p8 |>.p8 |>.p8 |>.p8 |>.p8
    refine d_back ⟨_, H⟩ (d_main rfl ?_)
    obtain ⟨A146, c147, rfl, hc148, hm149, hp150⟩ := H.fA 8 rfl
    refine s_bsl (parts := [(0, .tmp 76)]) (vs := [.slice A146 se77.length c147]) (cs := [.slice A146 se77.length c147]) rfl rfl rfl sl144 zr24 rfl (by decide) (by decide) rfl rfl H (fun b145 w H => ?_)
    replace H : Hd _ _ _ [blk b145 [.slice A146 se77.length c147] 24, blk b89 [.int .i64 a71, .int .i64 a72, .int .i64 a73, .int .i64 a74, .int .i64 a75, .slice A80 se77.length c81, .slice A82 pr79.length c83] 37, osl (kHd kPair) (.slice A42 J34.us.length c43) J34.us, osl kIns (.slice A47 J34.map.length c48) J34.map, osl kIns (.slice A52 J34.comb.length c53) J34.comb, osl kIns (.slice A57 J34.red.length c58) J34.red, osl (kInt .i64) (.slice A62 J34.marks.length c63) J34.marks, prsS (R.g) hv, stgI 253 b41 ([]), osl (kInt .i64) (.slice A146 se77.length c147) se77, blk b67 (redC (.slice A42 J34.us.length c43) (.slice A47 J34.map.length c48) (.slice A52 J34.comb.length c53) (.slice A57 J34.red.length c58) (.slice A62 J34.marks.length c63) J34 C.w C.t C.o p ep R.g hv b41 vs) 185, osl (kHd (kInt .i64)) vs us] [rsl (kHd kPair) (.slice A1 C.J.us.length c2) C.J.us, rsl kIns (.slice A6 C.J.map.length c7) C.J.map, rsl kIns (.slice A11 C.J.comb.length c12) C.J.comb, rsl kIns (.slice A16 C.J.red.length c17) C.J.red, rsl (kInt .i64) (.slice A21 C.J.marks.length c22) C.J.marks, rsl kRec (.slice A26 recs.length c27) recs] := H
    replace H := H.p8.p8.p8.p8.p8.p8.p8.p8
    refine d_back ⟨_, H⟩ (d_main rfl ?_)
    replace H := H.pick 11 rfl |>.pick 10 rfl |>.pick 10 rfl |>.p2
    refine s_appH rfl rfl rfl sl144 zr24 rfl (by decide) rfl rfl H (by first | omega | (simp only [List.length_append, List.length_cons, List.length_nil]; omega)) (fun v151 w H => ?_)
    replace H := H.h1 (A := osl (kHd (kInt .i64)) v151 (us ++ [((.slice A146 se77.length c147 : Value), se77)])) |>.p8 |>.p8 |>.p8 |>.p8 |>.p8 |>.p8 |>.p8 |>.p8
    refine d_back ⟨_, H⟩ (d_val rfl rfl rfl (fun w ⟨Ar, H⟩ => r_nilP rfl rfl) (d_val rfl rfl rfl (fun w ⟨Ar, H⟩ => r_fa rfl fo185_5 rfl) (d_main rfl ?_)))
    obtain ⟨A152, c153, rfl, hc154, hm155, hp156⟩ := H.fA 8 rfl
    replace H := H.p9
    refine s_st rfl rfl rfl ty144 rfl rfl H rfl (Nat.le_of_ble_eq_true rfl) (fun u hu => by simp [Value.cells] at hu; subst hu; rfl) (fun w H => ?_)
    replace H : Hd _ _ _ [blk b67 (redC (.slice A42 J34.us.length c43) (.slice A47 J34.map.length c48) (.slice A52 J34.comb.length c53) (.slice A57 J34.red.length c58) (.slice A62 J34.marks.length c63) J34 C.w C.t C.o p ep R.g hv b41 (.slice A152 ((us ++ [((.slice A146 se77.length c147 : Value), se77)]).length) c153)) 185, blk b89 [.int .i64 a71, .int .i64 a72, .int .i64 a73, .int .i64 a74, .int .i64 a75, .slice A80 se77.length c81, .slice A82 pr79.length c83] 37, osl (kHd kPair) (.slice A42 J34.us.length c43) J34.us, osl kIns (.slice A47 J34.map.length c48) J34.map, osl kIns (.slice A52 J34.comb.length c53) J34.comb, osl kIns (.slice A57 J34.red.length c58) J34.red, osl (kInt .i64) (.slice A62 J34.marks.length c63) J34.marks, prsS (R.g) hv, stgI 253 b41 ([]), osl (kHd (kInt .i64)) (.slice A152 ((us ++ [((.slice A146 se77.length c147 : Value), se77)]).length) c153) (us ++ [((.slice A146 se77.length c147 : Value), se77)])] [rsl (kHd kPair) (.slice A1 C.J.us.length c2) C.J.us, rsl kIns (.slice A6 C.J.map.length c7) C.J.map, rsl kIns (.slice A11 C.J.comb.length c12) C.J.comb, rsl kIns (.slice A16 C.J.red.length c17) C.J.red, rsl (kInt .i64) (.slice A21 C.J.marks.length c22) C.J.marks, rsl kRec (.slice A26 recs.length c27) recs] := H
    replace H := H.p8.p8.p8.p8.p8.p8.p8.p8
    refine d_back ⟨_, H⟩ (d_nil (q_blockN (q_then (c_reg (s_val rfl rfl (r_add (z := ((k + 1 : Nat) : Int)) rfl rfl rfl (by rw [w64 (by omega) (by omega)]; omega)) (s_1 rfl (s_nil ?_)))))))
    have hpart : (Rec.p (⟨a71, a72, a73, a74, a75, .slice A80 se77.length c81, se77, .slice A82 pr79.length c83, pr79⟩ : Rec)).part = R.part := by rw [hRp]; exact Classical.not_not.1 h90
    have hR2 := newR_take hR hx70 (recIn_s hpart h143)
    replace H := H.p7.p9.p8.p8.p8.p8.p8.p8.p9.k9.h7 (A := blk b67 (redC (.slice A42 J34.us.length c43) (.slice A47 J34.map.length c48) (.slice A52 J34.comb.length c53) (.slice A57 J34.red.length c58) (.slice A62 J34.marks.length c63) J34 C.w C.t C.o p ep (({ R with sets := R.sets ++ [se77] } : Red).g) hv b41 (.slice A152 ((us ++ [((.slice A146 se77.length c147 : Value), se77)]).length) c153)) 185) (G := prsS (({ R with sets := R.sets ++ [se77] } : Red).g) hv)
    exact q_round (s := (k, R, hv, undef, us)) (k + 1, ({ R with sets := R.sets ++ [se77] } : Red), hv, .slice A152 ((us ++ [((.slice A146 se77.length c147 : Value), se77)]).length) c153, us ++ [((.slice A146 se77.length c147 : Value), se77)]) ⟨rfl, rfl, rfl, rfl, rfl, rfl, rfl, trivial⟩ ⟨H, hR2, hRp, by (try dsimp only); rw [List.map_append, hus]; rfl, by (try dsimp only); omega, by (try dsimp only); rw [List.length_append]; simp only [List.length_cons, List.length_nil]; omega⟩ (by (try dsimp only); omega)
   refine sc (cloneInt_ok (.slice A80 se77.length c81) se77 (by first | assumption | omega)) H (lX (fun F hA hR => rec_set (hR _ (List.mem_of_getElem? (i := 5) rfl)) hx70) l0) rfl rfl (e_fn kn129 rfl rfl) ?_
   rintro v157 _ w rfl H
   replace H := H.h1 (A := osl (kInt .i64) v157 se77) |>.p8 |>.p8 |>.p8 |>.p8 |>.p8 |>.p8 |>.p8 |>.p8
   refine d_back ⟨_, H⟩ ?_
   refine d_both rfl rfl ?_ ?_
   ·refine s_val rfl rfl (r_ld rfl ty144 rfl (H.cellI 9 rfl rfl)) (d_back ⟨_, H⟩ (d_main rfl ?_))
    obtain ⟨A159, c160, rfl, hc161, hm162, hp163⟩ := H.fA 8 rfl
    refine s_bsl (parts := [(0, .tmp 76)]) (vs := [.slice A159 se77.length c160]) (cs := [.slice A159 se77.length c160]) rfl rfl rfl sl144 zr24 rfl (by decide) (by decide) rfl rfl H (fun b158 w H => ?_)
    replace H : Hd _ _ _ [blk b158 [.slice A159 se77.length c160] 24, blk b89 [.int .i64 a71, .int .i64 a72, .int .i64 a73, .int .i64 a74, .int .i64 a75, .slice A80 se77.length c81, .slice A82 pr79.length c83] 37, osl (kHd kPair) (.slice A42 J34.us.length c43) J34.us, osl kIns (.slice A47 J34.map.length c48) J34.map, osl kIns (.slice A52 J34.comb.length c53) J34.comb, osl kIns (.slice A57 J34.red.length c58) J34.red, osl (kInt .i64) (.slice A62 J34.marks.length c63) J34.marks, prsS (R.g) hv, stgI 253 b41 ([]), osl (kInt .i64) (.slice A159 se77.length c160) se77, blk b67 (redC (.slice A42 J34.us.length c43) (.slice A47 J34.map.length c48) (.slice A52 J34.comb.length c53) (.slice A57 J34.red.length c58) (.slice A62 J34.marks.length c63) J34 C.w C.t C.o p ep R.g hv b41 vs) 185, osl (kHd (kInt .i64)) vs us] [rsl (kHd kPair) (.slice A1 C.J.us.length c2) C.J.us, rsl kIns (.slice A6 C.J.map.length c7) C.J.map, rsl kIns (.slice A11 C.J.comb.length c12) C.J.comb, rsl kIns (.slice A16 C.J.red.length c17) C.J.red, rsl (kInt .i64) (.slice A21 C.J.marks.length c22) C.J.marks, rsl kRec (.slice A26 recs.length c27) recs] := H
    replace H := H.p8.p8.p8.p8.p8.p8.p8.p8
    refine d_back ⟨_, H⟩ (d_main rfl ?_)
    replace H := H.pick 11 rfl |>.pick 10 rfl |>.pick 10 rfl |>.p2
    refine s_appH rfl rfl rfl sl144 zr24 rfl (by decide) rfl rfl H (by first | omega | (simp only [List.length_append, List.length_cons, List.length_nil]; omega)) (fun v164 w H => ?_)
    replace H := H.h1 (A := osl (kHd (kInt .i64)) v164 (us ++ [((.slice A159 se77.length c160 : Value), se77)])) |>.p8 |>.p8 |>.p8 |>.p8 |>.p8 |>.p8 |>.p8 |>.p8
    refine d_back ⟨_, H⟩ (d_val rfl rfl rfl (fun w ⟨Ar, H⟩ => r_nilP rfl rfl) (d_val rfl rfl rfl (fun w ⟨Ar, H⟩ => r_fa rfl fo185_5 rfl) (d_main rfl ?_)))
    obtain ⟨A165, c166, rfl, hc167, hm168, hp169⟩ := H.fA 8 rfl
    replace H := H.p9
    refine s_st rfl rfl rfl ty144 rfl rfl H rfl (Nat.le_of_ble_eq_true rfl) (fun u hu => by simp [Value.cells] at hu; subst hu; rfl) (fun w H => ?_)
    replace H : Hd _ _ _ [blk b67 (redC (.slice A42 J34.us.length c43) (.slice A47 J34.map.length c48) (.slice A52 J34.comb.length c53) (.slice A57 J34.red.length c58) (.slice A62 J34.marks.length c63) J34 C.w C.t C.o p ep R.g hv b41 (.slice A165 ((us ++ [((.slice A159 se77.length c160 : Value), se77)]).length) c166)) 185, blk b89 [.int .i64 a71, .int .i64 a72, .int .i64 a73, .int .i64 a74, .int .i64 a75, .slice A80 se77.length c81, .slice A82 pr79.length c83] 37, osl (kHd kPair) (.slice A42 J34.us.length c43) J34.us, osl kIns (.slice A47 J34.map.length c48) J34.map, osl kIns (.slice A52 J34.comb.length c53) J34.comb, osl kIns (.slice A57 J34.red.length c58) J34.red, osl (kInt .i64) (.slice A62 J34.marks.length c63) J34.marks, prsS (R.g) hv, stgI 253 b41 ([]), osl (kHd (kInt .i64)) (.slice A165 ((us ++ [((.slice A159 se77.length c160 : Value), se77)]).length) c166) (us ++ [((.slice A159 se77.length c160 : Value), se77)])] [rsl (kHd kPair) (.slice A1 C.J.us.length c2) C.J.us, rsl kIns (.slice A6 C.J.map.length c7) C.J.map, rsl kIns (.slice A11 C.J.comb.length c12) C.J.comb, rsl kIns (.slice A16 C.J.red.length c17) C.J.red, rsl (kInt .i64) (.slice A21 C.J.marks.length c22) C.J.marks, rsl kRec (.slice A26 recs.length c27) recs] := H
    replace H := H.p8.p8.p8.p8.p8.p8.p8.p8
    refine d_back ⟨_, H⟩ (d_nil (q_blockN (q_then (c_reg (s_val rfl rfl (r_add (z := ((k + 1 : Nat) : Int)) rfl rfl rfl (by rw [w64 (by omega) (by omega)]; omega)) (s_1 rfl (s_nil ?_)))))))
    have hpart : (Rec.p (⟨a71, a72, a73, a74, a75, .slice A80 se77.length c81, se77, .slice A82 pr79.length c83, pr79⟩ : Rec)).part = R.part := by rw [hRp]; exact Classical.not_not.1 h90
    have hR2 := newR_take hR hx70 (recIn_s hpart h143)
    replace H := H.p7.p9.p8.p8.p8.p8.p8.p8.p9.k9.h7 (A := blk b67 (redC (.slice A42 J34.us.length c43) (.slice A47 J34.map.length c48) (.slice A52 J34.comb.length c53) (.slice A57 J34.red.length c58) (.slice A62 J34.marks.length c63) J34 C.w C.t C.o p ep (({ R with sets := R.sets ++ [se77] } : Red).g) hv b41 (.slice A165 ((us ++ [((.slice A159 se77.length c160 : Value), se77)]).length) c166)) 185) (G := prsS (({ R with sets := R.sets ++ [se77] } : Red).g) hv)
    exact q_round (s := (k, R, hv, undef, us)) (k + 1, ({ R with sets := R.sets ++ [se77] } : Red), hv, .slice A165 ((us ++ [((.slice A159 se77.length c160 : Value), se77)]).length) c166, us ++ [((.slice A159 se77.length c160 : Value), se77)]) ⟨rfl, rfl, rfl, rfl, rfl, rfl, rfl, trivial⟩ ⟨H, hR2, hRp, by (try dsimp only); rw [List.map_append, hus]; rfl, by (try dsimp only); omega, by (try dsimp only); rw [List.length_append]; simp only [List.length_cons, List.length_nil]; omega⟩ (by (try dsimp only); omega)
   obtain ⟨A171, c172, rfl, hc173, hm174, hp175⟩ := H.fA 8 rfl
   refine s_bsl (parts := [(0, .tmp 76)]) (vs := [.slice A171 se77.length c172]) (cs := [.slice A171 se77.length c172]) rfl rfl rfl sl144 zr24 rfl (by decide) (by decide) rfl rfl H (fun b170 w H => ?_)
   replace H : Hd _ _ _ [blk b170 [.slice A171 se77.length c172] 24, blk b89 [.int .i64 a71, .int .i64 a72, .int .i64 a73, .int .i64 a74, .int .i64 a75, .slice A80 se77.length c81, .slice A82 pr79.length c83] 37, osl (kHd kPair) (.slice A42 J34.us.length c43) J34.us, osl kIns (.slice A47 J34.map.length c48) J34.map, osl kIns (.slice A52 J34.comb.length c53) J34.comb, osl kIns (.slice A57 J34.red.length c58) J34.red, osl (kInt .i64) (.slice A62 J34.marks.length c63) J34.marks, prsS (R.g) hv, stgI 253 b41 ([]), osl (kInt .i64) (.slice A171 se77.length c172) se77, blk b67 (redC (.slice A42 J34.us.length c43) (.slice A47 J34.map.length c48) (.slice A52 J34.comb.length c53) (.slice A57 J34.red.length c58) (.slice A62 J34.marks.length c63) J34 C.w C.t C.o p ep R.g hv b41 vs) 185, osl (kHd (kInt .i64)) vs us] [rsl (kHd kPair) (.slice A1 C.J.us.length c2) C.J.us, rsl kIns (.slice A6 C.J.map.length c7) C.J.map, rsl kIns (.slice A11 C.J.comb.length c12) C.J.comb, rsl kIns (.slice A16 C.J.red.length c17) C.J.red, rsl (kInt .i64) (.slice A21 C.J.marks.length c22) C.J.marks, rsl kRec (.slice A26 recs.length c27) recs] := H
   replace H := H.p8.p8.p8.p8.p8.p8.p8.p8
   refine d_back ⟨_, H⟩ (d_main rfl (s_val rfl rfl (r_ld rfl ty144 rfl (H.cellI 10 rfl rfl)) (d_back ⟨_, H⟩ (d_main rfl ?_))))
   replace H := H.pick 11 rfl |>.pick 10 rfl |>.pick 10 rfl |>.p2
   refine s_appH rfl rfl rfl sl144 zr24 rfl (by decide) rfl rfl H (by first | omega | (simp only [List.length_append, List.length_cons, List.length_nil]; omega)) (fun v176 w H => ?_)
   replace H := H.h1 (A := osl (kHd (kInt .i64)) v176 (us ++ [((.slice A171 se77.length c172 : Value), se77)])) |>.p8 |>.p8 |>.p8 |>.p8 |>.p8 |>.p8 |>.p8 |>.p8
   refine d_back ⟨_, H⟩ (d_val rfl rfl rfl (fun w ⟨Ar, H⟩ => r_nilP rfl rfl) (d_val rfl rfl rfl (fun w ⟨Ar, H⟩ => r_fa rfl fo185_5 rfl) (d_main rfl ?_)))
   obtain ⟨A177, c178, rfl, hc179, hm180, hp181⟩ := H.fA 8 rfl
   replace H := H.p9
   refine s_st rfl rfl rfl ty144 rfl rfl H rfl (Nat.le_of_ble_eq_true rfl) (fun u hu => by simp [Value.cells] at hu; subst hu; rfl) (fun w H => ?_)
   replace H : Hd _ _ _ [blk b67 (redC (.slice A42 J34.us.length c43) (.slice A47 J34.map.length c48) (.slice A52 J34.comb.length c53) (.slice A57 J34.red.length c58) (.slice A62 J34.marks.length c63) J34 C.w C.t C.o p ep R.g hv b41 (.slice A177 ((us ++ [((.slice A171 se77.length c172 : Value), se77)]).length) c178)) 185, blk b89 [.int .i64 a71, .int .i64 a72, .int .i64 a73, .int .i64 a74, .int .i64 a75, .slice A80 se77.length c81, .slice A82 pr79.length c83] 37, osl (kHd kPair) (.slice A42 J34.us.length c43) J34.us, osl kIns (.slice A47 J34.map.length c48) J34.map, osl kIns (.slice A52 J34.comb.length c53) J34.comb, osl kIns (.slice A57 J34.red.length c58) J34.red, osl (kInt .i64) (.slice A62 J34.marks.length c63) J34.marks, prsS (R.g) hv, stgI 253 b41 ([]), osl (kHd (kInt .i64)) (.slice A177 ((us ++ [((.slice A171 se77.length c172 : Value), se77)]).length) c178) (us ++ [((.slice A171 se77.length c172 : Value), se77)])] [rsl (kHd kPair) (.slice A1 C.J.us.length c2) C.J.us, rsl kIns (.slice A6 C.J.map.length c7) C.J.map, rsl kIns (.slice A11 C.J.comb.length c12) C.J.comb, rsl kIns (.slice A16 C.J.red.length c17) C.J.red, rsl (kInt .i64) (.slice A21 C.J.marks.length c22) C.J.marks, rsl kRec (.slice A26 recs.length c27) recs] := H
   replace H := H.p8.p8.p8.p8.p8.p8.p8.p8
   refine d_back ⟨_, H⟩ (d_nil (q_blockN (q_then (c_reg (s_val rfl rfl (r_add (z := ((k + 1 : Nat) : Int)) rfl rfl rfl (by rw [w64 (by omega) (by omega)]; omega)) (s_1 rfl (s_nil ?_)))))))
   have hpart : (Rec.p (⟨a71, a72, a73, a74, a75, .slice A80 se77.length c81, se77, .slice A82 pr79.length c83, pr79⟩ : Rec)).part = R.part := by rw [hRp]; exact Classical.not_not.1 h90
   have hR2 := newR_take hR hx70 (recIn_s hpart h143)
   replace H := H.p7.p9.p8.p8.p8.p8.p8.p8.p9.k9.h7 (A := blk b67 (redC (.slice A42 J34.us.length c43) (.slice A47 J34.map.length c48) (.slice A52 J34.comb.length c53) (.slice A57 J34.red.length c58) (.slice A62 J34.marks.length c63) J34 C.w C.t C.o p ep (({ R with sets := R.sets ++ [se77] } : Red).g) hv b41 (.slice A177 ((us ++ [((.slice A171 se77.length c172 : Value), se77)]).length) c178)) 185) (G := prsS (({ R with sets := R.sets ++ [se77] } : Red).g) hv)
   exact q_round (s := (k, R, hv, undef, us)) (k + 1, ({ R with sets := R.sets ++ [se77] } : Red), hv, .slice A177 ((us ++ [((.slice A171 se77.length c172 : Value), se77)]).length) c178, us ++ [((.slice A171 se77.length c172 : Value), se77)]) ⟨rfl, rfl, rfl, rfl, rfl, rfl, rfl, trivial⟩ ⟨H, hR2, hRp, by (try dsimp only); rw [List.map_append, hus]; rfl, by (try dsimp only); omega, by (try dsimp only); rw [List.length_append]; simp only [List.length_cons, List.length_nil]; omega⟩ (by (try dsimp only); omega)
  refine c_skip (q_blockN (q_then (c_reg (s_val rfl rfl (r_add (z := ((k + 1 : Nat) : Int)) rfl rfl rfl (by rw [w64 (by omega) (by omega)]; omega)) (s_1 rfl (s_nil ?_))))))
  have hpart : (Rec.p (⟨a71, a72, a73, a74, a75, .slice A80 se77.length c81, se77, .slice A82 pr79.length c83, pr79⟩ : Rec)).part = R.part := by rw [hRp]; exact Classical.not_not.1 h90
  have hR2 := newR_take hR hx70 (recIn_no hpart (fun h => h141 h.1) h143)
  replace H := H.p9.p9.p9.p9.p9.p9.p9.p9.p9.k9
  exact q_round (s := (k, R, hv, undef, us)) (k + 1, R, hv, vs, us) ⟨rfl, rfl, rfl, rfl, rfl, rfl, rfl, trivial⟩ ⟨H, hR2, hRp, by (try dsimp only); exact hus, by (try dsimp only); omega, by (try dsimp only); omega⟩ (by (try dsimp only); omega)
 refine c_exit (q_thenE (q_thenE (q_blockE (q_then (c_seq (c_reg (s_k 3 rfl (s_nil (q_then (c_ret (q_ret2 rfl rfl rfl ?_)))))))))))
 have hkk : R = newR J34.us.length p ep (recs.map Rec.p) := by rw [hR, List.take_of_length_le (by omega)]
 clear hR
 subst hkk
 replace H := H.h8 (A := blk b67 (redC (.slice A42 J34.us.length c43) (.slice A47 J34.map.length c48) (.slice A52 J34.comb.length c53) (.slice A57 J34.red.length c58) (.slice A62 J34.marks.length c63) J34 C.w C.t C.o p ep ((newR J34.us.length p ep (recs.map Rec.p)).g) hv b41 vs) 185) (G := prsS ((newR J34.us.length p ep (recs.map Rec.p)).g) hv) (I := osl (kHd (kInt .i64)) vs us)
 exact fin ⟨b67, (.slice A42 J34.us.length c43), (.slice A47 J34.map.length c48), (.slice A52 J34.comb.length c53), (.slice A57 J34.red.length c58), (.slice A62 J34.marks.length c63), J34, hv, b41, vs, us, rfl, rfl, hsj, hus⟩ H
section
variable {w : World} {F : Foot}
theorem rec_of_flat {v : Value} {us : List Rec} (h : (rsl kRecF v (us.map toF)).P w F) (hu : ∀ r ∈ us, (rsl (kInt .i64) r.sv r.set).P w F ∧ (rsl kPair r.pv r.pairs).P w F) : (rsl kRec v us).P w F := by
 obtain ⟨A, m, c, e, h1, h2, h3, cs, h4, h5⟩ := h
 refine ⟨A, m, c, e, by simpa using h1, h2, h3, cs, h4, ?_⟩
 have hcs : cs = (us.map toF).flatMap encRecF := RepsR.flat_eq.1 h5
 subst hcs
 clear h5 h4 h1 e
 induction us with
 | nil => rfl
 | cons r us ih =>
  obtain ⟨g1, g2⟩ := hu r (List.mem_cons_self ..)
  obtain ⟨A1, c1, e1, _⟩ := rsl_form g1
  obtain ⟨A2, c2, e2, _⟩ := rsl_form g2
  refine ⟨encRecF (toF r), (us.map toF).flatMap encRecF, rfl, ⟨?_, g1, g2⟩, ih fun q hq => hu q (List.mem_cons_of_mem _ hq)⟩
  simp [encRec, encRecF, toF, hdrOf, e1, e2]
def nilV : Value := .slice none 0 0
def ordAt (p : Int) (ps : List (Value × List Pair)) (s : Nat) : Rec :=
 match ps[s]? with
 | some x => ⟨4, p, (s : Int), 1, 0, nilV, [], x.1, x.2⟩
 | none => ⟨4, p, (s : Int), 1, 0, nilV, [], nilV, []⟩
def ordR (p : Int) (ps : List (Value × List Pair)) (n : Nat) : List Rec := (List.range n).map (ordAt p ps)
def ordP (ps : List (Value × List Pair)) (s : Nat) : List Pair := match ps[s]? with
 | some x => x.2
 | none => []
theorem ordR_succ (p : Int) (ps : List (Value × List Pair)) (n : Nat) : ordR p ps (n + 1) = ordR p ps n ++ [ordAt p ps n] := by
 unfold ordR; rw [List.range_succ, List.map_append]; rfl
theorem ordR_len (p : Int) (ps : List (Value × List Pair)) (n : Nat) : (ordR p ps n).length = n := by simp [ordR]
theorem ordAt_F {p : Int} {ps : List (Value × List Pair)} {s : Nat} {v : Value} {x : List Pair} (h : ps[s]? = some (v, x)) : toF (ordAt p ps s) = ⟨4, p, (s : Int), 1, 0, ⟨none, 0, 0⟩, hdrOf v⟩ := by
 unfold ordAt; rw [h]; rfl
theorem ordAt_F0 {p : Int} {ps : List (Value × List Pair)} {s : Nat} (h : ¬ s < ps.length) : toF (ordAt p ps s) = ⟨4, p, (s : Int), 1, 0, ⟨none, 0, 0⟩, ⟨none, 0, 0⟩⟩ := by
 unfold ordAt; rw [List.getElem?_eq_none (by omega)]; rfl
theorem ordF_succ {p : Int} {ps : List (Value × List Pair)} {n : Nat} {f : RecF} (h : toF (ordAt p ps n) = f) : (ordR p ps (n + 1)).map toF = (ordR p ps n).map toF ++ [f] := by
 rw [ordR_succ, List.map_append, ← h]; rfl
theorem ordB_succ {p : Int} {ps : List (Value × List Pair)} {n : Nat} {f : RecF} (h : toF (ordAt p ps n) = f) : ((ordR p ps (n + 1)).reverse).map toF = [f] ++ ((ordR p ps n).reverse).map toF := by
 rw [ordR_succ, List.reverse_append, ← h]; rfl
theorem ordR_p (p : Int) (ps : List (Value × List Pair)) (n : Nat) : (ordR p ps n).map Rec.p = allR p (ordP ps) n := by
 unfold ordR allR
 rw [List.map_map]
 refine List.map_congr_left fun s _ => ?_
 simp only [Function.comp, ordAt, ordP, Rec.p]
 cases ps[s]? <;> rfl
theorem ord_rd {p : Int} {ps : List (Value × List Pair)} {n : Nat} {v : Value} (h : (rsl (kHd kPair) v ps).P w F) : ∀ r ∈ ordR p ps n, (rsl (kInt .i64) r.sv r.set).P w F ∧ (rsl kPair r.pv r.pairs).P w F := by
 intro r hr
 obtain ⟨s, _, rfl⟩ := List.mem_map.1 hr
 obtain ⟨_, _, _, _, _, _, _, _, _, h5⟩ := h
 unfold ordAt
 cases e : ps[s]? with
 | none => exact ⟨rsl_nil _ _ _ trivial (by decide), rsl_nil _ _ _ trivial (by decide)⟩
 | some x => exact ⟨rsl_nil _ _ _ trivial (by decide), hd_all h5 _ (at_mem e)⟩
theorem ord_small {p : Int} {ps : List (Value × List Pair)} {n : Nat} {b : Nat} (hn : n ≤ 100) (hp : ∀ s v x, s < n → ps[s]? = some (v, x) → x.length ≤ b) : ∀ r ∈ ordR p ps n, (In64 r.sp ∧ r.set.length ≤ 1000) ∧ r.pairs.length ≤ b := by
 intro r hr
 obtain ⟨s, hs, rfl⟩ := List.mem_map.1 hr
 have hs := List.mem_range.1 hs
 unfold ordAt
 cases e : ps[s]? with
 | none => exact ⟨⟨⟨by show (-9223372036854775808 : Int) ≤ (s : Int); omega, by show (s : Int) ≤ 9223372036854775807; omega⟩, by simp⟩, by simp⟩
 | some x => exact ⟨⟨⟨by show (-9223372036854775808 : Int) ≤ (s : Int); omega, by show (s : Int) ≤ 9223372036854775807; omega⟩, by simp⟩, hp s x.1 x.2 hs e⟩
theorem ord_next {ps : List (Value × List Pair)} {s b : Nat} {v : Value} {x : List Pair} (h : ∀ i v x, i < s → ps[i]? = some (v, x) → x.length ≤ b) (hx : ps[s]? = some (v, x)) (hb : x.length ≤ b) : ∀ i v x, i < s + 1 → ps[i]? = some (v, x) → x.length ≤ b := by
 intro i v' x' hi e
 rcases Nat.lt_or_ge i s with h1 | h1
 ·exact h i v' x' h1 e
 ·obtain rfl : i = s := by omega
  rw [hx] at e
  cases e
  exact hb
theorem ord_next0 {ps : List (Value × List Pair)} {s b : Nat} (h : ∀ i v x, i < s → ps[i]? = some (v, x) → x.length ≤ b) (hs : ¬ s < ps.length) : ∀ i v x, i < s + 1 → ps[i]? = some (v, x) → x.length ≤ b := by
 intro i v' x' hi e
 have := lt_of_some e
 exact h i v' x' (by omega) e
def moreR (p : Int) (rs : List Rec) : List Rec := rs.filter fun r => decide (r.part ≠ p ∨ r.kind ≠ 4)
theorem moreR_yes {p : Int} {rs : List Rec} {k : Nat} {x : Rec} (hx : rs[k]? = some x) (h : x.part ≠ p ∨ x.kind ≠ 4) : moreR p (rs.take (k + 1)) = moreR p (rs.take k) ++ [x] := by
 unfold moreR
 rw [take_snoc hx, List.filter_append]
 congr 1
 exact List.filter_cons_of_pos (p := fun r : Rec => decide (r.part ≠ p ∨ r.kind ≠ 4)) (decide_eq_true h)
theorem moreR_no {p : Int} {rs : List Rec} {k : Nat} {x : Rec} (hx : rs[k]? = some x) (h : ¬ (x.part ≠ p ∨ x.kind ≠ 4)) : moreR p (rs.take (k + 1)) = moreR p (rs.take k) := by
 unfold moreR
 rw [take_snoc hx, List.filter_append]
 have e : [x].filter (fun r : Rec => decide (r.part ≠ p ∨ r.kind ≠ 4)) = [] := List.filter_cons_of_neg (p := fun r : Rec => decide (r.part ≠ p ∨ r.kind ≠ 4)) (by rw [decide_eq_false h]; decide)
 rw [e, List.append_nil]
theorem moreR_len (p : Int) (rs : List Rec) : (moreR p rs).length ≤ rs.length := List.length_filter_le _ _
theorem more_rd {p : Int} {rs : List Rec} {v : Value} (h : (rsl kRec v rs).P w F) : ∀ r ∈ moreR p rs, (rsl (kInt .i64) r.sv r.set).P w F ∧ (rsl kPair r.pv r.pairs).P w F := by
 intro r hr
 obtain ⟨i, hi⟩ := List.getElem?_of_mem (List.mem_filter.1 hr).1
 obtain ⟨A, c, rfl, _⟩ := rsl_form h
 exact (rec_at h hi).2.2
theorem more_not {p : Int} {rs : List Rec} : ∀ x ∈ (moreR p rs).map Rec.p, x.part ≠ p ∨ x.kind ≠ 4 := by
 intro x hx
 obtain ⟨r, hr, rfl⟩ := List.mem_map.1 hx
 exact of_decide_eq_true (List.mem_filter.1 hr).2
end
theorem SameJ.out {A B : Job} (h : SameJ A B) (D : Dig) (R : Red) : outR D A R = outR D B R := by
 unfold outR ofR
 rw [h.len, h.red, h.fuel]
theorem home_pos {C : Cf} {p : Int} (hC : mayC C) (h0 : 0 ≤ p) (h1 : p < C.J.parts) : homeC C p ≠ 0 := by
 have e : homeC C p = 1 + p.tmod C.w := if_neg (fun h => h.elim (fun h => h hC) (fun h => by omega))
 have := Int.tmod_nonneg C.w h0
 omega
theorem opens_config {P : Program} {t j i : TypeId}
  (hs : stOf P t = some [(j, 0, 9), (i, 9, 1), (i, 10, 1), (i, 11, 1)]) (hc : P.cellsOf t = 12) (hi : P.underlying i = some (.int .i64))
  {H : Type} (enc : TypeId × Value → H) (w : World) (fuel : Nat) (cs : List Value) (x : DataW H × List MemPlace) (h : DataW.trod enc P w 0 (fun _ => true) true fuel t cs = some x) :
  ∃ (js : List Value) (m : Nat) (y : DataW H × List MemPlace) (n1 n2 n3 : Int), cs = js ++ [.int .i64 n1, .int .i64 n2, .int .i64 n3] ∧ DataW.trod enc P w 0 (fun _ => true) true m j js = some y ∧ js.length = 9 ∧ (In64 n1 ∧ In64 n2 ∧ In64 n3) := by
 obtain ⟨hl, n, hf⟩ := open_st hs h
 rw [hc] at hl
 match cs, hl with
 | [c0, c1, c2, c3, c4, c5, c6, c7, c8, c9, c10, c11], _ =>
  obtain ⟨y0, g0⟩ := hf 0 _ _ _ rfl
  obtain ⟨y1, g1⟩ := hf 1 _ _ _ rfl
  obtain ⟨y2, g2⟩ := hf 2 _ _ _ rfl
  obtain ⟨y3, g3⟩ := hf 3 _ _ _ rfl
  obtain ⟨a1, r1, w1⟩ := opens_int hi enc w n _ _ g1
  obtain ⟨a2, r2, w2⟩ := opens_int hi enc w n _ _ g2
  obtain ⟨a3, r3, w3⟩ := opens_int hi enc w n _ _ g3
  have q1 : [c9] = [Value.int .i64 a1] := r1
  have q2 : [c10] = [Value.int .i64 a2] := r2
  have q3 : [c11] = [Value.int .i64 a3] := r3
  simp only [List.cons.injEq, and_true] at q1 q2 q3
  subst q1 q2 q3
  exact ⟨[c0, c1, c2, c3, c4, c5, c6, c7, c8], n, y0, a1, a2, a3, rfl, g0, rfl, w1, w2, w3⟩
theorem sameInts_ok (v1 v2 : Value) (xs ys : List Int) :
    Cn Tryz.prog 33 [v1, v2] [] [rsl (kInt .i64) v1 xs, rsl (kInt .i64) v2 ys] (fun v Bs => v = .bool (decide (xs = ys)) ∧ Bs = []) := by
 intro w0 F0 H
 obtain ⟨A1, c2, rfl, hc3, hm4, hp5⟩ := H.fR 0 rfl
 obtain ⟨A6, c7, rfl, hc8, hm9, hp10⟩ := H.fR 1 rfl
 refine enter Tryz.func33 rfl rfl (Nat.le_of_ble_eq_true rfl) (c_seq (c_reg (s_1 rfl (s_nil (q_then ?_)))))
 replace H : Hd _ _ _ [] [rsl (kInt .i64) (.slice A1 xs.length c2) xs, rsl (kInt .i64) (.slice A6 ys.length c7) ys] := H
 refine c_seq (c_seq (c_reg (s_1 rfl (s_val rfl rfl (r_lenL rfl un24 rfl) (s_1 rfl (s_val rfl rfl (r_lenL rfl un24 rfl) (s_val rfl rfl (r_ne rfl rfl rfl) (s_nil (q_then ?_)))))))))
 refine c_dec rfl (fun h11 => ?_) (fun h11 => ?_)
 ·refine c_seq (c_reg (s_1 rfl (s_nil (q_then (c_ret (q_thenR (q_ret1 rfl rfl ?_)))))))
  have e : ¬ xs = ys := fun e => h11 (by rw [e])
  exact fin ⟨by rw [decide_eq_false e] <;> rfl, rfl⟩ H
 refine c_skip (q_then (c_seq (c_seq (c_reg (s_1 rfl (s_nil (q_then (c_block ?_))))))))
 have hle : xs.length = ys.length := by omega
 refine c_loop (σ := Nat) (fun k => [(0, .slice A1 xs.length c2), (1, .slice A6 ys.length c7), (5, .int .i64 ((k : Nat) : Int))]) (fun k w => (Hd w0 F0 w [] [rsl (kInt .i64) (.slice A1 xs.length c2) xs, rsl (kInt .i64) (.slice A6 ys.length c7) ys]) ∧ (k ≤ xs.length) ∧ (xs.length = ys.length) ∧ (xs.take k = ys.take k)) (fun k => xs.length - k) 0 ⟨rfl, rfl, rfl, trivial⟩ ⟨H, by omega, hle, rfl⟩ ?_
 rintro k w ⟨H, hk, hle, ht⟩
 refine c_seq (c_seq (c_reg (s_k 2 rfl (s_val rfl rfl (r_lenL rfl un24 rfl) (s_val rfl rfl (r_lt rfl rfl rfl) (s_nil (q_then ?_)))))))
 refine c_dec rfl (fun h12 => ?_) (fun h12 => ?_)
 ·refine c_skip (q_then (c_seq (c_block (c_seq (c_draw mo (by kernel_rfl) H (u_k 2 rfl ?_))))))
  obtain ⟨x13, hx14⟩ : ∃ z9, xs[k]? = some z9 := ⟨_, List.getElem?_eq_getElem (show k < xs.length by omega)⟩
  have th15 := H.thR 0 rfl hx14
  refine u_val rfl rfl (fun w H => r_iaE (p := oOf A1 + k * 1) rfl sl24 rfl rfl (by omega) (by omega) th15 rfl) (u_val rfl rfl (fun w H => r_ld rfl ty3 rfl (H.elR 0 rfl hx14 (q := 0) rfl rfl)) (u_k 2 rfl ?_))
  obtain ⟨x16, hx17⟩ : ∃ z9, ys[k]? = some z9 := ⟨_, List.getElem?_eq_getElem (show k < ys.length by omega)⟩
  have th18 := H.thR 1 rfl hx17
  refine u_val rfl rfl (fun w H => r_iaE (p := oOf A6 + k * 1) rfl sl24 rfl rfl (by omega) (by omega) th18 rfl) (u_val rfl rfl (fun w H => r_ld rfl ty3 rfl (H.elR 1 rfl hx17 (q := 0) rfl rfl)) (u_val rfl rfl (fun w H => r_ne rfl rfl rfl) (u_end (fun w H => (q_then ?_)))))
  refine c_dec rfl (fun h19 => ?_) (fun h19 => ?_)
  ·refine c_seq (c_reg (s_1 rfl (s_nil (q_then (c_ret (q_blockR (q_thenR (q_thenR (q_blockR (q_thenR (q_ret1 rfl rfl ?_)))))))))))
   have e : ¬ xs = ys := fun e => h19 (by rw [e, hx17] at hx14; exact (Option.some.inj hx14).symm)
   exact fin ⟨by rw [decide_eq_false e] <;> rfl, rfl⟩ H
  refine c_skip (q_blockN (q_then (c_reg (s_1 rfl (s_val rfl rfl (r_add (z := ((k + 1 : Nat) : Int)) rfl rfl rfl (by rw [w64 (by omega) (by omega)]; omega)) (s_1 rfl (s_nil ?_)))))))
  have e : x13 = x16 := Classical.not_not.1 h19
  subst e
  exact q_round (s := k) (k + 1) ⟨rfl, rfl, rfl, trivial⟩ ⟨H, by omega, hle, take_more hx14 hx17 ht⟩ (by (try dsimp only); omega)
 refine c_exit (q_thenE (q_thenE (q_blockE (q_then (c_seq (c_reg (s_1 rfl (s_nil (q_then (c_ret (q_ret1 rfl rfl ?_)))))))))))
 have e : xs = ys := by rw [← take_all (xs := xs) (k := k) (by omega), ← take_all (xs := ys) (k := k) (by omega)]; exact ht
 exact fin ⟨by rw [decide_eq_true e] <;> rfl, rfl⟩ H
theorem greatRecords_ok (vrs : Value) (rs : List Rec) (n : Int) :
    Cn Tryz.prog 20 [vrs, .int .i64 n] [] [rsl kRec vrs rs] (fun v Bs => v = .bool (greatR rs n) ∧ Bs = []) := by
 intro w0 F0 H
 obtain ⟨A1, c2, rfl, hc3, hm4, hp5⟩ := H.fR 0 rfl
 refine enter Tryz.func20 rfl rfl (Nat.le_of_ble_eq_true rfl) (c_seq (c_reg (s_1 rfl (s_nil (q_then ?_)))))
 replace H : Hd _ _ _ [] [rsl kRec (.slice A1 rs.length c2) rs] := H
 refine c_seq (c_seq (c_reg (s_1 rfl (s_nil (q_then (c_block (c_loop (σ := Nat) (fun k => [(0, .slice A1 rs.length c2), (1, .int .i64 n), (5, .int .i64 ((k : Nat) : Int))]) (fun k w => (Hd w0 F0 w [] [rsl kRec (.slice A1 rs.length c2) rs]) ∧ (k ≤ rs.length) ∧ (∀ r ∈ rs.take k, r.set.length ≤ 20 ∧ greatP r.pairs 50 = false)) (fun k => rs.length - k) 0 ⟨rfl, rfl, rfl, trivial⟩ ⟨H, by omega, by simp⟩ ?_)))))))
 rintro k w ⟨H, hk, hn⟩
 refine c_seq (c_seq (c_reg (s_k 2 rfl (s_val rfl rfl (r_lenL rfl un29 rfl) (s_val rfl rfl (r_lt rfl rfl rfl) (s_1 rfl ?_))))))
 refine s_dec (d := 10) rfl (fun h6 => ?_) (fun h6 => ?_)
 ·refine s_1 rfl (s_val rfl rfl (r_lenL rfl un29 rfl) (s_1 rfl (s_val rfl rfl (r_le rfl rfl rfl) (s_1 rfl (s_nil (q_then ?_))))))
  refine c_dec rfl (fun h7 => ?_) (fun h7 => ?_)
  ·refine c_skip (q_then (c_seq (c_block (c_seq (c_reg (s_k 2 rfl ?_))))))
   obtain ⟨⟨a10, a11, a12, a13, a14, sv15, se16, pv17, pr18⟩, hx9⟩ : ∃ z9, rs[k]? = some z9 := ⟨_, List.getElem?_eq_getElem (show k < rs.length by omega)⟩
   obtain ⟨A19, c20, A21, c22, rfl, rfl, m23, m24, m25, m26⟩ := H.nestRr 0 rfl hx9
   have th27 := H.thRr 0 rfl hx9
   refine s_val rfl rfl (r_iaE (p := oOf A1 + k * 7) rfl sl29 rfl rfl (by omega) (by omega) th27 rfl) (s_val rfl rfl (r_fa rfl fo37_5 rfl) (s_val rfl rfl (r_ld rfl ty24 rfl (H.elRr 0 rfl hx9 (q := 5) rfl rfl)) (s_val rfl rfl (r_lenL rfl un24 rfl) (s_val rfl rfl (r_gt rfl rfl rfl) (s_1 rfl ?_)))))
   refine s_dec (d := 25) rfl (fun h28 => ?_) (fun h28 => ?_)
   ·exact s_k 7 rfl (s_nil (q_then (c_yes rfl (c_seq (c_reg (s_1 rfl (s_nil (q_then (c_ret (q_blockR (q_thenR (q_thenR (q_blockR (q_thenR (q_ret1 rfl rfl (fin ⟨congrArg Value.bool (greatR_hit hx9 (.inl (by (try dsimp only); omega))), rfl⟩ H))))))))))))))))
   refine s_k 2 rfl ?_
   have th29 := H.thRr 0 rfl hx9
   refine s_val rfl rfl (r_iaE (p := oOf A1 + k * 7) rfl sl29 rfl rfl (by omega) (by omega) th29 rfl) (s_val rfl rfl (r_fa rfl fo37_6 rfl) (s_val rfl rfl (r_ld rfl ty35 rfl (H.elRr 0 rfl hx9 (q := 6) rfl rfl)) (sc (greatPairs_ok (.slice A21 pr18.length c22) pr18 50) H (lX (fun F hA hR => rec_pairs (hR _ (List.mem_of_getElem? (i := 0) rfl)) hx9) l0) rfl rfl (e_fn kn23 rfl rfl) ?_)))
   rintro _ _ w ⟨rfl, rfl⟩ H
   refine s_1 rfl (s_nil (q_then ?_))
   refine c_cond (b := greatP pr18 50) rfl (fun h30 => ?_) (fun h30 => ?_)
   ·exact c_seq (c_reg (s_1 rfl (s_nil (q_then (c_ret (q_blockR (q_thenR (q_thenR (q_blockR (q_thenR (q_ret1 rfl rfl (fin ⟨congrArg Value.bool (greatR_hit hx9 (.inr h30)), rfl⟩ H))))))))))))
   exact c_skip (q_blockN (q_then (c_reg (s_1 rfl (s_val rfl rfl (r_add (z := ((k + 1 : Nat) : Int)) rfl rfl rfl (by rw [w64 (by omega) (by omega)]; omega)) (s_1 rfl (s_nil (q_round (s := k) (k + 1) ⟨rfl, rfl, rfl, trivial⟩ ⟨H, by (try dsimp only); omega, take_prop hn hx9 ⟨by (try dsimp only); omega, h30⟩⟩ (by (try dsimp only); omega)))))))))
  exact c_exit (q_thenE (q_thenE (q_blockE (q_then (c_seq (c_reg (s_1 rfl (s_val rfl rfl (r_lenL rfl un29 rfl) (s_1 rfl (s_val rfl rfl (r_gt rfl rfl rfl) (s_1 rfl (s_nil (q_then (c_ret (q_ret1 rfl rfl (fin ⟨congrArg Value.bool (greatR_end hn (by omega)), rfl⟩ H))))))))))))))))
 exact s_k 5 rfl (s_nil (q_then (c_no rfl (c_exit (q_thenE (q_thenE (q_blockE (q_then (c_seq (c_reg (s_1 rfl (s_val rfl rfl (r_lenL rfl un29 rfl) (s_1 rfl (s_val rfl rfl (r_gt rfl rfl rfl) (s_1 rfl (s_nil (q_then (c_ret (q_ret1 rfl rfl (fin ⟨congrArg Value.bool (greatR_end hn (by omega)), rfl⟩ H))))))))))))))))))))
theorem ended_ok (vxs : Value) (xs : List RecF) :
    Cn Tryz.prog 90 [vxs] [] [rsl kRecF vxs xs] (fun v Bs => v = .tuple #[.int .i64 ((endedL xs).1), .int .i64 ((endedL xs).2.1), .int .i64 ((endedL xs).2.2.1), .bool ((endedL xs).2.2.2)] ∧ Bs = []) := by
 intro w0 F0 H
 obtain ⟨A1, c2, rfl, hc3, hm4, hp5⟩ := H.fR 0 rfl
 refine enter Tryz.func90 rfl rfl (Nat.le_of_ble_eq_true rfl) (c_seq (c_reg (s_k 4 rfl (s_nil (q_then ?_)))))
 replace H : Hd _ _ _ [] [rsl kRecF (.slice A1 xs.length c2) xs] := H
 refine c_seq (c_seq (c_reg (s_1 rfl (s_val rfl rfl (r_lenL rfl un29 rfl) (s_1 rfl (s_nil (q_then (c_block (c_loop (σ := Nat) (fun k => [(8, .slice A1 xs.length c2), (9, .int .i64 ((xs.length : Nat) : Int)), (10, .int .i64 ((k : Nat) : Int))]) (fun k w => (Hd w0 F0 w [] [rsl kRecF (.slice A1 xs.length c2) xs]) ∧ (k ≤ xs.length) ∧ (endedL (xs.drop k) = endedL xs)) (fun k => xs.length - k) 0 ⟨rfl, rfl, rfl, trivial⟩ ⟨H, by (try dsimp only); omega, rfl⟩ ?_)))))))))
 rintro k w ⟨H, hk, hd⟩
 refine c_seq (c_reg (s_val rfl rfl (r_lt rfl rfl rfl) (s_nil (q_then (c_seq ?_)))))
 refine c_dec rfl (fun h6 => ?_) (fun h6 => ?_)
 ·refine c_skip (q_then (c_seq (c_block (c_seq (c_reg ?_)))))
  obtain ⟨x7, hx8⟩ : ∃ z9, xs[k]? = some z9 := ⟨_, List.getElem?_eq_getElem (show k < xs.length by omega)⟩
  have th9 := H.thR 0 rfl hx8
  refine s_val rfl rfl (r_iaE (p := oOf A1 + k * 7) rfl sl29 rfl rfl (by omega) (by omega) th9 rfl) (s_val rfl rfl (r_ldA (cs := [.int .i64 x7.kind, .int .i64 x7.part, .int .i64 x7.sp, .int .i64 x7.att, .int .i64 x7.why, .slice x7.hs.A x7.hs.n x7.hs.c, .slice x7.hp.A x7.hp.n x7.hp.c]) rfl ty37 rfl rfl (H.elsR 0 rfl hx8 rfl)) (s_alloc rfl rfl rfl zr37 H (fun b10 w H => (s_st rfl rfl rfl ty37 rfl rfl H rfl (Nat.le_of_ble_eq_true rfl) (fun u hu => by simp [Value.cells] at hu; rcases hu with rfl | rfl | rfl | rfl | rfl | rfl | rfl <;> rfl) (fun w H => ?_)))))
  replace H := H.h1 (A := blk b10 [.int .i64 x7.kind, .int .i64 x7.part, .int .i64 x7.sp, .int .i64 x7.att, .int .i64 x7.why, .slice x7.hs.A x7.hs.n x7.hs.c, .slice x7.hp.A x7.hp.n x7.hp.c] 37)
  refine s_nil (q_then (c_block (c_seq (c_reg (s_val rfl rfl (r_fa rfl fo37_0 rfl) (s_val rfl rfl (r_ld rfl ty3 rfl (H.cellI 0 rfl rfl)) (s_val rfl rfl (r_eq rfl rfl rfl) (s_1 rfl (s_nil (q_then ?_))))))))))
  refine c_dec rfl (fun h11 => ?_) (fun h11 => ?_)
  ·refine c_seq (c_reg (s_k 4 rfl (s_nil (q_then (c_ret (q_blockR (q_blockR (q_thenR (q_thenR (q_blockR (q_thenR (q_ret4 rfl rfl rfl rfl rfl ?_))))))))))))
   have e : endedL xs = (1, 0, 0, false) := by rw [← hd, drop_at hx8, endedL, if_pos h11]
   replace H := H.nil
   exact fin ⟨by rw [e] <;> rfl, rfl⟩ H
  refine c_seq (c_reg (s_val rfl rfl (r_fa rfl fo37_0 rfl) (s_val rfl rfl (r_ld rfl ty3 rfl (H.cellI 0 rfl rfl)) (s_val rfl rfl (r_eq rfl rfl rfl) (s_1 rfl ?_)))))
  refine s_dec (d := 22) rfl (fun h12 => ?_) (fun h12 => ?_)
  ·refine s_val rfl rfl (r_fa rfl fo37_3 rfl) (s_val rfl rfl (r_ld rfl ty3 rfl (H.cellI 0 rfl rfl)) (s_val rfl rfl (r_eq rfl rfl rfl) (s_k 2 rfl (s_nil (q_then ?_)))))
   refine c_dec rfl (fun h13 => ?_) (fun h13 => ?_)
   ·refine c_seq (c_draw mo (by kernel_rfl) H (u_val rfl rfl (fun w H => r_fa rfl fo37_4 rfl) (u_val rfl rfl (fun w H => r_ld rfl ty3 rfl (H.cellI 0 rfl rfl)) (u_val rfl rfl (fun w H => r_fa rfl fo37_1 rfl) (u_val rfl rfl (fun w H => r_ld rfl ty3 rfl (H.cellI 0 rfl rfl)) (u_k 4 rfl (u_end (fun w H => (q_then (c_ret (q_blockR (q_blockR (q_thenR (q_thenR (q_blockR (q_thenR (q_ret4 rfl rfl rfl rfl rfl ?_)))))))))))))))))
    have e : endedL xs = (2, x7.why, x7.part, true) := by rw [← hd, drop_at hx8, endedL, if_neg h11, if_pos h12, if_pos h13]
    replace H := H.nil
    exact fin ⟨by rw [e] <;> rfl, rfl⟩ H
   refine c_seq (c_reg (s_val rfl rfl (r_fa rfl fo37_0 rfl) (s_val rfl rfl (r_ld rfl ty3 rfl (H.cellI 0 rfl rfl)) (s_val rfl rfl (r_eq rfl rfl rfl) (s_1 rfl (s_nil (q_then ?_)))))))
   refine c_dec rfl (fun h14 => ?_) (fun h14 => ?_)
   ·refine c_seq (c_draw mo (by kernel_rfl) H (u_val rfl rfl (fun w H => r_fa rfl fo37_4 rfl) (u_val rfl rfl (fun w H => r_ld rfl ty3 rfl (H.cellI 0 rfl rfl)) (u_val rfl rfl (fun w H => r_fa rfl fo37_2 rfl) (u_val rfl rfl (fun w H => r_ld rfl ty3 rfl (H.cellI 0 rfl rfl)) (u_k 4 rfl (u_end (fun w H => (q_then (c_ret (q_blockR (q_blockR (q_thenR (q_thenR (q_blockR (q_thenR (q_ret4 rfl rfl rfl rfl rfl ?_)))))))))))))))))
    have e : endedL xs = (2, x7.why, x7.sp, false) := by rw [← hd, drop_at hx8, endedL, if_neg h11, if_pos h14, if_neg h13]
    replace H := H.nil
    exact fin ⟨by rw [e] <;> rfl, rfl⟩ H
   exact absurd h12 h14
  refine s_k 5 rfl (s_nil (q_then (c_no rfl (c_seq (c_reg (s_val rfl rfl (r_fa rfl fo37_0 rfl) (s_val rfl rfl (r_ld rfl ty3 rfl (H.cellI 0 rfl rfl)) (s_val rfl rfl (r_eq rfl rfl rfl) (s_1 rfl (s_nil (q_then ?_)))))))))))
  refine c_dec rfl (fun h15 => ?_) (fun h15 => ?_)
  ·exact absurd h15 h12
  refine c_skip (q_blockN (q_blockN (q_then (c_reg (s_val rfl rfl (r_add (z := ((k + 1 : Nat) : Int)) rfl rfl rfl (by rw [w64 (by omega) (by omega)]; omega)) (s_1 rfl (s_nil ?_)))))))
  have hd2 : endedL (xs.drop (k + 1)) = endedL xs := by rw [← hd, drop_at hx8, endedL, if_neg h11, if_neg h15]
  replace H := H.nil
  exact q_round (s := k) (k + 1) ⟨rfl, rfl, rfl, trivial⟩ ⟨H, by (try dsimp only); omega, hd2⟩ (by (try dsimp only); omega)
 refine c_exit (q_thenE (q_thenE (q_blockE (q_then (c_seq (c_reg (s_k 4 rfl (s_nil (q_then (c_ret (q_ret4 rfl rfl rfl rfl rfl ?_)))))))))))
 have e : endedL xs = (0, 0, 0, false) := by rw [← hd, List.drop_eq_nil_of_le (by omega)]; rfl
 exact fin ⟨by rw [e] <;> rfl, rfl⟩ H
theorem won_ok (vxs : Value) (xs : List RecF) (s : Int) :
    Cn Tryz.prog 91 [vxs, .int .i64 s] [] [rsl kRecF vxs xs] (fun v Bs => v = .tuple #[.int .i64 ((wonL s xs).1), .bool ((wonL s xs).2)] ∧ Bs = []) := by
 intro w0 F0 H
 obtain ⟨A1, c2, rfl, hc3, hm4, hp5⟩ := H.fR 0 rfl
 refine enter Tryz.func91 rfl rfl (Nat.le_of_ble_eq_true rfl) (c_seq (c_reg (s_k 2 rfl (s_nil (q_then ?_)))))
 replace H : Hd _ _ _ [] [rsl kRecF (.slice A1 xs.length c2) xs] := H
 refine c_seq (c_seq (c_reg (s_1 rfl (s_val rfl rfl (r_lenL rfl un29 rfl) (s_1 rfl (s_nil (q_then (c_block (c_loop (σ := Nat) (fun k => [(1, .int .i64 s), (8, .slice A1 xs.length c2), (9, .int .i64 ((xs.length : Nat) : Int)), (10, .int .i64 ((k : Nat) : Int))]) (fun k w => (Hd w0 F0 w [] [rsl kRecF (.slice A1 xs.length c2) xs]) ∧ (k ≤ xs.length) ∧ (wonL s (xs.drop k) = wonL s xs)) (fun k => xs.length - k) 0 ⟨rfl, rfl, rfl, rfl, trivial⟩ ⟨H, by (try dsimp only); omega, rfl⟩ ?_)))))))))
 rintro k w ⟨H, hk, hd⟩
 refine c_seq (c_reg (s_val rfl rfl (r_lt rfl rfl rfl) (s_nil (q_then (c_seq ?_)))))
 refine c_dec rfl (fun h6 => ?_) (fun h6 => ?_)
 ·refine c_skip (q_then (c_seq (c_block (c_seq (c_reg ?_)))))
  obtain ⟨x7, hx8⟩ : ∃ z9, xs[k]? = some z9 := ⟨_, List.getElem?_eq_getElem (show k < xs.length by omega)⟩
  have th9 := H.thR 0 rfl hx8
  refine s_val rfl rfl (r_iaE (p := oOf A1 + k * 7) rfl sl29 rfl rfl (by omega) (by omega) th9 rfl) (s_val rfl rfl (r_ldA (cs := [.int .i64 x7.kind, .int .i64 x7.part, .int .i64 x7.sp, .int .i64 x7.att, .int .i64 x7.why, .slice x7.hs.A x7.hs.n x7.hs.c, .slice x7.hp.A x7.hp.n x7.hp.c]) rfl ty37 rfl rfl (H.elsR 0 rfl hx8 rfl)) (s_alloc rfl rfl rfl zr37 H (fun b10 w H => (s_st rfl rfl rfl ty37 rfl rfl H rfl (Nat.le_of_ble_eq_true rfl) (fun u hu => by simp [Value.cells] at hu; rcases hu with rfl | rfl | rfl | rfl | rfl | rfl | rfl <;> rfl) (fun w H => ?_)))))
  replace H := H.h1 (A := blk b10 [.int .i64 x7.kind, .int .i64 x7.part, .int .i64 x7.sp, .int .i64 x7.att, .int .i64 x7.why, .slice x7.hs.A x7.hs.n x7.hs.c, .slice x7.hp.A x7.hp.n x7.hp.c] 37)
  refine s_nil (q_then (c_seq (c_reg (s_val rfl rfl (r_fa rfl fo37_0 rfl) (s_val rfl rfl (r_ld rfl ty3 rfl (H.cellI 0 rfl rfl)) (s_val rfl rfl (r_eq rfl rfl rfl) (s_1 rfl ?_)))))))
  refine s_dec (d := 17) rfl (fun h11 => ?_) (fun h11 => ?_)
  ·refine s_val rfl rfl (r_fa rfl fo37_2 rfl) (s_val rfl rfl (r_ld rfl ty3 rfl (H.cellI 0 rfl rfl)) (s_1 rfl (s_val rfl rfl (r_eq rfl rfl rfl) (s_1 rfl (s_nil (q_then ?_))))))
   refine c_dec rfl (fun h12 => ?_) (fun h12 => ?_)
   ·refine c_seq (c_reg (s_val rfl rfl (r_fa rfl fo37_3 rfl) (s_val rfl rfl (r_ld rfl ty3 rfl (H.cellI 0 rfl rfl)) (s_k 2 rfl (s_nil (q_then (c_ret (q_blockR (q_thenR (q_thenR (q_blockR (q_thenR (q_ret2 rfl rfl rfl ?_)))))))))))))
    have e : wonL s xs = (x7.att, true) := by rw [← hd, drop_at hx8, wonL, if_pos ⟨h11, h12⟩]
    replace H := H.nil
    exact fin ⟨by rw [e] <;> rfl, rfl⟩ H
   refine c_skip (q_blockN (q_then (c_reg (s_val rfl rfl (r_add (z := ((k + 1 : Nat) : Int)) rfl rfl rfl (by rw [w64 (by omega) (by omega)]; omega)) (s_1 rfl (s_nil ?_))))))
   have hd2 : wonL s (xs.drop (k + 1)) = wonL s xs := by rw [← hd, drop_at hx8, wonL, if_neg (fun h => h12 h.2)]
   replace H := H.nil
   exact q_round (s := k) (k + 1) ⟨rfl, rfl, rfl, rfl, trivial⟩ ⟨H, by (try dsimp only); omega, hd2⟩ (by (try dsimp only); omega)
  refine s_k 5 rfl (s_nil (q_then (c_no rfl (c_skip (q_blockN (q_then (c_reg (s_val rfl rfl (r_add (z := ((k + 1 : Nat) : Int)) rfl rfl rfl (by rw [w64 (by omega) (by omega)]; omega)) (s_1 rfl (s_nil ?_))))))))))
  have hd2 : wonL s (xs.drop (k + 1)) = wonL s xs := by rw [← hd, drop_at hx8, wonL, if_neg (fun h => h11 h.1)]
  replace H := H.nil
  exact q_round (s := k) (k + 1) ⟨rfl, rfl, rfl, rfl, trivial⟩ ⟨H, by (try dsimp only); omega, hd2⟩ (by (try dsimp only); omega)
 refine c_exit (q_thenE (q_thenE (q_blockE (q_then (c_seq (c_reg (s_k 2 rfl (s_nil (q_then (c_ret (q_ret2 rfl rfl rfl ?_)))))))))))
 have e : wonL s xs = (0, false) := by rw [← hd, List.drop_eq_nil_of_le (by omega)]; rfl
 exact fin ⟨by rw [e] <;> rfl, rfl⟩ H
theorem winners_ok (vxs : Value) (xs : List RecF) (hb : xs.length ≤ 1000000) :
    Cn Tryz.prog 92 [vxs] [] [rsl kRecF vxs xs] (fun v Bs => Bs = [osl (kInt .i64) v (winL xs)]) := by
 intro w0 F0 H
 obtain ⟨A1, c2, rfl, hc3, hm4, hp5⟩ := H.fR 0 rfl
 refine enter Tryz.func92 rfl rfl (Nat.le_of_ble_eq_true rfl) (c_seq (c_reg (s_1 rfl (s_nil (q_then ?_)))))
 replace H : Hd _ _ _ [] [rsl kRecF (.slice A1 xs.length c2) xs] := H
 refine c_seq (c_reg (s_1 rfl (s_nil (q_then (c_seq (c_seq (c_reg (s_1 rfl (s_val rfl rfl (r_lenL rfl un29 rfl) (s_1 rfl (s_nil (q_then (c_block ?_)))))))))))))
 replace H := H.newnil (kInt .i64)
 refine c_loop (σ := Nat × Value) (fun (k, l) => [(2, .slice none 0 0), (3, l), (6, .slice A1 xs.length c2), (7, .int .i64 ((xs.length : Nat) : Int)), (8, .int .i64 ((k : Nat) : Int))]) (fun (k, l) w => (Hd w0 F0 w [osl (kInt .i64) l (wlF (xs.take k))] [rsl kRecF (.slice A1 xs.length c2) xs]) ∧ (k ≤ xs.length)) (fun (k, l) => xs.length - k) (0, .slice none 0 0) ⟨rfl, rfl, rfl, rfl, rfl, trivial⟩ ⟨H, by (try dsimp only); omega⟩ ?_
 rintro ⟨k, l⟩ w ⟨H, hk⟩
 have hwl := wl_len (xs.take k)
 have hjt : (xs.take k).length ≤ xs.length := by simp; omega
 refine c_seq (c_reg (s_val rfl rfl (r_lt rfl rfl rfl) (s_nil (q_then (c_seq ?_)))))
 refine c_dec rfl (fun h6 => ?_) (fun h6 => ?_)
 ·refine c_skip (q_then (c_seq (c_block (c_seq (c_reg ?_)))))
  obtain ⟨x7, hx8⟩ : ∃ z9, xs[k]? = some z9 := ⟨_, List.getElem?_eq_getElem (show k < xs.length by omega)⟩
  have th9 := H.thR 0 rfl hx8
  refine s_val rfl rfl (r_iaE (p := oOf A1 + k * 7) rfl sl29 rfl rfl (by omega) (by omega) th9 rfl) (s_val rfl rfl (r_ldA (cs := [.int .i64 x7.kind, .int .i64 x7.part, .int .i64 x7.sp, .int .i64 x7.att, .int .i64 x7.why, .slice x7.hs.A x7.hs.n x7.hs.c, .slice x7.hp.A x7.hp.n x7.hp.c]) rfl ty37 rfl rfl (H.elsR 0 rfl hx8 rfl)) (s_alloc rfl rfl rfl zr37 H (fun b10 w H => (s_st rfl rfl rfl ty37 rfl rfl H rfl (Nat.le_of_ble_eq_true rfl) (fun u hu => by simp [Value.cells] at hu; rcases hu with rfl | rfl | rfl | rfl | rfl | rfl | rfl <;> rfl) (fun w H => ?_)))))
  replace H := H.h2 (A := blk b10 [.int .i64 x7.kind, .int .i64 x7.part, .int .i64 x7.sp, .int .i64 x7.att, .int .i64 x7.why, .slice x7.hs.A x7.hs.n x7.hs.c, .slice x7.hp.A x7.hp.n x7.hp.c] 37) (B := osl (kInt .i64) l (wlF (xs.take k)))
  refine s_nil (q_then (c_seq (c_reg (s_val rfl rfl (r_fa rfl fo37_0 rfl) (s_val rfl rfl (r_ld rfl ty3 rfl (H.cellI 0 rfl rfl)) (s_val rfl rfl (r_eq rfl rfl rfl) (s_nil (q_then ?_))))))))
  refine c_dec rfl (fun h11 => ?_) (fun h11 => ?_)
  ·refine c_reg (s_1 rfl (s_val rfl rfl (r_fa rfl fo37_2 rfl) (s_val rfl rfl (r_ld rfl ty3 rfl (H.cellI 0 rfl rfl)) (s_bsl (parts := [(0, .tmp 17)]) (vs := [.int .i64 x7.sp]) (cs := [.int .i64 x7.sp]) rfl rfl rfl sl24 zr3 rfl (by decide) (by decide) rfl rfl H (fun b12 w H => ?_)))))
   replace H := H.p2
   refine s_appF (xs := wlF (xs.take k)) (ys := [x7.sp]) rfl rfl rfl sl24 zr3 rfl (by decide) rfl rfl H (by first | omega | (simp only [List.length_append, List.length_cons, List.length_nil]; omega)) (fun F hA hR => blk_rsl (hA _ (List.mem_of_getElem? (i := 0) rfl)) rfl (by decide) (RepsR.flat_eq.2 rfl)) (fun v13 w H => (s_1 rfl (s_nil (q_blockN (q_then ?_)))))
   replace H : Hd _ _ _ [osl (kInt .i64) v13 ((wlF (xs.take k)) ++ [x7.sp]), blk b12 [.int .i64 x7.sp] 3, blk b10 [.int .i64 x7.kind, .int .i64 x7.part, .int .i64 x7.sp, .int .i64 x7.att, .int .i64 x7.why, .slice x7.hs.A x7.hs.n x7.hs.c, .slice x7.hp.A x7.hp.n x7.hp.c] 37] [rsl kRecF (.slice A1 xs.length c2) xs] := H
   refine c_reg (s_val rfl rfl (r_add (z := ((k + 1 : Nat) : Int)) rfl rfl rfl (by rw [w64 (by omega) (by omega)]; omega)) (s_1 rfl (s_nil ?_)))
   rw [← wl_yes hx8 h11] at H
   replace H := H.k1
   exact q_round (s := (k, undef)) (k + 1, v13) ⟨rfl, rfl, rfl, rfl, rfl, trivial⟩ ⟨H, by (try dsimp only); omega⟩ (by (try dsimp only); omega)
  refine c_skip (q_blockN (q_then (c_reg (s_val rfl rfl (r_add (z := ((k + 1 : Nat) : Int)) rfl rfl rfl (by rw [w64 (by omega) (by omega)]; omega)) (s_1 rfl (s_nil ?_))))))
  rw [← wl_no hx8 h11] at H
  replace H := H.sel 2 [1] [0] rfl (by kernel_rfl)
  exact q_round (s := (k, undef)) (k + 1, l) ⟨rfl, rfl, rfl, rfl, rfl, trivial⟩ ⟨H, by (try dsimp only); omega⟩ (by (try dsimp only); omega)
 refine c_exit (q_thenE (q_thenE (q_blockE (q_then (c_seq (c_reg (s_1 rfl (sc (sortInt_ok l (wlF (xs.take k)) (by first | omega | (rw [sortI_len]; omega))) H l0 rfl rfl (e_fn kn155 rfl rfl) ?_))))))))
 rintro v14 _ w rfl H
 replace H := H.h1 (A := osl (kInt .i64) l (sortI (wlF (xs.take k))))
 refine s_nil (q_then (c_seq (c_reg (s_1 rfl (sc (compInt_ok l (sortI (wlF (xs.take k))) (by first | omega | (rw [sortI_len]; omega))) H l0 rfl rfl (e_fn kn156 rfl rfl) ?_)))))
 rintro v15 _ w rfl H
 replace H := H.h1 (A := osl (kInt .i64) v15 (Lib.compact (sortI (wlF (xs.take k)))))
 refine s_1 rfl (s_nil (q_then (c_ret (q_ret1 rfl rfl ?_))))
 replace H : Hd w0 F0 w [osl (kInt .i64) v15 (winL xs)] [rsl kRecF (.slice A1 xs.length c2) xs] := by rw [List.take_of_length_le (show xs.length ≤ k by omega)] at H; exact H
 exact fin rfl H
theorem awake26_ok  :
    Cn Tryz.prog 21 [] [] [] (fun v Bs => v = .bool true ∧ Bs = []) := by
 intro w0 F0 H
 refine enter Tryz.func21 rfl rfl (Nat.le_of_ble_eq_true rfl) (c_seq (c_reg (s_1 rfl (s_nil (q_then (c_seq (c_reg (s_val rfl rfl (r_bd (parts := [(0, .const (.int .i64 1)), (3, .const (.int .i64 2))]) (vs := [.int .i64 1, .int .i64 2]) (cs := [.int .i64 1, .int .i64 0, .int .i64 0, .int .i64 2, .int .i64 0, .slice none 0 0, .slice none 0 0]) rfl bd37 rfl rfl) (s_val rfl rfl (r_bd (parts := [(0, .const (.int .i64 3)), (4, .const (.int .i64 3)), (1, .const (.int .i64 1)), (3, .const (.int .i64 1))]) (vs := [.int .i64 3, .int .i64 3, .int .i64 1, .int .i64 1]) (cs := [.int .i64 3, .int .i64 1, .int .i64 0, .int .i64 1, .int .i64 3, .slice none 0 0, .slice none 0 0]) rfl bd37 rfl rfl) (s_bsl (parts := [(0, .tmp 8), (1, .tmp 9)]) (vs := [.agg #[.int .i64 1, .int .i64 0, .int .i64 0, .int .i64 2, .int .i64 0, .slice none 0 0, .slice none 0 0], .agg #[.int .i64 3, .int .i64 1, .int .i64 0, .int .i64 1, .int .i64 3, .slice none 0 0, .slice none 0 0]]) (cs := [.int .i64 1, .int .i64 0, .int .i64 0, .int .i64 2, .int .i64 0, .slice none 0 0, .slice none 0 0, .int .i64 3, .int .i64 1, .int .i64 0, .int .i64 1, .int .i64 3, .slice none 0 0, .slice none 0 0]) rfl rfl rfl sl29 zr37 rfl (by decide) (by decide) rfl rfl H (fun b1 w H => ?_)))))))))))
 refine sc (ended_ok (.slice (some ⟨b1, 0, none⟩) 2 2) [(⟨1, 0, 0, 2, 0, ⟨none, 0, 0⟩, ⟨none, 0, 0⟩⟩ : RecF), (⟨3, 1, 0, 1, 3, ⟨none, 0, 0⟩, ⟨none, 0, 0⟩⟩ : RecF)]) H (lA 0 rfl (fun F h => blk_rsl h rfl (by decide) (RepsR.flat_eq.2 rfl)) l0) rfl rfl (e_fn kn90 rfl rfl) ?_
 rintro _ _ w ⟨rfl, rfl⟩ H
 refine s_k 9 rfl (s_nil (q_then ?_))
 replace H : Hd _ _ _ [blk b1 [.int .i64 1, .int .i64 0, .int .i64 0, .int .i64 2, .int .i64 0, .slice none 0 0, .slice none 0 0, .int .i64 3, .int .i64 1, .int .i64 0, .int .i64 1, .int .i64 3, .slice none 0 0, .slice none 0 0] 37] [] := H
 refine c_seq (c_reg (s_val rfl rfl (r_bd (parts := [(0, .const (.int .i64 1)), (2, .const (.int .i64 3)), (3, .const (.int .i64 2))]) (vs := [.int .i64 1, .int .i64 3, .int .i64 2]) (cs := [.int .i64 1, .int .i64 0, .int .i64 3, .int .i64 2, .int .i64 0, .slice none 0 0, .slice none 0 0]) rfl bd37 rfl rfl) (s_bsl (parts := [(0, .tmp 17)]) (vs := [.agg #[.int .i64 1, .int .i64 0, .int .i64 3, .int .i64 2, .int .i64 0, .slice none 0 0, .slice none 0 0]]) (cs := [.int .i64 1, .int .i64 0, .int .i64 3, .int .i64 2, .int .i64 0, .slice none 0 0, .slice none 0 0]) rfl rfl rfl sl29 zr37 rfl (by decide) (by decide) rfl rfl H (fun b2 w H => (sc (won_ok (.slice (some ⟨b2, 0, none⟩) 1 1) [(⟨1, 0, 3, 2, 0, ⟨none, 0, 0⟩, ⟨none, 0, 0⟩⟩ : RecF)] 3) H (lA 0 rfl (fun F h => blk_rsl h rfl (by decide) (RepsR.flat_eq.2 rfl)) l0) rfl rfl (e_fn kn91 rfl rfl) ?_)))))
 rintro _ _ w ⟨rfl, rfl⟩ H
 replace H := H.h1 (A := blk b2 [.int .i64 1, .int .i64 0, .int .i64 3, .int .i64 2, .int .i64 0, .slice none 0 0, .slice none 0 0] 37)
 refine s_k 5 rfl (s_nil (q_then (c_seq (c_reg (s_1 rfl (s_val rfl rfl (r_eq rfl rfl rfl) (s_1 rfl ?_)))))))
 refine s_dec (d := 24) rfl (fun h3 => ?_) (fun h3 => ?_)
 ·refine s_1 rfl (s_val rfl rfl (r_eq rfl rfl rfl) (s_k 2 rfl ?_))
  refine s_dec (d := 28) rfl (fun h4 => ?_) (fun h4 => ?_)
  ·refine s_1 rfl (s_val rfl rfl (r_eq rfl rfl rfl) (s_k 2 rfl ?_))
   refine s_dec (d := 32) rfl (fun h5 => ?_) (fun h5 => ?_)
   ·refine s_k 3 rfl ?_
    refine s_boo (d := 35) (b := (endedL [(⟨1, 0, 0, 2, 0, ⟨none, 0, 0⟩, ⟨none, 0, 0⟩⟩ : RecF), (⟨3, 1, 0, 1, 3, ⟨none, 0, 0⟩, ⟨none, 0, 0⟩⟩ : RecF)]).2.2.2) rfl (fun h6 => ?_) (fun h6 => ?_)
    ·refine s_1 rfl (s_val rfl rfl (r_eq rfl rfl rfl) (s_k 2 rfl ?_))
     refine s_dec (d := 39) rfl (fun h7 => ?_) (fun h7 => ?_)
     ·refine s_k 3 rfl ?_
      refine s_boo (d := 42) (b := (wonL 3 [(⟨1, 0, 3, 2, 0, ⟨none, 0, 0⟩, ⟨none, 0, 0⟩⟩ : RecF)]).2) rfl (fun h8 => ?_) (fun h8 => ?_)
      ·refine s_val rfl rfl (r_bd (parts := [(0, .const (.int .i64 1)), (2, .const (.int .i64 3))]) (vs := [.int .i64 1, .int .i64 3]) (cs := [.int .i64 1, .int .i64 0, .int .i64 3, .int .i64 0, .int .i64 0, .slice none 0 0, .slice none 0 0]) rfl bd37 rfl rfl) (s_val rfl rfl (r_bd (parts := [(0, .const (.int .i64 1)), (2, .const (.int .i64 1))]) (vs := [.int .i64 1, .int .i64 1]) (cs := [.int .i64 1, .int .i64 0, .int .i64 1, .int .i64 0, .int .i64 0, .slice none 0 0, .slice none 0 0]) rfl bd37 rfl rfl) (s_bsl (parts := [(0, .tmp 43), (1, .tmp 44)]) (vs := [.agg #[.int .i64 1, .int .i64 0, .int .i64 3, .int .i64 0, .int .i64 0, .slice none 0 0, .slice none 0 0], .agg #[.int .i64 1, .int .i64 0, .int .i64 1, .int .i64 0, .int .i64 0, .slice none 0 0, .slice none 0 0]]) (cs := [.int .i64 1, .int .i64 0, .int .i64 3, .int .i64 0, .int .i64 0, .slice none 0 0, .slice none 0 0, .int .i64 1, .int .i64 0, .int .i64 1, .int .i64 0, .int .i64 0, .slice none 0 0, .slice none 0 0]) rfl rfl rfl sl29 zr37 rfl (by decide) (by decide) rfl rfl H (fun b9 w H => ?_)))
       replace H := H.h1 (A := blk b9 [.int .i64 1, .int .i64 0, .int .i64 3, .int .i64 0, .int .i64 0, .slice none 0 0, .slice none 0 0, .int .i64 1, .int .i64 0, .int .i64 1, .int .i64 0, .int .i64 0, .slice none 0 0, .slice none 0 0] 37)
       refine sc (winners_ok (.slice (some ⟨b9, 0, none⟩) 2 2) [(⟨1, 0, 3, 0, 0, ⟨none, 0, 0⟩, ⟨none, 0, 0⟩⟩ : RecF), (⟨1, 0, 1, 0, 0, ⟨none, 0, 0⟩, ⟨none, 0, 0⟩⟩ : RecF)] (by first | omega | decide | (simp only [List.length_append, List.length_cons, List.length_nil]; omega))) H (lA 0 rfl (fun F h => blk_rsl h rfl (by decide) (RepsR.flat_eq.2 rfl)) l0) rfl rfl (e_fn kn92 rfl rfl) ?_
       rintro v10 _ w rfl H
       refine s_bsl (parts := [(0, .const (.int .i64 1)), (1, .const (.int .i64 3))]) (vs := [.int .i64 1, .int .i64 3]) (cs := [.int .i64 1, .int .i64 3]) rfl rfl rfl sl24 zr3 rfl (by decide) (by decide) rfl rfl H (fun b11 w H => (sc (sameInts_ok v10 (.slice (some ⟨b11, 0, none⟩) 2 2) (winL [(⟨1, 0, 3, 0, 0, ⟨none, 0, 0⟩, ⟨none, 0, 0⟩⟩ : RecF), (⟨1, 0, 1, 0, 0, ⟨none, 0, 0⟩, ⟨none, 0, 0⟩⟩ : RecF)]) [1, 3]) H (lA 1 rfl own_rd (lA 0 rfl (fun F h => blk_rsl h rfl (by decide) (RepsR.flat_eq.2 rfl)) l0)) rfl rfl (e_fn kn33 rfl rfl) ?_))
       rintro _ _ w ⟨rfl, rfl⟩ H
       replace H := H.h2 (A := blk b11 [.int .i64 1, .int .i64 3] 3) (B := osl (kInt .i64) v10 (winL [(⟨1, 0, 3, 0, 0, ⟨none, 0, 0⟩, ⟨none, 0, 0⟩⟩ : RecF), (⟨1, 0, 1, 0, 0, ⟨none, 0, 0⟩, ⟨none, 0, 0⟩⟩ : RecF)]))
       refine s_k 2 rfl (s_nil (q_then (c_ret (q_ret1 rfl rfl ?_))))
       replace H := H.nil
       exact fin ⟨congrArg Value.bool (decide_eq_true win_two), rfl⟩ H
      exact absurd h8 (by decide)
     exact (h7 (by decide)).elim
    exact absurd h6 (by decide)
   exact (h5 (by decide)).elim
  exact (h4 (by decide)).elim
 exact (h3 (by decide)).elim
theorem low_ok (x : Int) (n : Int) (hx : In64 x) (h0 : 0 < n) (hn : n ≤ 9223372036854775807) :
    Cn Tryz.prog 22 [.int .i64 x, .int .i64 n] [] [] (fun v Bs => v = .int .i64 (IntKind.u64.wrap x % n) ∧ Bs = []) := by
 intro w0 F0 H
 exact enter Tryz.func22 rfl rfl (Nat.le_of_ble_eq_true rfl) (c_seq (c_reg (s_1 rfl (s_nil (q_then (c_seq (c_reg (s_1 rfl (s_val rfl rfl (r_i2i (z := IntKind.u64.wrap x) rfl rfl un3 un158 rfl) (s_1 rfl (s_val rfl rfl (r_i2i (z := n) rfl rfl un3 un158 (wu64 (by omega) (by omega))) (s_val rfl rfl (r_rem (z := (IntKind.u64.wrap x) % n) rfl rfl rfl (by omega) (Int.tmod_eq_emod_of_nonneg (wrapU x).1)) (s_val rfl rfl (r_i2i (z := (IntKind.u64.wrap x) % n) rfl rfl un158 un3 (w64 (by have := Int.emod_nonneg (IntKind.u64.wrap x) (show n ≠ 0 by omega); omega) (by have := Int.emod_lt_of_pos (IntKind.u64.wrap x) h0; omega))) (s_1 rfl (s_nil (q_then (c_ret (q_ret1 rfl rfl (fin ⟨rfl, rfl⟩ H)))))))))))))))))))
theorem ckOutput_ok (vS : Value) (vM : Value) (vC : Value) (vR : Value) (vK : Value) (C : Cf) (p : Int) (vr : Value) (recs : List Rec) (hC : mayC C) (hp : In64 p) (hh : homeC C p ≠ 0) (hred : ∀ i ∈ C.J.red, In64 i.a) (hrs : ∀ r ∈ recs, (In64 r.sp ∧ r.set.length ≤ 1000) ∧ r.pairs.length ≤ 1000) (hrl : recs.length ≤ 100000) :
    Cn Tryz.prog 24 [.agg #[vS, .int .i64 C.J.parts, vM, vC, vR, .int .i64 C.J.chunk, .int .i64 C.J.window, .int .i64 C.J.fuel, vK, .int .i64 C.w, .int .i64 C.t, .int .i64 C.o], .int .i64 p, vr] [] [rsl (kHd kPair) vS C.J.us, rsl kIns vM C.J.map, rsl kIns vC C.J.comb, rsl kIns vR C.J.red, rsl (kInt .i64) vK C.J.marks, rsl kRec vr recs, gl] (fun v Bs => ∃ u : Value, v = .tuple #[u, .int .i64 ((outR dg C.J (newR C.J.us.length p 1 (recs.map Rec.p))).2.1), .bool ((outR dg C.J (newR C.J.us.length p 1 (recs.map Rec.p))).2.2)] ∧ Bs = [osl kPair u ((outR dg C.J (newR C.J.us.length p 1 (recs.map Rec.p))).1)]) := by
 intro w0 F0 H
 obtain ⟨A1, c2, rfl, hc3, hm4, hp5⟩ := H.fR 0 rfl
 obtain ⟨A6, c7, rfl, hc8, hm9, hp10⟩ := H.fR 1 rfl
 obtain ⟨A11, c12, rfl, hc13, hm14, hp15⟩ := H.fR 2 rfl
 obtain ⟨A16, c17, rfl, hc18, hm19, hp20⟩ := H.fR 3 rfl
 obtain ⟨A21, c22, rfl, hc23, hm24, hp25⟩ := H.fR 4 rfl
 obtain ⟨A26, c27, rfl, hc28, hm29, hp30⟩ := H.fR 5 rfl
 refine enter Tryz.func24 rfl rfl (Nat.le_of_ble_eq_true rfl) (c_seq (c_reg (s_box rfl rfl rfl rfl H (fun b31 w H => (s_k 3 rfl (s_nil (q_then ?_)))))))
 replace H : Hd _ _ _ [blk b31 [.slice A1 C.J.us.length c2, .int .i64 C.J.parts, .slice A6 C.J.map.length c7, .slice A11 C.J.comb.length c12, .slice A16 C.J.red.length c17, .int .i64 C.J.chunk, .int .i64 C.J.window, .int .i64 C.J.fuel, .slice A21 C.J.marks.length c22, .int .i64 C.w, .int .i64 C.t, .int .i64 C.o] 28] [rsl (kHd kPair) (.slice A1 C.J.us.length c2) C.J.us, rsl kIns (.slice A6 C.J.map.length c7) C.J.map, rsl kIns (.slice A11 C.J.comb.length c12) C.J.comb, rsl kIns (.slice A16 C.J.red.length c17) C.J.red, rsl (kInt .i64) (.slice A21 C.J.marks.length c22) C.J.marks, rsl kRec (.slice A26 recs.length c27) recs, gl] := H
 refine c_seq (c_reg (s_val rfl rfl (r_ldA (cs := [.slice A1 C.J.us.length c2, .int .i64 C.J.parts, .slice A6 C.J.map.length c7, .slice A11 C.J.comb.length c12, .slice A16 C.J.red.length c17, .int .i64 C.J.chunk, .int .i64 C.J.window, .int .i64 C.J.fuel, .slice A21 C.J.marks.length c22, .int .i64 C.w, .int .i64 C.t, .int .i64 C.o]) rfl ty28 rfl rfl (H.cellsI 0 rfl rfl)) (s_k 2 rfl (sc (redNew_ok (.slice A1 C.J.us.length c2) (.slice A6 C.J.map.length c7) (.slice A11 C.J.comb.length c12) (.slice A16 C.J.red.length c17) (.slice A21 C.J.marks.length c22) C p 1 (.slice A26 recs.length c27) recs (by first | assumption | omega | exact ⟨hh, by decide⟩ | (unfold In64; omega)) (by first | assumption | omega | exact ⟨hh, by decide⟩ | (unfold In64; omega)) (by first | assumption | omega | exact ⟨hh, by decide⟩ | (unfold In64; omega)) (by first | assumption | omega | exact ⟨hh, by decide⟩ | (unfold In64; omega)) (by first | assumption | omega | exact ⟨hh, by decide⟩ | (unfold In64; omega)) (by first | assumption | omega | exact ⟨hh, by decide⟩ | (unfold In64; omega))) H (lR 0 rfl (lR 1 rfl (lR 2 rfl (lR 3 rfl (lR 4 rfl (lR 5 rfl l0)))))) rfl rfl (e_fn kn56 rfl rfl) ?_))))
 rintro _ _ w ⟨r32, vS33, vM34, vC35, vR36, vK37, J38, hv39, sb40, vs41, us42, rfl, rfl, hf43, hf44⟩ H
 replace H := H.h9 (A := blk r32 (redC vS33 vM34 vC35 vR36 vK37 J38 C.w C.t C.o p 1 ((newR J38.us.length p 1 (recs.map Rec.p)).g) hv39 sb40 vs41) 185) (B := osl (kHd kPair) vS33 J38.us) (C := osl kIns vM34 J38.map) (D := osl kIns vC35 J38.comb) (E := osl kIns vR36 J38.red) (F := osl (kInt .i64) vK37 J38.marks) (G := prsS ((newR J38.us.length p 1 (recs.map Rec.p)).g) hv39) (I := osl (kHd (kInt .i64)) vs41 us42) (J := stgI 253 sb40 ([]))
 have hsj := hf43
 refine s_k 5 rfl (s_nil (q_then (c_seq (c_seq (c_reg (s_1 rfl (s_val rfl rfl (r_ne rfl rfl rfl) (s_nil (q_then (c_no rfl (c_skip (q_then (c_seq ?_)))))))))))))
 obtain ⟨A45, c46, rfl, hc47, hm48, hp49⟩ := H.fA 1 rfl
 have hr2 : ∀ i ∈ J38.red, In64 i.a := by rw [hsj.red]; exact hred
 have hf2 : In64 J38.fuel := by rw [hsj.fuel]; have := hC.1.2.2.2.2.2.2.2.2.2.2; unfold In64; omega
 have h6 : J38.us.length ≤ 6 := by have := hC.1.1; have := hsj.len; omega
 have hbp : ∀ i, ((newR J38.us.length p 1 (recs.map Rec.p)).g i).pairs.length ≤ 1000 := newR_pairs fun r hr => by obtain ⟨x, hx, rfl⟩ := List.mem_map.1 hr; exact (hrs x hx).2
 refine c_reg (s_1 rfl (sc (output_ok r32 A45 c46 vM34 vC35 vR36 vK37 J38 C.w C.t C.o p 1 (newR J38.us.length p 1 (recs.map Rec.p)) hv39 sb40 vs41 (by first | assumption | omega | exact ⟨hh, by decide⟩ | (unfold In64; omega)) (by first | assumption | omega | exact ⟨hh, by decide⟩ | (unfold In64; omega)) (by first | assumption | omega | exact ⟨hh, by decide⟩ | (unfold In64; omega)) (by first | assumption | omega | exact ⟨hh, by decide⟩ | (unfold In64; omega))) H (lA 0 rfl (fun _ h => h) (lA 6 rfl (fun _ h => h) (lA 4 rfl own_rd (lR 6 rfl l0)))) rfl rfl (e_fn kn60 rfl rfl) ?_))
 rintro _ _ w ⟨u50, rfl, rfl⟩ H
 replace H := H.h1 (A := osl kPair u50 ((outR dg J38 (newR J38.us.length p 1 (recs.map Rec.p))).1))
 refine s_k 6 rfl (s_nil (q_then (c_ret (q_ret3 rfl rfl rfl rfl ?_))))
 have e : outR dg J38 (newR J38.us.length p 1 (recs.map Rec.p)) = outR dg C.J (newR C.J.us.length p 1 (recs.map Rec.p)) := by rw [hsj.out, hsj.len]
 replace H := H.k1
 exact fin ⟨u50, by rw [e] <;> rfl, by rw [e] <;> rfl⟩ H
theorem checkOrdersC_ok (vS vM vC vR vK : Value) (C : Cf) (ss : List (List Pair)) (gm : ∀ i ∈ C.J.map, In64 i.a) (gc : ∀ i ∈ C.J.comb, In64 i.a) (gr : ∀ i ∈ C.J.red, In64 i.a) (k : Int) (wk : In64 k) (vps : Value) (pss : List (List Pair)) (wps : (∀ x ∈ pss, (∀ p ∈ x, p.key.size ≤ 9223372036854775807 ∧ p.val.size ≤ 9223372036854775807) ∧ x.length ≤ 9223372036854775807) ∧ pss.length ≤ 9223372036854775807) (vo : Value) (other : List Rec) (wo : (∀ r ∈ other, (In64 r.kind ∧ In64 r.part ∧ In64 r.sp ∧ In64 r.att ∧ In64 r.why) ∧ ((∀ x ∈ r.set, In64 x) ∧ r.set.length ≤ 9223372036854775807) ∧ ((∀ p ∈ r.pairs, (p.key.size ≤ 9223372036854775807 ∧ p.val.size ≤ 9223372036854775807)) ∧ r.pairs.length ≤ 9223372036854775807)) ∧ other.length ≤ 9223372036854775807) :
    Cn Tryz.prog 3 [.agg #[vS, .int .i64 C.J.parts, vM, vC, vR, .int .i64 C.J.chunk, .int .i64 C.J.window, .int .i64 C.J.fuel, vK, .int .i64 C.w, .int .i64 C.t, .int .i64 C.o], .int .i64 k, vps, vo] [] [rsl (kHd kPair) vS C.J.us, rsl (kSl kPair) vS ss, rsl kIns vM C.J.map, rsl kIns vC C.J.comb, rsl kIns vR C.J.red, rsl (kInt .i64) vK C.J.marks, rsl (kSl kPair) vps pss, rsl kRec vo other, gl] (fun v Bs => v = .bool true ∧ Bs = []) := by
 intro w0 F0 H
 obtain ⟨A1, c2, rfl, hc3, hm4, hp5⟩ := H.fR 0 rfl
 obtain ⟨A6, c7, rfl, hc8, hm9, hp10⟩ := H.fR 2 rfl
 obtain ⟨A11, c12, rfl, hc13, hm14, hp15⟩ := H.fR 3 rfl
 obtain ⟨A16, c17, rfl, hc18, hm19, hp20⟩ := H.fR 4 rfl
 obtain ⟨A21, c22, rfl, hc23, hm24, hp25⟩ := H.fR 5 rfl
 obtain ⟨A26, c27, rfl, hc28, hm29, hp30⟩ := H.fR 7 rfl
 obtain ⟨ps, hps, H⟩ := H.heads 6 rfl
 obtain ⟨A31, c32, rfl, hc33, hm34, hp35⟩ := H.fR 0 rfl
 refine enter Tryz.func3 rfl rfl (Nat.le_of_ble_eq_true rfl) (c_seq (c_reg (s_box rfl rfl rfl rfl H (fun b36 w H => (s_1 rfl (s_nil (q_then ?_)))))))
 replace H : Hd _ _ _ [blk b36 [.slice A1 C.J.us.length c2, .int .i64 C.J.parts, .slice A6 C.J.map.length c7, .slice A11 C.J.comb.length c12, .slice A16 C.J.red.length c17, .int .i64 C.J.chunk, .int .i64 C.J.window, .int .i64 C.J.fuel, .slice A21 C.J.marks.length c22, .int .i64 C.w, .int .i64 C.t, .int .i64 C.o] 28] [rsl (kHd kPair) (.slice A31 ps.length c32) ps, rsl (kHd kPair) (.slice A1 C.J.us.length c2) C.J.us, rsl (kSl kPair) (.slice A1 C.J.us.length c2) ss, rsl kIns (.slice A6 C.J.map.length c7) C.J.map, rsl kIns (.slice A11 C.J.comb.length c12) C.J.comb, rsl kIns (.slice A16 C.J.red.length c17) C.J.red, rsl (kInt .i64) (.slice A21 C.J.marks.length c22) C.J.marks, rsl (kSl kPair) (.slice A31 ps.length c32) pss, rsl kRec (.slice A26 other.length c27) other, gl] := H
 refine c_seq (c_seq (c_reg (s_val rfl rfl (r_fa rfl fo28_0 rfl) (s_val rfl rfl (r_ldA (cs := [.slice A1 C.J.us.length c2, .int .i64 C.J.parts, .slice A6 C.J.map.length c7, .slice A11 C.J.comb.length c12, .slice A16 C.J.red.length c17, .int .i64 C.J.chunk, .int .i64 C.J.window, .int .i64 C.J.fuel, .slice A21 C.J.marks.length c22]) rfl ty26 rfl rfl (H.cellsI 0 rfl rfl)) (sc (greatJob_ok (.slice A1 C.J.us.length c2) (.slice A6 C.J.map.length c7) (.slice A11 C.J.comb.length c12) (.slice A16 C.J.red.length c17) (.slice A21 C.J.marks.length c22) C.J) H (lR 1 rfl (lR 3 rfl (lR 4 rfl (lR 5 rfl (lR 6 rfl l0))))) rfl rfl (e_fn kn18 rfl rfl) ?_)))))
 rintro _ _ w ⟨rfl, rfl⟩ H
 refine s_1 rfl ?_
 refine s_boo (d := 27) (b := greatJ C.J) rfl (fun h37 => ?_) (fun h37 => ?_)
 ·refine s_k 12 rfl (s_1 rfl (s_nil (q_then ?_)))
  replace H : Hd _ _ _ [blk b36 [.slice A1 C.J.us.length c2, .int .i64 C.J.parts, .slice A6 C.J.map.length c7, .slice A11 C.J.comb.length c12, .slice A16 C.J.red.length c17, .int .i64 C.J.chunk, .int .i64 C.J.window, .int .i64 C.J.fuel, .slice A21 C.J.marks.length c22, .int .i64 C.w, .int .i64 C.t, .int .i64 C.o] 28] [rsl (kHd kPair) (.slice A31 ps.length c32) ps, rsl (kHd kPair) (.slice A1 C.J.us.length c2) C.J.us, rsl (kSl kPair) (.slice A1 C.J.us.length c2) ss, rsl kIns (.slice A6 C.J.map.length c7) C.J.map, rsl kIns (.slice A11 C.J.comb.length c12) C.J.comb, rsl kIns (.slice A16 C.J.red.length c17) C.J.red, rsl (kInt .i64) (.slice A21 C.J.marks.length c22) C.J.marks, rsl (kSl kPair) (.slice A31 ps.length c32) pss, rsl kRec (.slice A26 other.length c27) other, gl] := H
  refine c_yes rfl (c_seq (c_reg (sc (awake26_ok ) H l0 rfl rfl (e_fn kn21 rfl rfl) ?_)))
  rintro _ _ w ⟨rfl, rfl⟩ H
  refine s_1 rfl (s_nil (q_then (c_ret (q_thenR (q_ret1 rfl rfl ?_)))))
  replace H := H.nil |>.dropR
  replace H : Hd _ _ _ [] [rsl (kHd kPair) (.slice A1 C.J.us.length c2) C.J.us, rsl (kSl kPair) (.slice A1 C.J.us.length c2) ss, rsl kIns (.slice A6 C.J.map.length c7) C.J.map, rsl kIns (.slice A11 C.J.comb.length c12) C.J.comb, rsl kIns (.slice A16 C.J.red.length c17) C.J.red, rsl (kInt .i64) (.slice A21 C.J.marks.length c22) C.J.marks, rsl (kSl kPair) (.slice A31 ps.length c32) pss, rsl kRec (.slice A26 other.length c27) other, gl] := H
  exact fin ⟨rfl, rfl⟩ H
 refine s_val rfl rfl (r_ldA (cs := [.slice A1 C.J.us.length c2, .int .i64 C.J.parts, .slice A6 C.J.map.length c7, .slice A11 C.J.comb.length c12, .slice A16 C.J.red.length c17, .int .i64 C.J.chunk, .int .i64 C.J.window, .int .i64 C.J.fuel, .slice A21 C.J.marks.length c22, .int .i64 C.w, .int .i64 C.t, .int .i64 C.o]) rfl ty28 rfl rfl (H.cellsI 0 rfl rfl)) ?_
 replace H : Hd _ _ _ [blk b36 [.slice A1 C.J.us.length c2, .int .i64 C.J.parts, .slice A6 C.J.map.length c7, .slice A11 C.J.comb.length c12, .slice A16 C.J.red.length c17, .int .i64 C.J.chunk, .int .i64 C.J.window, .int .i64 C.J.fuel, .slice A21 C.J.marks.length c22, .int .i64 C.w, .int .i64 C.t, .int .i64 C.o] 28] [rsl (kHd kPair) (.slice A31 ps.length c32) ps, rsl (kHd kPair) (.slice A1 C.J.us.length c2) C.J.us, rsl (kSl kPair) (.slice A1 C.J.us.length c2) ss, rsl kIns (.slice A6 C.J.map.length c7) C.J.map, rsl kIns (.slice A11 C.J.comb.length c12) C.J.comb, rsl kIns (.slice A16 C.J.red.length c17) C.J.red, rsl (kInt .i64) (.slice A21 C.J.marks.length c22) C.J.marks, rsl (kSl kPair) (.slice A31 ps.length c32) pss, rsl kRec (.slice A26 other.length c27) other, gl] := H
 refine sc (mayC_ok (.slice A1 C.J.us.length c2) (.slice A6 C.J.map.length c7) (.slice A11 C.J.comb.length c12) (.slice A16 C.J.red.length c17) (.slice A21 C.J.marks.length c22) C) H (lR 1 rfl (lR 3 rfl (lR 4 rfl (lR 5 rfl (lR 6 rfl l0))))) rfl rfl (e_fn kn19 rfl rfl) ?_
 rintro _ _ w ⟨rfl, rfl⟩ H
 refine s_val rfl rfl (r_notP rfl rfl) (s_k 2 rfl ?_)
 refine s_dec (d := 32) rfl (fun h38 => ?_) (fun h38 => ?_)
 ·refine s_k 8 rfl (s_nil (q_then ?_))
  replace H : Hd _ _ _ [blk b36 [.slice A1 C.J.us.length c2, .int .i64 C.J.parts, .slice A6 C.J.map.length c7, .slice A11 C.J.comb.length c12, .slice A16 C.J.red.length c17, .int .i64 C.J.chunk, .int .i64 C.J.window, .int .i64 C.J.fuel, .slice A21 C.J.marks.length c22, .int .i64 C.w, .int .i64 C.t, .int .i64 C.o] 28] [rsl (kHd kPair) (.slice A31 ps.length c32) ps, rsl (kHd kPair) (.slice A1 C.J.us.length c2) C.J.us, rsl (kSl kPair) (.slice A1 C.J.us.length c2) ss, rsl kIns (.slice A6 C.J.map.length c7) C.J.map, rsl kIns (.slice A11 C.J.comb.length c12) C.J.comb, rsl kIns (.slice A16 C.J.red.length c17) C.J.red, rsl (kInt .i64) (.slice A21 C.J.marks.length c22) C.J.marks, rsl (kSl kPair) (.slice A31 ps.length c32) pss, rsl kRec (.slice A26 other.length c27) other, gl] := H
  refine c_yes rfl (c_seq (c_reg (sc (awake26_ok ) H l0 rfl rfl (e_fn kn21 rfl rfl) ?_)))
  rintro _ _ w ⟨rfl, rfl⟩ H
  refine s_1 rfl (s_nil (q_then (c_ret (q_thenR (q_ret1 rfl rfl ?_)))))
  replace H := H.nil |>.dropR
  replace H : Hd _ _ _ [] [rsl (kHd kPair) (.slice A1 C.J.us.length c2) C.J.us, rsl (kSl kPair) (.slice A1 C.J.us.length c2) ss, rsl kIns (.slice A6 C.J.map.length c7) C.J.map, rsl kIns (.slice A11 C.J.comb.length c12) C.J.comb, rsl kIns (.slice A16 C.J.red.length c17) C.J.red, rsl (kInt .i64) (.slice A21 C.J.marks.length c22) C.J.marks, rsl (kSl kPair) (.slice A31 ps.length c32) pss, rsl kRec (.slice A26 other.length c27) other, gl] := H
  exact fin ⟨rfl, rfl⟩ H
 refine s_1 rfl (s_val rfl rfl (r_lenL rfl un22 rfl) (s_val rfl rfl (r_gt rfl rfl rfl) (s_k 2 rfl ?_)))
 refine s_dec (d := 37) rfl (fun h39 => ?_) (fun h39 => ?_)
 ·refine s_k 3 rfl (s_nil (q_then ?_))
  replace H : Hd _ _ _ [blk b36 [.slice A1 C.J.us.length c2, .int .i64 C.J.parts, .slice A6 C.J.map.length c7, .slice A11 C.J.comb.length c12, .slice A16 C.J.red.length c17, .int .i64 C.J.chunk, .int .i64 C.J.window, .int .i64 C.J.fuel, .slice A21 C.J.marks.length c22, .int .i64 C.w, .int .i64 C.t, .int .i64 C.o] 28] [rsl (kHd kPair) (.slice A31 ps.length c32) ps, rsl (kHd kPair) (.slice A1 C.J.us.length c2) C.J.us, rsl (kSl kPair) (.slice A1 C.J.us.length c2) ss, rsl kIns (.slice A6 C.J.map.length c7) C.J.map, rsl kIns (.slice A11 C.J.comb.length c12) C.J.comb, rsl kIns (.slice A16 C.J.red.length c17) C.J.red, rsl (kInt .i64) (.slice A21 C.J.marks.length c22) C.J.marks, rsl (kSl kPair) (.slice A31 ps.length c32) pss, rsl kRec (.slice A26 other.length c27) other, gl] := H
  refine c_yes rfl (c_seq (c_reg (sc (awake26_ok ) H l0 rfl rfl (e_fn kn21 rfl rfl) ?_)))
  rintro _ _ w ⟨rfl, rfl⟩ H
  refine s_1 rfl (s_nil (q_then (c_ret (q_thenR (q_ret1 rfl rfl ?_)))))
  replace H := H.nil |>.dropR
  replace H : Hd _ _ _ [] [rsl (kHd kPair) (.slice A1 C.J.us.length c2) C.J.us, rsl (kSl kPair) (.slice A1 C.J.us.length c2) ss, rsl kIns (.slice A6 C.J.map.length c7) C.J.map, rsl kIns (.slice A11 C.J.comb.length c12) C.J.comb, rsl kIns (.slice A16 C.J.red.length c17) C.J.red, rsl (kInt .i64) (.slice A21 C.J.marks.length c22) C.J.marks, rsl (kSl kPair) (.slice A31 ps.length c32) pss, rsl kRec (.slice A26 other.length c27) other, gl] := H
  exact fin ⟨rfl, rfl⟩ H
 refine s_1 rfl (sc (greatRecords_ok (.slice A26 other.length c27) other 20) H (lR 8 rfl l0) rfl rfl (e_fn kn20 rfl rfl) ?_)
 rintro _ _ w ⟨rfl, rfl⟩ H
 refine s_1 rfl (s_nil (q_then ?_))
 replace H : Hd _ _ _ [blk b36 [.slice A1 C.J.us.length c2, .int .i64 C.J.parts, .slice A6 C.J.map.length c7, .slice A11 C.J.comb.length c12, .slice A16 C.J.red.length c17, .int .i64 C.J.chunk, .int .i64 C.J.window, .int .i64 C.J.fuel, .slice A21 C.J.marks.length c22, .int .i64 C.w, .int .i64 C.t, .int .i64 C.o] 28] [rsl (kHd kPair) (.slice A31 ps.length c32) ps, rsl (kHd kPair) (.slice A1 C.J.us.length c2) C.J.us, rsl (kSl kPair) (.slice A1 C.J.us.length c2) ss, rsl kIns (.slice A6 C.J.map.length c7) C.J.map, rsl kIns (.slice A11 C.J.comb.length c12) C.J.comb, rsl kIns (.slice A16 C.J.red.length c17) C.J.red, rsl (kInt .i64) (.slice A21 C.J.marks.length c22) C.J.marks, rsl (kSl kPair) (.slice A31 ps.length c32) pss, rsl kRec (.slice A26 other.length c27) other, gl] := H
 refine c_cond (b := greatR other 20) rfl (fun h40 => ?_) (fun h40 => ?_)
 ·refine c_seq (c_reg (sc (awake26_ok ) H l0 rfl rfl (e_fn kn21 rfl rfl) ?_))
  rintro _ _ w ⟨rfl, rfl⟩ H
  refine s_1 rfl (s_nil (q_then (c_ret (q_thenR (q_ret1 rfl rfl ?_)))))
  replace H := H.nil |>.dropR
  replace H : Hd _ _ _ [] [rsl (kHd kPair) (.slice A1 C.J.us.length c2) C.J.us, rsl (kSl kPair) (.slice A1 C.J.us.length c2) ss, rsl kIns (.slice A6 C.J.map.length c7) C.J.map, rsl kIns (.slice A11 C.J.comb.length c12) C.J.comb, rsl kIns (.slice A16 C.J.red.length c17) C.J.red, rsl (kInt .i64) (.slice A21 C.J.marks.length c22) C.J.marks, rsl (kSl kPair) (.slice A31 ps.length c32) pss, rsl kRec (.slice A26 other.length c27) other, gl] := H
  exact fin ⟨rfl, rfl⟩ H
 refine c_skip (q_then (c_seq ?_))
 have hC : mayC C := Classical.not_not.1 h38
 have hJ : OkJ C.J := ⟨hC.1, gm, gc, gr⟩
 have hus := hJ.us
 have hpt := hJ.parts
 have hot := (greatR_no h40).2
 have hol := (greatR_no h40).1
 refine c_reg (s_1 rfl (s_val rfl rfl (r_fa rfl fo28_0 rfl) (s_val rfl rfl (r_fa rfl fo26_1 rfl) (s_val rfl rfl (r_ld rfl ty3 rfl (H.cellI 0 rfl rfl)) (sc (low_ok k C.J.parts (by first | assumption | (unfold In64; omega)) (by omega) (by omega)) H l0 rfl rfl (e_fn kn22 rfl rfl) ?_)))))
 rintro _ _ w ⟨rfl, rfl⟩ H
 obtain ⟨lo41, hl42, hl43, hl44⟩ : ∃ z : Int, IntKind.u64.wrap k % C.J.parts = z ∧ 0 ≤ z ∧ z < C.J.parts := ⟨_, rfl, Int.emod_nonneg _ (by omega), Int.emod_lt_of_pos _ (by omega)⟩
 rw [hl42]
 refine s_1 rfl (s_nil (q_then (c_seq (c_reg (s_k 2 rfl (s_nil (q_then (c_seq (c_seq (c_reg (s_1 rfl (s_nil (q_then (c_block ?_))))))))))))))
 replace H := H.newnil kRecF |>.newnil kRecF
 replace H : Hd _ _ _ [osl kRecF (.slice none 0 0) [], osl kRecF (.slice none 0 0) [], blk b36 [.slice A1 C.J.us.length c2, .int .i64 C.J.parts, .slice A6 C.J.map.length c7, .slice A11 C.J.comb.length c12, .slice A16 C.J.red.length c17, .int .i64 C.J.chunk, .int .i64 C.J.window, .int .i64 C.J.fuel, .slice A21 C.J.marks.length c22, .int .i64 C.w, .int .i64 C.t, .int .i64 C.o] 28] [rsl (kHd kPair) (.slice A31 ps.length c32) ps, rsl (kHd kPair) (.slice A1 C.J.us.length c2) C.J.us, rsl (kSl kPair) (.slice A1 C.J.us.length c2) ss, rsl kIns (.slice A6 C.J.map.length c7) C.J.map, rsl kIns (.slice A11 C.J.comb.length c12) C.J.comb, rsl kIns (.slice A16 C.J.red.length c17) C.J.red, rsl (kInt .i64) (.slice A21 C.J.marks.length c22) C.J.marks, rsl (kSl kPair) (.slice A31 ps.length c32) pss, rsl kRec (.slice A26 other.length c27) other, gl] := H
 replace H := H.p1.p2.h3 (B := osl kRecF (.slice none 0 0) ((ordR lo41 ps 0).map toF)) (C := osl kRecF (.slice none 0 0) (((ordR lo41 ps 0).reverse).map toF))
 refine c_loop (σ := Nat × Value × Value) (fun (s, qa, qb) => [(1, .int .i64 lo41), (2, .slice A31 ps.length c32), (3, .slice A26 other.length c27), (4, .pointer (some ⟨b36, 0, none⟩)), (9, qa), (10, qb), (11, .int .i64 ((s : Nat) : Int))]) (fun (s, qa, qb) w => (Hd w0 F0 w [blk b36 [.slice A1 C.J.us.length c2, .int .i64 C.J.parts, .slice A6 C.J.map.length c7, .slice A11 C.J.comb.length c12, .slice A16 C.J.red.length c17, .int .i64 C.J.chunk, .int .i64 C.J.window, .int .i64 C.J.fuel, .slice A21 C.J.marks.length c22, .int .i64 C.w, .int .i64 C.t, .int .i64 C.o] 28, osl kRecF qa ((ordR lo41 ps s).map toF), osl kRecF qb (((ordR lo41 ps s).reverse).map toF)] [rsl (kHd kPair) (.slice A31 ps.length c32) ps, rsl (kHd kPair) (.slice A1 C.J.us.length c2) C.J.us, rsl (kSl kPair) (.slice A1 C.J.us.length c2) ss, rsl kIns (.slice A6 C.J.map.length c7) C.J.map, rsl kIns (.slice A11 C.J.comb.length c12) C.J.comb, rsl kIns (.slice A16 C.J.red.length c17) C.J.red, rsl (kInt .i64) (.slice A21 C.J.marks.length c22) C.J.marks, rsl (kSl kPair) (.slice A31 ps.length c32) pss, rsl kRec (.slice A26 other.length c27) other, gl]) ∧ (s ≤ C.J.us.length) ∧ (∀ i v x, i < s → ps[i]? = some (v, x) → x.length ≤ 20)) (fun (s, qa, qb) => C.J.us.length - s) (0, .slice none 0 0, .slice none 0 0) ⟨rfl, rfl, rfl, rfl, rfl, rfl, rfl, trivial⟩ ⟨H, Nat.zero_le _, fun i v x h => absurd h (Nat.not_lt_zero _)⟩ ?_
 rintro ⟨s, qa, qb⟩ w ⟨H, hs, hps⟩
 have hrl1 : ((ordR lo41 ps s).map toF).length = s := by rw [List.length_map, ordR_len]
 have hrl2 : (((ordR lo41 ps s).reverse).map toF).length = s := by rw [List.length_map, List.length_reverse, ordR_len]
 refine c_seq (c_seq (c_reg (s_1 rfl (s_val rfl rfl (r_fa rfl fo28_0 rfl) (s_val rfl rfl (r_fa rfl fo26_0 rfl) (s_val rfl rfl (r_ld rfl ty22 rfl (H.cellI 0 rfl rfl)) (s_val rfl rfl (r_lenL rfl un22 rfl) (s_val rfl rfl (r_lt rfl rfl rfl) (s_nil (q_then ?_))))))))))
 refine c_dec rfl (fun h45 => ?_) (fun h45 => ?_)
 ·refine c_skip (q_then (c_seq (c_block (c_seq (c_reg (s_k 2 rfl (s_val rfl rfl (r_bd (parts := [(0, .const (.int .i64 4)), (1, .tmp 55), (2, .tmp 56), (3, .const (.int .i64 1))]) (vs := [.int .i64 4, .int .i64 lo41, .int .i64 ((s : Nat) : Int), .int .i64 1]) (cs := [.int .i64 4, .int .i64 lo41, .int .i64 ((s : Nat) : Int), .int .i64 1, .int .i64 0, .slice none 0 0, .slice none 0 0]) rfl bd37 rfl rfl) (s_alloc rfl rfl rfl zr37 H (fun b46 w H => (s_st rfl rfl rfl ty37 rfl rfl H rfl (Nat.le_of_ble_eq_true rfl) (fun u hu => by simp [Value.cells] at hu; rcases hu with rfl | rfl | rfl | rfl | rfl | rfl | rfl <;> rfl) (fun w H => ?_)))))))))))
  replace H := H.h4 (A := blk b46 [.int .i64 4, .int .i64 lo41, .int .i64 ((s : Nat) : Int), .int .i64 1, .int .i64 0, .slice none 0 0, .slice none 0 0] 37) (C := osl kRecF qa ((ordR lo41 ps s).map toF)) (D := osl kRecF qb (((ordR lo41 ps s).reverse).map toF))
  refine s_nil (q_then (c_seq (c_seq (c_reg (s_k 2 rfl (s_val rfl rfl (r_lenL rfl un22 rfl) (s_val rfl rfl (r_lt rfl rfl rfl) (s_nil (q_then ?_)))))))))
  refine c_dec rfl (fun h47 => ?_) (fun h47 => ?_)
  ·refine c_seq (c_seq (c_reg (s_k 2 rfl ?_)))
   obtain ⟨⟨u50, x48⟩, hx49⟩ : ∃ z9, ps[s]? = some z9 := ⟨_, List.getElem?_eq_getElem (show s < ps.length by omega)⟩
   obtain ⟨A51, c52, rfl, hc53, hm54⟩ := H.nestR 0 rfl hx49
   have th55 := H.thRd 0 rfl hx49
   refine s_val rfl rfl (r_iaE (p := oOf A31 + s * 1) rfl sl22 rfl rfl (by omega) (by omega) th55 rfl) (s_val rfl rfl (r_ld rfl ty35 rfl (H.elRd 0 rfl hx49 rfl)) (sc (greatPairs_ok (.slice A51 x48.length c52) x48 20) H (lX (fun F hA hR => nest_rsl (hR _ (List.mem_of_getElem? (i := 0) rfl)) hx49) l0) rfl rfl (e_fn kn23 rfl rfl) ?_))
   rintro _ _ w ⟨rfl, rfl⟩ H
   refine s_nil (q_then ?_)
   refine c_cond (b := greatP x48 20) rfl (fun h56 => ?_) (fun h56 => ?_)
   ·refine c_seq (c_reg (sc (awake26_ok ) H l0 rfl rfl (e_fn kn21 rfl rfl) ?_))
    rintro _ _ w ⟨rfl, rfl⟩ H
    refine s_1 rfl (s_nil (q_then (c_ret (q_thenR (q_thenR (q_blockR (q_thenR (q_thenR (q_blockR (q_thenR (q_ret1 rfl rfl ?_)))))))))))
    replace H := H.nil |>.dropR
    replace H : Hd _ _ _ [] [rsl (kHd kPair) (.slice A1 C.J.us.length c2) C.J.us, rsl (kSl kPair) (.slice A1 C.J.us.length c2) ss, rsl kIns (.slice A6 C.J.map.length c7) C.J.map, rsl kIns (.slice A11 C.J.comb.length c12) C.J.comb, rsl kIns (.slice A16 C.J.red.length c17) C.J.red, rsl (kInt .i64) (.slice A21 C.J.marks.length c22) C.J.marks, rsl (kSl kPair) (.slice A31 ps.length c32) pss, rsl kRec (.slice A26 other.length c27) other, gl] := H
    exact fin ⟨rfl, rfl⟩ H
   refine c_skip (q_then (c_reg (s_k 2 rfl ?_)))
   have th57 := H.thRd 0 rfl hx49
   refine s_val rfl rfl (r_iaE (p := oOf A31 + s * 1) rfl sl22 rfl rfl (by omega) (by omega) th57 rfl) (s_val rfl rfl (r_ld rfl ty35 rfl (H.elRd 0 rfl hx49 rfl)) (s_val rfl rfl (r_fa rfl fo37_6 rfl) (s_st rfl rfl rfl ty35 rfl rfl H rfl (Nat.le_of_ble_eq_true rfl) (fun u hu => by simp [Value.cells] at hu; subst hu; rfl) (fun w H => ?_))))
   replace H : Hd _ _ _ [blk b46 [.int .i64 4, .int .i64 lo41, .int .i64 ((s : Nat) : Int), .int .i64 1, .int .i64 0, .slice none 0 0, .slice A51 x48.length c52] 37, blk b36 [.slice A1 C.J.us.length c2, .int .i64 C.J.parts, .slice A6 C.J.map.length c7, .slice A11 C.J.comb.length c12, .slice A16 C.J.red.length c17, .int .i64 C.J.chunk, .int .i64 C.J.window, .int .i64 C.J.fuel, .slice A21 C.J.marks.length c22, .int .i64 C.w, .int .i64 C.t, .int .i64 C.o] 28, osl kRecF qa ((ordR lo41 ps s).map toF), osl kRecF qb (((ordR lo41 ps s).reverse).map toF)] [rsl (kHd kPair) (.slice A31 ps.length c32) ps, rsl (kHd kPair) (.slice A1 C.J.us.length c2) C.J.us, rsl (kSl kPair) (.slice A1 C.J.us.length c2) ss, rsl kIns (.slice A6 C.J.map.length c7) C.J.map, rsl kIns (.slice A11 C.J.comb.length c12) C.J.comb, rsl kIns (.slice A16 C.J.red.length c17) C.J.red, rsl (kInt .i64) (.slice A21 C.J.marks.length c22) C.J.marks, rsl (kSl kPair) (.slice A31 ps.length c32) pss, rsl kRec (.slice A26 other.length c27) other, gl] := H
   refine s_nil (q_then (c_seq (c_reg (s_1 rfl (s_val rfl rfl (r_ldA (cs := [.int .i64 4, .int .i64 lo41, .int .i64 ((s : Nat) : Int), .int .i64 1, .int .i64 0, .slice none 0 0, .slice A51 x48.length c52]) rfl ty37 rfl rfl (H.cellsI 0 rfl rfl)) (s_bsl (parts := [(0, .tmp 74)]) (vs := [.agg #[.int .i64 4, .int .i64 lo41, .int .i64 ((s : Nat) : Int), .int .i64 1, .int .i64 0, .slice none 0 0, .slice A51 x48.length c52]]) (cs := [.int .i64 4, .int .i64 lo41, .int .i64 ((s : Nat) : Int), .int .i64 1, .int .i64 0, .slice none 0 0, .slice A51 x48.length c52]) rfl rfl rfl sl29 zr37 rfl (by decide) (by decide) rfl rfl H (fun b58 w H => ?_)))))))
   replace H := H.p3
   refine s_appF (xs := (ordR lo41 ps s).map toF) (ys := [(⟨4, lo41, ((s : Nat) : Int), 1, 0, ⟨none, 0, 0⟩, ⟨A51, x48.length, c52⟩⟩ : RecF)]) rfl rfl rfl sl29 zr37 rfl (by decide) rfl rfl H (by first | omega | (simp only [List.length_append, List.length_cons, List.length_nil]; omega)) (fun F hA hR => blk_rsl (hA _ (List.mem_of_getElem? (i := 0) rfl)) rfl (by decide) (RepsR.flat_eq.2 rfl)) (fun v59 w H => (s_1 rfl (s_nil (q_then ?_))))
   replace H : Hd _ _ _ [osl kRecF v59 (((ordR lo41 ps s).map toF) ++ [(⟨4, lo41, ((s : Nat) : Int), 1, 0, ⟨none, 0, 0⟩, ⟨A51, x48.length, c52⟩⟩ : RecF)]), blk b58 [.int .i64 4, .int .i64 lo41, .int .i64 ((s : Nat) : Int), .int .i64 1, .int .i64 0, .slice none 0 0, .slice A51 x48.length c52] 37, blk b46 [.int .i64 4, .int .i64 lo41, .int .i64 ((s : Nat) : Int), .int .i64 1, .int .i64 0, .slice none 0 0, .slice A51 x48.length c52] 37, blk b36 [.slice A1 C.J.us.length c2, .int .i64 C.J.parts, .slice A6 C.J.map.length c7, .slice A11 C.J.comb.length c12, .slice A16 C.J.red.length c17, .int .i64 C.J.chunk, .int .i64 C.J.window, .int .i64 C.J.fuel, .slice A21 C.J.marks.length c22, .int .i64 C.w, .int .i64 C.t, .int .i64 C.o] 28, osl kRecF qb (((ordR lo41 ps s).reverse).map toF)] [rsl (kHd kPair) (.slice A31 ps.length c32) ps, rsl (kHd kPair) (.slice A1 C.J.us.length c2) C.J.us, rsl (kSl kPair) (.slice A1 C.J.us.length c2) ss, rsl kIns (.slice A6 C.J.map.length c7) C.J.map, rsl kIns (.slice A11 C.J.comb.length c12) C.J.comb, rsl kIns (.slice A16 C.J.red.length c17) C.J.red, rsl (kInt .i64) (.slice A21 C.J.marks.length c22) C.J.marks, rsl (kSl kPair) (.slice A31 ps.length c32) pss, rsl kRec (.slice A26 other.length c27) other, gl] := H
   refine c_reg (s_val rfl rfl (r_ldA (cs := [.int .i64 4, .int .i64 lo41, .int .i64 ((s : Nat) : Int), .int .i64 1, .int .i64 0, .slice none 0 0, .slice A51 x48.length c52]) rfl ty37 rfl rfl (H.cellsI 2 rfl rfl)) (s_bsl (parts := [(0, .tmp 77)]) (vs := [.agg #[.int .i64 4, .int .i64 lo41, .int .i64 ((s : Nat) : Int), .int .i64 1, .int .i64 0, .slice none 0 0, .slice A51 x48.length c52]]) (cs := [.int .i64 4, .int .i64 lo41, .int .i64 ((s : Nat) : Int), .int .i64 1, .int .i64 0, .slice none 0 0, .slice A51 x48.length c52]) rfl rfl rfl sl29 zr37 rfl (by decide) (by decide) rfl rfl H (fun b60 w H => ?_)))
   replace H := H.h1 (A := blk b60 [.int .i64 4, .int .i64 lo41, .int .i64 ((s : Nat) : Int), .int .i64 1, .int .i64 0, .slice none 0 0, .slice A51 x48.length c52] 37)
   refine s_1 rfl ?_
   replace H : Hd w0 F0 w [osl kRecF (.slice (some ⟨b60, 0, none⟩) 1 1) [(⟨4, lo41, ((s : Nat) : Int), 1, 0, ⟨none, 0, 0⟩, ⟨A51, x48.length, c52⟩⟩ : RecF)], osl kRecF v59 (((ordR lo41 ps s).map toF) ++ [(⟨4, lo41, ((s : Nat) : Int), 1, 0, ⟨none, 0, 0⟩, ⟨A51, x48.length, c52⟩⟩ : RecF)]), blk b58 [.int .i64 4, .int .i64 lo41, .int .i64 ((s : Nat) : Int), .int .i64 1, .int .i64 0, .slice none 0 0, .slice A51 x48.length c52] 37, blk b46 [.int .i64 4, .int .i64 lo41, .int .i64 ((s : Nat) : Int), .int .i64 1, .int .i64 0, .slice none 0 0, .slice A51 x48.length c52] 37, blk b36 [.slice A1 C.J.us.length c2, .int .i64 C.J.parts, .slice A6 C.J.map.length c7, .slice A11 C.J.comb.length c12, .slice A16 C.J.red.length c17, .int .i64 C.J.chunk, .int .i64 C.J.window, .int .i64 C.J.fuel, .slice A21 C.J.marks.length c22, .int .i64 C.w, .int .i64 C.t, .int .i64 C.o] 28, osl kRecF qb (((ordR lo41 ps s).reverse).map toF)] [rsl (kHd kPair) (.slice A31 ps.length c32) ps, rsl (kHd kPair) (.slice A1 C.J.us.length c2) C.J.us, rsl (kSl kPair) (.slice A1 C.J.us.length c2) ss, rsl kIns (.slice A6 C.J.map.length c7) C.J.map, rsl kIns (.slice A11 C.J.comb.length c12) C.J.comb, rsl kIns (.slice A16 C.J.red.length c17) C.J.red, rsl (kInt .i64) (.slice A21 C.J.marks.length c22) C.J.marks, rsl (kSl kPair) (.slice A31 ps.length c32) pss, rsl kRec (.slice A26 other.length c27) other, gl] := H.turn (fun F h => blk_osl h rfl (by decide) rfl)
   obtain ⟨A61, c62, rfl, hc63, hm64, hp65⟩ := H.fA 5 rfl
   refine s_appF (xs := [(⟨4, lo41, ((s : Nat) : Int), 1, 0, ⟨none, 0, 0⟩, ⟨A51, x48.length, c52⟩⟩ : RecF)]) (ys := ((ordR lo41 ps s).reverse).map toF) rfl rfl rfl sl29 zr37 rfl (by decide) rfl rfl H (by first | omega | (simp only [List.length_append, List.length_cons, List.length_nil]; omega)) (fun F hA hR => own_rd F (hA _ (List.mem_of_getElem? (i := 4) rfl))) (fun v66 w H => (s_1 rfl (s_nil (q_blockN (q_then ?_)))))
   replace H : Hd _ _ _ [osl kRecF v66 ([(⟨4, lo41, ((s : Nat) : Int), 1, 0, ⟨none, 0, 0⟩, ⟨A51, x48.length, c52⟩⟩ : RecF)] ++ (((ordR lo41 ps s).reverse).map toF)), osl kRecF v59 (((ordR lo41 ps s).map toF) ++ [(⟨4, lo41, ((s : Nat) : Int), 1, 0, ⟨none, 0, 0⟩, ⟨A51, x48.length, c52⟩⟩ : RecF)]), blk b58 [.int .i64 4, .int .i64 lo41, .int .i64 ((s : Nat) : Int), .int .i64 1, .int .i64 0, .slice none 0 0, .slice A51 x48.length c52] 37, blk b46 [.int .i64 4, .int .i64 lo41, .int .i64 ((s : Nat) : Int), .int .i64 1, .int .i64 0, .slice none 0 0, .slice A51 x48.length c52] 37, blk b36 [.slice A1 C.J.us.length c2, .int .i64 C.J.parts, .slice A6 C.J.map.length c7, .slice A11 C.J.comb.length c12, .slice A16 C.J.red.length c17, .int .i64 C.J.chunk, .int .i64 C.J.window, .int .i64 C.J.fuel, .slice A21 C.J.marks.length c22, .int .i64 C.w, .int .i64 C.t, .int .i64 C.o] 28, osl kRecF (.slice A61 ((((ordR lo41 ps s).reverse).map toF).length) c62) (((ordR lo41 ps s).reverse).map toF)] [rsl (kHd kPair) (.slice A31 ps.length c32) ps, rsl (kHd kPair) (.slice A1 C.J.us.length c2) C.J.us, rsl (kSl kPair) (.slice A1 C.J.us.length c2) ss, rsl kIns (.slice A6 C.J.map.length c7) C.J.map, rsl kIns (.slice A11 C.J.comb.length c12) C.J.comb, rsl kIns (.slice A16 C.J.red.length c17) C.J.red, rsl (kInt .i64) (.slice A21 C.J.marks.length c22) C.J.marks, rsl (kSl kPair) (.slice A31 ps.length c32) pss, rsl kRec (.slice A26 other.length c27) other, gl] := H
   refine c_reg (s_1 rfl (s_val rfl rfl (r_add (z := ((s + 1 : Nat) : Int)) rfl rfl rfl (by rw [w64 (by omega) (by omega)]; omega)) (s_1 rfl (s_nil ?_))))
   replace H := H.p1.p4.k3
   have hg2 := (greatP_no h56).1
   replace H : Hd w0 F0 w [blk b36 [.slice A1 C.J.us.length c2, .int .i64 C.J.parts, .slice A6 C.J.map.length c7, .slice A11 C.J.comb.length c12, .slice A16 C.J.red.length c17, .int .i64 C.J.chunk, .int .i64 C.J.window, .int .i64 C.J.fuel, .slice A21 C.J.marks.length c22, .int .i64 C.w, .int .i64 C.t, .int .i64 C.o] 28, osl kRecF v59 ((ordR lo41 ps (s + 1)).map toF), osl kRecF v66 ([(⟨4, lo41, ((s : Nat) : Int), 1, 0, ⟨none, 0, 0⟩, ⟨A51, x48.length, c52⟩⟩ : RecF)] ++ (((ordR lo41 ps s).reverse).map toF))] [rsl (kHd kPair) (.slice A31 ps.length c32) ps, rsl (kHd kPair) (.slice A1 C.J.us.length c2) C.J.us, rsl (kSl kPair) (.slice A1 C.J.us.length c2) ss, rsl kIns (.slice A6 C.J.map.length c7) C.J.map, rsl kIns (.slice A11 C.J.comb.length c12) C.J.comb, rsl kIns (.slice A16 C.J.red.length c17) C.J.red, rsl (kInt .i64) (.slice A21 C.J.marks.length c22) C.J.marks, rsl (kSl kPair) (.slice A31 ps.length c32) pss, rsl kRec (.slice A26 other.length c27) other, gl] := by rw [ordF_succ (ordAt_F (p := lo41) hx49)]; exact H
   replace H : Hd w0 F0 w [blk b36 [.slice A1 C.J.us.length c2, .int .i64 C.J.parts, .slice A6 C.J.map.length c7, .slice A11 C.J.comb.length c12, .slice A16 C.J.red.length c17, .int .i64 C.J.chunk, .int .i64 C.J.window, .int .i64 C.J.fuel, .slice A21 C.J.marks.length c22, .int .i64 C.w, .int .i64 C.t, .int .i64 C.o] 28, osl kRecF v59 ((ordR lo41 ps (s + 1)).map toF), osl kRecF v66 (((ordR lo41 ps (s + 1)).reverse).map toF)] [rsl (kHd kPair) (.slice A31 ps.length c32) ps, rsl (kHd kPair) (.slice A1 C.J.us.length c2) C.J.us, rsl (kSl kPair) (.slice A1 C.J.us.length c2) ss, rsl kIns (.slice A6 C.J.map.length c7) C.J.map, rsl kIns (.slice A11 C.J.comb.length c12) C.J.comb, rsl kIns (.slice A16 C.J.red.length c17) C.J.red, rsl (kInt .i64) (.slice A21 C.J.marks.length c22) C.J.marks, rsl (kSl kPair) (.slice A31 ps.length c32) pss, rsl kRec (.slice A26 other.length c27) other, gl] := by rw [ordB_succ (ordAt_F (p := lo41) hx49)]; exact H
   exact q_round (s := (s, undef, undef)) (s + 1, v59, v66) ⟨rfl, rfl, rfl, rfl, rfl, rfl, rfl, trivial⟩ ⟨H, by (try dsimp only); omega, ord_next hps hx49 (by omega)⟩ (by (try dsimp only); omega)
  refine c_skip (q_then (c_seq (c_reg (s_1 rfl (s_val rfl rfl (r_ldA (cs := [.int .i64 4, .int .i64 lo41, .int .i64 ((s : Nat) : Int), .int .i64 1, .int .i64 0, .slice none 0 0, .slice none 0 0]) rfl ty37 rfl rfl (H.cellsI 0 rfl rfl)) (s_bsl (parts := [(0, .tmp 74)]) (vs := [.agg #[.int .i64 4, .int .i64 lo41, .int .i64 ((s : Nat) : Int), .int .i64 1, .int .i64 0, .slice none 0 0, .slice none 0 0]]) (cs := [.int .i64 4, .int .i64 lo41, .int .i64 ((s : Nat) : Int), .int .i64 1, .int .i64 0, .slice none 0 0, .slice none 0 0]) rfl rfl rfl sl29 zr37 rfl (by decide) (by decide) rfl rfl H (fun b67 w H => ?_)))))))
  replace H := H.p3
  refine s_appF (xs := (ordR lo41 ps s).map toF) (ys := [(⟨4, lo41, ((s : Nat) : Int), 1, 0, ⟨none, 0, 0⟩, ⟨none, 0, 0⟩⟩ : RecF)]) rfl rfl rfl sl29 zr37 rfl (by decide) rfl rfl H (by first | omega | (simp only [List.length_append, List.length_cons, List.length_nil]; omega)) (fun F hA hR => blk_rsl (hA _ (List.mem_of_getElem? (i := 0) rfl)) rfl (by decide) (RepsR.flat_eq.2 rfl)) (fun v68 w H => (s_1 rfl (s_nil (q_then ?_))))
  replace H : Hd _ _ _ [osl kRecF v68 (((ordR lo41 ps s).map toF) ++ [(⟨4, lo41, ((s : Nat) : Int), 1, 0, ⟨none, 0, 0⟩, ⟨none, 0, 0⟩⟩ : RecF)]), blk b67 [.int .i64 4, .int .i64 lo41, .int .i64 ((s : Nat) : Int), .int .i64 1, .int .i64 0, .slice none 0 0, .slice none 0 0] 37, blk b46 [.int .i64 4, .int .i64 lo41, .int .i64 ((s : Nat) : Int), .int .i64 1, .int .i64 0, .slice none 0 0, .slice none 0 0] 37, blk b36 [.slice A1 C.J.us.length c2, .int .i64 C.J.parts, .slice A6 C.J.map.length c7, .slice A11 C.J.comb.length c12, .slice A16 C.J.red.length c17, .int .i64 C.J.chunk, .int .i64 C.J.window, .int .i64 C.J.fuel, .slice A21 C.J.marks.length c22, .int .i64 C.w, .int .i64 C.t, .int .i64 C.o] 28, osl kRecF qb (((ordR lo41 ps s).reverse).map toF)] [rsl (kHd kPair) (.slice A31 ps.length c32) ps, rsl (kHd kPair) (.slice A1 C.J.us.length c2) C.J.us, rsl (kSl kPair) (.slice A1 C.J.us.length c2) ss, rsl kIns (.slice A6 C.J.map.length c7) C.J.map, rsl kIns (.slice A11 C.J.comb.length c12) C.J.comb, rsl kIns (.slice A16 C.J.red.length c17) C.J.red, rsl (kInt .i64) (.slice A21 C.J.marks.length c22) C.J.marks, rsl (kSl kPair) (.slice A31 ps.length c32) pss, rsl kRec (.slice A26 other.length c27) other, gl] := H
  refine c_reg (s_val rfl rfl (r_ldA (cs := [.int .i64 4, .int .i64 lo41, .int .i64 ((s : Nat) : Int), .int .i64 1, .int .i64 0, .slice none 0 0, .slice none 0 0]) rfl ty37 rfl rfl (H.cellsI 2 rfl rfl)) (s_bsl (parts := [(0, .tmp 77)]) (vs := [.agg #[.int .i64 4, .int .i64 lo41, .int .i64 ((s : Nat) : Int), .int .i64 1, .int .i64 0, .slice none 0 0, .slice none 0 0]]) (cs := [.int .i64 4, .int .i64 lo41, .int .i64 ((s : Nat) : Int), .int .i64 1, .int .i64 0, .slice none 0 0, .slice none 0 0]) rfl rfl rfl sl29 zr37 rfl (by decide) (by decide) rfl rfl H (fun b69 w H => ?_)))
  replace H := H.h1 (A := blk b69 [.int .i64 4, .int .i64 lo41, .int .i64 ((s : Nat) : Int), .int .i64 1, .int .i64 0, .slice none 0 0, .slice none 0 0] 37)
  refine s_1 rfl ?_
  replace H : Hd w0 F0 w [osl kRecF (.slice (some ⟨b69, 0, none⟩) 1 1) [(⟨4, lo41, ((s : Nat) : Int), 1, 0, ⟨none, 0, 0⟩, ⟨none, 0, 0⟩⟩ : RecF)], osl kRecF v68 (((ordR lo41 ps s).map toF) ++ [(⟨4, lo41, ((s : Nat) : Int), 1, 0, ⟨none, 0, 0⟩, ⟨none, 0, 0⟩⟩ : RecF)]), blk b67 [.int .i64 4, .int .i64 lo41, .int .i64 ((s : Nat) : Int), .int .i64 1, .int .i64 0, .slice none 0 0, .slice none 0 0] 37, blk b46 [.int .i64 4, .int .i64 lo41, .int .i64 ((s : Nat) : Int), .int .i64 1, .int .i64 0, .slice none 0 0, .slice none 0 0] 37, blk b36 [.slice A1 C.J.us.length c2, .int .i64 C.J.parts, .slice A6 C.J.map.length c7, .slice A11 C.J.comb.length c12, .slice A16 C.J.red.length c17, .int .i64 C.J.chunk, .int .i64 C.J.window, .int .i64 C.J.fuel, .slice A21 C.J.marks.length c22, .int .i64 C.w, .int .i64 C.t, .int .i64 C.o] 28, osl kRecF qb (((ordR lo41 ps s).reverse).map toF)] [rsl (kHd kPair) (.slice A31 ps.length c32) ps, rsl (kHd kPair) (.slice A1 C.J.us.length c2) C.J.us, rsl (kSl kPair) (.slice A1 C.J.us.length c2) ss, rsl kIns (.slice A6 C.J.map.length c7) C.J.map, rsl kIns (.slice A11 C.J.comb.length c12) C.J.comb, rsl kIns (.slice A16 C.J.red.length c17) C.J.red, rsl (kInt .i64) (.slice A21 C.J.marks.length c22) C.J.marks, rsl (kSl kPair) (.slice A31 ps.length c32) pss, rsl kRec (.slice A26 other.length c27) other, gl] := H.turn (fun F h => blk_osl h rfl (by decide) rfl)
  obtain ⟨A70, c71, rfl, hc72, hm73, hp74⟩ := H.fA 5 rfl
  refine s_appF (xs := [(⟨4, lo41, ((s : Nat) : Int), 1, 0, ⟨none, 0, 0⟩, ⟨none, 0, 0⟩⟩ : RecF)]) (ys := ((ordR lo41 ps s).reverse).map toF) rfl rfl rfl sl29 zr37 rfl (by decide) rfl rfl H (by first | omega | (simp only [List.length_append, List.length_cons, List.length_nil]; omega)) (fun F hA hR => own_rd F (hA _ (List.mem_of_getElem? (i := 4) rfl))) (fun v75 w H => (s_1 rfl (s_nil (q_blockN (q_then ?_)))))
  replace H : Hd _ _ _ [osl kRecF v75 ([(⟨4, lo41, ((s : Nat) : Int), 1, 0, ⟨none, 0, 0⟩, ⟨none, 0, 0⟩⟩ : RecF)] ++ (((ordR lo41 ps s).reverse).map toF)), osl kRecF v68 (((ordR lo41 ps s).map toF) ++ [(⟨4, lo41, ((s : Nat) : Int), 1, 0, ⟨none, 0, 0⟩, ⟨none, 0, 0⟩⟩ : RecF)]), blk b67 [.int .i64 4, .int .i64 lo41, .int .i64 ((s : Nat) : Int), .int .i64 1, .int .i64 0, .slice none 0 0, .slice none 0 0] 37, blk b46 [.int .i64 4, .int .i64 lo41, .int .i64 ((s : Nat) : Int), .int .i64 1, .int .i64 0, .slice none 0 0, .slice none 0 0] 37, blk b36 [.slice A1 C.J.us.length c2, .int .i64 C.J.parts, .slice A6 C.J.map.length c7, .slice A11 C.J.comb.length c12, .slice A16 C.J.red.length c17, .int .i64 C.J.chunk, .int .i64 C.J.window, .int .i64 C.J.fuel, .slice A21 C.J.marks.length c22, .int .i64 C.w, .int .i64 C.t, .int .i64 C.o] 28, osl kRecF (.slice A70 ((((ordR lo41 ps s).reverse).map toF).length) c71) (((ordR lo41 ps s).reverse).map toF)] [rsl (kHd kPair) (.slice A31 ps.length c32) ps, rsl (kHd kPair) (.slice A1 C.J.us.length c2) C.J.us, rsl (kSl kPair) (.slice A1 C.J.us.length c2) ss, rsl kIns (.slice A6 C.J.map.length c7) C.J.map, rsl kIns (.slice A11 C.J.comb.length c12) C.J.comb, rsl kIns (.slice A16 C.J.red.length c17) C.J.red, rsl (kInt .i64) (.slice A21 C.J.marks.length c22) C.J.marks, rsl (kSl kPair) (.slice A31 ps.length c32) pss, rsl kRec (.slice A26 other.length c27) other, gl] := H
  refine c_reg (s_1 rfl (s_val rfl rfl (r_add (z := ((s + 1 : Nat) : Int)) rfl rfl rfl (by rw [w64 (by omega) (by omega)]; omega)) (s_1 rfl (s_nil ?_))))
  replace H := H.p1.p4.k3
  replace H : Hd w0 F0 w [blk b36 [.slice A1 C.J.us.length c2, .int .i64 C.J.parts, .slice A6 C.J.map.length c7, .slice A11 C.J.comb.length c12, .slice A16 C.J.red.length c17, .int .i64 C.J.chunk, .int .i64 C.J.window, .int .i64 C.J.fuel, .slice A21 C.J.marks.length c22, .int .i64 C.w, .int .i64 C.t, .int .i64 C.o] 28, osl kRecF v68 ((ordR lo41 ps (s + 1)).map toF), osl kRecF v75 ([(⟨4, lo41, ((s : Nat) : Int), 1, 0, ⟨none, 0, 0⟩, ⟨none, 0, 0⟩⟩ : RecF)] ++ (((ordR lo41 ps s).reverse).map toF))] [rsl (kHd kPair) (.slice A31 ps.length c32) ps, rsl (kHd kPair) (.slice A1 C.J.us.length c2) C.J.us, rsl (kSl kPair) (.slice A1 C.J.us.length c2) ss, rsl kIns (.slice A6 C.J.map.length c7) C.J.map, rsl kIns (.slice A11 C.J.comb.length c12) C.J.comb, rsl kIns (.slice A16 C.J.red.length c17) C.J.red, rsl (kInt .i64) (.slice A21 C.J.marks.length c22) C.J.marks, rsl (kSl kPair) (.slice A31 ps.length c32) pss, rsl kRec (.slice A26 other.length c27) other, gl] := by rw [ordF_succ (ordAt_F0 (p := lo41) (ps := ps) (by omega))]; exact H
  replace H : Hd w0 F0 w [blk b36 [.slice A1 C.J.us.length c2, .int .i64 C.J.parts, .slice A6 C.J.map.length c7, .slice A11 C.J.comb.length c12, .slice A16 C.J.red.length c17, .int .i64 C.J.chunk, .int .i64 C.J.window, .int .i64 C.J.fuel, .slice A21 C.J.marks.length c22, .int .i64 C.w, .int .i64 C.t, .int .i64 C.o] 28, osl kRecF v68 ((ordR lo41 ps (s + 1)).map toF), osl kRecF v75 (((ordR lo41 ps (s + 1)).reverse).map toF)] [rsl (kHd kPair) (.slice A31 ps.length c32) ps, rsl (kHd kPair) (.slice A1 C.J.us.length c2) C.J.us, rsl (kSl kPair) (.slice A1 C.J.us.length c2) ss, rsl kIns (.slice A6 C.J.map.length c7) C.J.map, rsl kIns (.slice A11 C.J.comb.length c12) C.J.comb, rsl kIns (.slice A16 C.J.red.length c17) C.J.red, rsl (kInt .i64) (.slice A21 C.J.marks.length c22) C.J.marks, rsl (kSl kPair) (.slice A31 ps.length c32) pss, rsl kRec (.slice A26 other.length c27) other, gl] := by rw [ordB_succ (ordAt_F0 (p := lo41) (ps := ps) (by omega))]; exact H
  exact q_round (s := (s, undef, undef)) (s + 1, v68, v75) ⟨rfl, rfl, rfl, rfl, rfl, rfl, rfl, trivial⟩ ⟨H, by (try dsimp only); omega, ord_next0 hps (by omega)⟩ (by (try dsimp only); omega)
 refine c_exit (q_thenE (q_thenE (q_blockE (q_then (c_seq (c_reg (s_1 rfl (s_nil (q_then (c_seq (c_seq (c_reg (s_1 rfl (s_nil (q_then (c_block ?_))))))))))))))))
 obtain rfl : s = C.J.us.length := by omega
 replace H := H.newnil kRecF |>.p3 |>.p3 |>.p3 |>.h4 (D := osl kRecF (.slice none 0 0) ((moreR lo41 (other.take 0)).map toF))
 refine c_loop (σ := Nat × Value) (fun (k, q) => [(1, .int .i64 lo41), (3, .slice A26 other.length c27), (4, .pointer (some ⟨b36, 0, none⟩)), (9, qa), (10, qb), (13, q), (14, .int .i64 ((k : Nat) : Int))]) (fun (k, q) w => (Hd w0 F0 w [blk b36 [.slice A1 C.J.us.length c2, .int .i64 C.J.parts, .slice A6 C.J.map.length c7, .slice A11 C.J.comb.length c12, .slice A16 C.J.red.length c17, .int .i64 C.J.chunk, .int .i64 C.J.window, .int .i64 C.J.fuel, .slice A21 C.J.marks.length c22, .int .i64 C.w, .int .i64 C.t, .int .i64 C.o] 28, osl kRecF qa ((ordR lo41 ps C.J.us.length).map toF), osl kRecF qb (((ordR lo41 ps C.J.us.length).reverse).map toF), osl kRecF q ((moreR lo41 (other.take k)).map toF)] [rsl (kHd kPair) (.slice A31 ps.length c32) ps, rsl (kHd kPair) (.slice A1 C.J.us.length c2) C.J.us, rsl (kSl kPair) (.slice A1 C.J.us.length c2) ss, rsl kIns (.slice A6 C.J.map.length c7) C.J.map, rsl kIns (.slice A11 C.J.comb.length c12) C.J.comb, rsl kIns (.slice A16 C.J.red.length c17) C.J.red, rsl (kInt .i64) (.slice A21 C.J.marks.length c22) C.J.marks, rsl (kSl kPair) (.slice A31 ps.length c32) pss, rsl kRec (.slice A26 other.length c27) other, gl]) ∧ (k ≤ other.length)) (fun (k, q) => other.length - k) (0, .slice none 0 0) ⟨rfl, rfl, rfl, rfl, rfl, rfl, rfl, trivial⟩ ⟨H, Nat.zero_le _⟩ ?_
 rintro ⟨k, q⟩ w ⟨H, hk⟩
 have hml : ((moreR lo41 (other.take k)).map toF).length ≤ k := by rw [List.length_map]; exact Nat.le_trans (moreR_len _ _) (by simp; omega)
 refine c_seq (c_seq (c_reg (s_k 2 rfl (s_val rfl rfl (r_lenL rfl un29 rfl) (s_val rfl rfl (r_lt rfl rfl rfl) (s_nil (q_then ?_)))))))
 refine c_dec rfl (fun h76 => ?_) (fun h76 => ?_)
 ·refine c_skip (q_then (c_seq (c_block (c_seq (c_reg (s_k 2 rfl ?_))))))
  obtain ⟨⟨a79, a80, a81, a82, a83, sv84, se85, pv86, pr87⟩, hx78⟩ : ∃ z9, other[k]? = some z9 := ⟨_, List.getElem?_eq_getElem (show k < other.length by omega)⟩
  obtain ⟨A88, c89, A90, c91, rfl, rfl, m92, m93, m94, m95⟩ := H.nestRr 8 rfl hx78
  have th96 := H.thRr 8 rfl hx78
  refine s_val rfl rfl (r_iaE (p := oOf A26 + k * 7) rfl sl29 rfl rfl (by omega) (by omega) th96 rfl) (s_val rfl rfl (r_fa rfl fo37_1 rfl) (s_val rfl rfl (r_ld rfl ty3 rfl (H.elRr 8 rfl hx78 (q := 1) rfl rfl)) (s_1 rfl (s_val rfl rfl (r_ne rfl rfl rfl) (s_1 rfl ?_)))))
  refine s_dec (d := 94) rfl (fun h97 => ?_) (fun h97 => ?_)
  ·refine s_k 7 rfl (s_nil (q_then (c_yes rfl (c_reg (s_k 3 rfl ?_)))))
   have th98 := H.thRr 8 rfl hx78
   refine s_val rfl rfl (r_iaE (p := oOf A26 + k * 7) rfl sl29 rfl rfl (by omega) (by omega) th98 rfl) (s_val rfl rfl (r_ldA (cs := [.int .i64 a79, .int .i64 a80, .int .i64 a81, .int .i64 a82, .int .i64 a83, .slice A88 se85.length c89, .slice A90 pr87.length c91]) rfl ty37 rfl rfl (H.elsRr 8 rfl hx78 rfl)) (s_bsl (parts := [(0, .tmp 106)]) (vs := [.agg #[.int .i64 a79, .int .i64 a80, .int .i64 a81, .int .i64 a82, .int .i64 a83, .slice A88 se85.length c89, .slice A90 pr87.length c91]]) (cs := [.int .i64 a79, .int .i64 a80, .int .i64 a81, .int .i64 a82, .int .i64 a83, .slice A88 se85.length c89, .slice A90 pr87.length c91]) rfl rfl rfl sl29 zr37 rfl (by decide) (by decide) rfl rfl H (fun b99 w H => ?_)))
   replace H := H.p4
   refine s_appF (xs := (moreR lo41 (other.take k)).map toF) (ys := [(⟨a79, a80, a81, a82, a83, ⟨A88, se85.length, c89⟩, ⟨A90, pr87.length, c91⟩⟩ : RecF)]) rfl rfl rfl sl29 zr37 rfl (by decide) rfl rfl H (by first | omega | (simp only [List.length_append, List.length_cons, List.length_nil]; omega)) (fun F hA hR => blk_rsl (hA _ (List.mem_of_getElem? (i := 0) rfl)) rfl (by decide) (RepsR.flat_eq.2 rfl)) (fun v100 w H => (s_1 rfl (s_nil (q_blockN (q_then ?_)))))
   replace H : Hd _ _ _ [osl kRecF v100 (((moreR lo41 (other.take k)).map toF) ++ [(⟨a79, a80, a81, a82, a83, ⟨A88, se85.length, c89⟩, ⟨A90, pr87.length, c91⟩⟩ : RecF)]), blk b99 [.int .i64 a79, .int .i64 a80, .int .i64 a81, .int .i64 a82, .int .i64 a83, .slice A88 se85.length c89, .slice A90 pr87.length c91] 37, blk b36 [.slice A1 C.J.us.length c2, .int .i64 C.J.parts, .slice A6 C.J.map.length c7, .slice A11 C.J.comb.length c12, .slice A16 C.J.red.length c17, .int .i64 C.J.chunk, .int .i64 C.J.window, .int .i64 C.J.fuel, .slice A21 C.J.marks.length c22, .int .i64 C.w, .int .i64 C.t, .int .i64 C.o] 28, osl kRecF qa ((ordR lo41 ps C.J.us.length).map toF), osl kRecF qb (((ordR lo41 ps C.J.us.length).reverse).map toF)] [rsl (kHd kPair) (.slice A31 ps.length c32) ps, rsl (kHd kPair) (.slice A1 C.J.us.length c2) C.J.us, rsl (kSl kPair) (.slice A1 C.J.us.length c2) ss, rsl kIns (.slice A6 C.J.map.length c7) C.J.map, rsl kIns (.slice A11 C.J.comb.length c12) C.J.comb, rsl kIns (.slice A16 C.J.red.length c17) C.J.red, rsl (kInt .i64) (.slice A21 C.J.marks.length c22) C.J.marks, rsl (kSl kPair) (.slice A31 ps.length c32) pss, rsl kRec (.slice A26 other.length c27) other, gl] := H
   refine c_reg (s_1 rfl (s_val rfl rfl (r_add (z := ((k + 1 : Nat) : Int)) rfl rfl rfl (by rw [w64 (by omega) (by omega)]; omega)) (s_1 rfl (s_nil ?_))))
   replace H := H.p4.p4.p4.k4
   replace H : Hd w0 F0 w [blk b36 [.slice A1 C.J.us.length c2, .int .i64 C.J.parts, .slice A6 C.J.map.length c7, .slice A11 C.J.comb.length c12, .slice A16 C.J.red.length c17, .int .i64 C.J.chunk, .int .i64 C.J.window, .int .i64 C.J.fuel, .slice A21 C.J.marks.length c22, .int .i64 C.w, .int .i64 C.t, .int .i64 C.o] 28, osl kRecF qa ((ordR lo41 ps C.J.us.length).map toF), osl kRecF qb (((ordR lo41 ps C.J.us.length).reverse).map toF), osl kRecF v100 ((moreR lo41 (other.take (k + 1))).map toF)] [rsl (kHd kPair) (.slice A31 ps.length c32) ps, rsl (kHd kPair) (.slice A1 C.J.us.length c2) C.J.us, rsl (kSl kPair) (.slice A1 C.J.us.length c2) ss, rsl kIns (.slice A6 C.J.map.length c7) C.J.map, rsl kIns (.slice A11 C.J.comb.length c12) C.J.comb, rsl kIns (.slice A16 C.J.red.length c17) C.J.red, rsl (kInt .i64) (.slice A21 C.J.marks.length c22) C.J.marks, rsl (kSl kPair) (.slice A31 ps.length c32) pss, rsl kRec (.slice A26 other.length c27) other, gl] := by rw [moreR_yes hx78 (.inl h97), List.map_append]; exact H
   exact q_round (s := (k, undef)) (k + 1, v100) ⟨rfl, rfl, rfl, rfl, rfl, rfl, rfl, trivial⟩ ⟨H, by (try dsimp only); omega⟩ (by (try dsimp only); omega)
  refine s_k 2 rfl ?_
  have th101 := H.thRr 8 rfl hx78
  refine s_val rfl rfl (r_iaE (p := oOf A26 + k * 7) rfl sl29 rfl rfl (by omega) (by omega) th101 rfl) (s_val rfl rfl (r_fa rfl fo37_0 rfl) (s_val rfl rfl (r_ld rfl ty3 rfl (H.elRr 8 rfl hx78 (q := 0) rfl rfl)) (s_val rfl rfl (r_ne rfl rfl rfl) (s_1 rfl (s_nil (q_then ?_))))))
  refine c_dec rfl (fun h102 => ?_) (fun h102 => ?_)
  ·refine c_reg (s_k 3 rfl ?_)
   have th103 := H.thRr 8 rfl hx78
   refine s_val rfl rfl (r_iaE (p := oOf A26 + k * 7) rfl sl29 rfl rfl (by omega) (by omega) th103 rfl) (s_val rfl rfl (r_ldA (cs := [.int .i64 a79, .int .i64 a80, .int .i64 a81, .int .i64 a82, .int .i64 a83, .slice A88 se85.length c89, .slice A90 pr87.length c91]) rfl ty37 rfl rfl (H.elsRr 8 rfl hx78 rfl)) (s_bsl (parts := [(0, .tmp 106)]) (vs := [.agg #[.int .i64 a79, .int .i64 a80, .int .i64 a81, .int .i64 a82, .int .i64 a83, .slice A88 se85.length c89, .slice A90 pr87.length c91]]) (cs := [.int .i64 a79, .int .i64 a80, .int .i64 a81, .int .i64 a82, .int .i64 a83, .slice A88 se85.length c89, .slice A90 pr87.length c91]) rfl rfl rfl sl29 zr37 rfl (by decide) (by decide) rfl rfl H (fun b104 w H => ?_)))
   replace H := H.p4
   refine s_appF (xs := (moreR lo41 (other.take k)).map toF) (ys := [(⟨a79, a80, a81, a82, a83, ⟨A88, se85.length, c89⟩, ⟨A90, pr87.length, c91⟩⟩ : RecF)]) rfl rfl rfl sl29 zr37 rfl (by decide) rfl rfl H (by first | omega | (simp only [List.length_append, List.length_cons, List.length_nil]; omega)) (fun F hA hR => blk_rsl (hA _ (List.mem_of_getElem? (i := 0) rfl)) rfl (by decide) (RepsR.flat_eq.2 rfl)) (fun v105 w H => (s_1 rfl (s_nil (q_blockN (q_then ?_)))))
   replace H : Hd _ _ _ [osl kRecF v105 (((moreR lo41 (other.take k)).map toF) ++ [(⟨a79, a80, a81, a82, a83, ⟨A88, se85.length, c89⟩, ⟨A90, pr87.length, c91⟩⟩ : RecF)]), blk b104 [.int .i64 a79, .int .i64 a80, .int .i64 a81, .int .i64 a82, .int .i64 a83, .slice A88 se85.length c89, .slice A90 pr87.length c91] 37, blk b36 [.slice A1 C.J.us.length c2, .int .i64 C.J.parts, .slice A6 C.J.map.length c7, .slice A11 C.J.comb.length c12, .slice A16 C.J.red.length c17, .int .i64 C.J.chunk, .int .i64 C.J.window, .int .i64 C.J.fuel, .slice A21 C.J.marks.length c22, .int .i64 C.w, .int .i64 C.t, .int .i64 C.o] 28, osl kRecF qa ((ordR lo41 ps C.J.us.length).map toF), osl kRecF qb (((ordR lo41 ps C.J.us.length).reverse).map toF)] [rsl (kHd kPair) (.slice A31 ps.length c32) ps, rsl (kHd kPair) (.slice A1 C.J.us.length c2) C.J.us, rsl (kSl kPair) (.slice A1 C.J.us.length c2) ss, rsl kIns (.slice A6 C.J.map.length c7) C.J.map, rsl kIns (.slice A11 C.J.comb.length c12) C.J.comb, rsl kIns (.slice A16 C.J.red.length c17) C.J.red, rsl (kInt .i64) (.slice A21 C.J.marks.length c22) C.J.marks, rsl (kSl kPair) (.slice A31 ps.length c32) pss, rsl kRec (.slice A26 other.length c27) other, gl] := H
   refine c_reg (s_1 rfl (s_val rfl rfl (r_add (z := ((k + 1 : Nat) : Int)) rfl rfl rfl (by rw [w64 (by omega) (by omega)]; omega)) (s_1 rfl (s_nil ?_))))
   replace H := H.p4.p4.p4.k4
   replace H : Hd w0 F0 w [blk b36 [.slice A1 C.J.us.length c2, .int .i64 C.J.parts, .slice A6 C.J.map.length c7, .slice A11 C.J.comb.length c12, .slice A16 C.J.red.length c17, .int .i64 C.J.chunk, .int .i64 C.J.window, .int .i64 C.J.fuel, .slice A21 C.J.marks.length c22, .int .i64 C.w, .int .i64 C.t, .int .i64 C.o] 28, osl kRecF qa ((ordR lo41 ps C.J.us.length).map toF), osl kRecF qb (((ordR lo41 ps C.J.us.length).reverse).map toF), osl kRecF v105 ((moreR lo41 (other.take (k + 1))).map toF)] [rsl (kHd kPair) (.slice A31 ps.length c32) ps, rsl (kHd kPair) (.slice A1 C.J.us.length c2) C.J.us, rsl (kSl kPair) (.slice A1 C.J.us.length c2) ss, rsl kIns (.slice A6 C.J.map.length c7) C.J.map, rsl kIns (.slice A11 C.J.comb.length c12) C.J.comb, rsl kIns (.slice A16 C.J.red.length c17) C.J.red, rsl (kInt .i64) (.slice A21 C.J.marks.length c22) C.J.marks, rsl (kSl kPair) (.slice A31 ps.length c32) pss, rsl kRec (.slice A26 other.length c27) other, gl] := by rw [moreR_yes hx78 (.inr h102), List.map_append]; exact H
   exact q_round (s := (k, undef)) (k + 1, v105) ⟨rfl, rfl, rfl, rfl, rfl, rfl, rfl, trivial⟩ ⟨H, by (try dsimp only); omega⟩ (by (try dsimp only); omega)
  refine c_skip (q_blockN (q_then (c_reg (s_1 rfl (s_val rfl rfl (r_add (z := ((k + 1 : Nat) : Int)) rfl rfl rfl (by rw [w64 (by omega) (by omega)]; omega)) (s_1 rfl (s_nil ?_)))))))
  replace H : Hd w0 F0 w [blk b36 [.slice A1 C.J.us.length c2, .int .i64 C.J.parts, .slice A6 C.J.map.length c7, .slice A11 C.J.comb.length c12, .slice A16 C.J.red.length c17, .int .i64 C.J.chunk, .int .i64 C.J.window, .int .i64 C.J.fuel, .slice A21 C.J.marks.length c22, .int .i64 C.w, .int .i64 C.t, .int .i64 C.o] 28, osl kRecF qa ((ordR lo41 ps C.J.us.length).map toF), osl kRecF qb (((ordR lo41 ps C.J.us.length).reverse).map toF), osl kRecF q ((moreR lo41 (other.take (k + 1))).map toF)] [rsl (kHd kPair) (.slice A31 ps.length c32) ps, rsl (kHd kPair) (.slice A1 C.J.us.length c2) C.J.us, rsl (kSl kPair) (.slice A1 C.J.us.length c2) ss, rsl kIns (.slice A6 C.J.map.length c7) C.J.map, rsl kIns (.slice A11 C.J.comb.length c12) C.J.comb, rsl kIns (.slice A16 C.J.red.length c17) C.J.red, rsl (kInt .i64) (.slice A21 C.J.marks.length c22) C.J.marks, rsl (kSl kPair) (.slice A31 ps.length c32) pss, rsl kRec (.slice A26 other.length c27) other, gl] := by rw [moreR_no hx78 (fun h => h.elim h97 h102)]; exact H
  exact q_round (s := (k, undef)) (k + 1, q) ⟨rfl, rfl, rfl, rfl, rfl, rfl, rfl, trivial⟩ ⟨H, by (try dsimp only); omega⟩ (by (try dsimp only); omega)
 refine c_exit (q_thenE (q_thenE (q_blockE (q_then (c_seq ?_)))))
 obtain rfl : k = other.length := by omega
 replace H : Hd w0 F0 w [blk b36 [.slice A1 C.J.us.length c2, .int .i64 C.J.parts, .slice A6 C.J.map.length c7, .slice A11 C.J.comb.length c12, .slice A16 C.J.red.length c17, .int .i64 C.J.chunk, .int .i64 C.J.window, .int .i64 C.J.fuel, .slice A21 C.J.marks.length c22, .int .i64 C.w, .int .i64 C.t, .int .i64 C.o] 28, osl kRecF qa ((ordR lo41 ps C.J.us.length).map toF), osl kRecF qb (((ordR lo41 ps C.J.us.length).reverse).map toF), osl kRecF q ((moreR lo41 other).map toF)] [rsl (kHd kPair) (.slice A31 ps.length c32) ps, rsl (kHd kPair) (.slice A1 C.J.us.length c2) C.J.us, rsl (kSl kPair) (.slice A1 C.J.us.length c2) ss, rsl kIns (.slice A6 C.J.map.length c7) C.J.map, rsl kIns (.slice A11 C.J.comb.length c12) C.J.comb, rsl kIns (.slice A16 C.J.red.length c17) C.J.red, rsl (kInt .i64) (.slice A21 C.J.marks.length c22) C.J.marks, rsl (kSl kPair) (.slice A31 ps.length c32) pss, rsl kRec (.slice A26 other.length c27) other, gl] := by rw [List.take_length] at H; exact H
 have hhm : homeC C lo41 ≠ 0 := home_pos hC (by omega) (by omega)
 have hlo : In64 lo41 := by unfold In64; omega
 have hsm := ord_small (p := lo41) (ps := ps) (n := C.J.us.length) (b := 20) (by omega) (fun i v x h e => hps i v x h e)
 have hso : ∀ r ∈ moreR lo41 other, (In64 r.sp ∧ r.set.length ≤ 1000) ∧ r.pairs.length ≤ 1000 := fun r hr => by have h1 := hot r (List.mem_filter.1 hr).1; exact ⟨⟨(wo.1 r (List.mem_filter.1 hr).1).1.2.2.1, by omega⟩, by have := (greatP_no h1.2).1; omega⟩
 refine c_reg (s_val rfl rfl (r_ldA (cs := [.slice A1 C.J.us.length c2, .int .i64 C.J.parts, .slice A6 C.J.map.length c7, .slice A11 C.J.comb.length c12, .slice A16 C.J.red.length c17, .int .i64 C.J.chunk, .int .i64 C.J.window, .int .i64 C.J.fuel, .slice A21 C.J.marks.length c22, .int .i64 C.w, .int .i64 C.t, .int .i64 C.o]) rfl ty28 rfl rfl (H.cellsI 0 rfl rfl)) (s_k 2 rfl (sc (ckOutput_ok (.slice A1 C.J.us.length c2) (.slice A6 C.J.map.length c7) (.slice A11 C.J.comb.length c12) (.slice A16 C.J.red.length c17) (.slice A21 C.J.marks.length c22) C lo41 qa (ordR lo41 ps C.J.us.length) hC hlo hhm gr (fun r hr => by have := hsm r hr; exact ⟨this.1, by omega⟩) (by rw [ordR_len]; omega)) H (lR 1 rfl (lR 3 rfl (lR 4 rfl (lR 5 rfl (lR 6 rfl (lX (fun F hA hR => rec_of_flat (own_rd F (hA _ (List.mem_of_getElem? (i := 1) rfl))) (ord_rd (hR _ (List.mem_of_getElem? (i := 0) rfl)))) (lR 9 rfl l0))))))) rfl rfl (e_fn kn24 rfl rfl) ?_)))
 rintro _ _ w ⟨u106, rfl, rfl⟩ H
 rw [ordR_p] at H ⊢
 rw [orders_all]
 replace H : Hd _ _ _ [osl kPair u106 ((outR dg C.J (newR C.J.us.length lo41 1 (allR lo41 (ordP ps) C.J.us.length))).1), blk b36 [.slice A1 C.J.us.length c2, .int .i64 C.J.parts, .slice A6 C.J.map.length c7, .slice A11 C.J.comb.length c12, .slice A16 C.J.red.length c17, .int .i64 C.J.chunk, .int .i64 C.J.window, .int .i64 C.J.fuel, .slice A21 C.J.marks.length c22, .int .i64 C.w, .int .i64 C.t, .int .i64 C.o] 28, osl kRecF qa ((ordR lo41 ps C.J.us.length).map toF), osl kRecF qb (((ordR lo41 ps C.J.us.length).reverse).map toF), osl kRecF q ((moreR lo41 other).map toF)] [rsl (kHd kPair) (.slice A31 ps.length c32) ps, rsl (kHd kPair) (.slice A1 C.J.us.length c2) C.J.us, rsl (kSl kPair) (.slice A1 C.J.us.length c2) ss, rsl kIns (.slice A6 C.J.map.length c7) C.J.map, rsl kIns (.slice A11 C.J.comb.length c12) C.J.comb, rsl kIns (.slice A16 C.J.red.length c17) C.J.red, rsl (kInt .i64) (.slice A21 C.J.marks.length c22) C.J.marks, rsl (kSl kPair) (.slice A31 ps.length c32) pss, rsl kRec (.slice A26 other.length c27) other, gl] := H
 refine s_k 7 rfl (s_nil (q_then (c_seq ?_)))
 have hbm : ((moreR lo41 other).map toF).length ≤ 20 := by rw [List.length_map]; have := moreR_len lo41 other; omega
 have hbr : (((ordR lo41 ps C.J.us.length).reverse).map toF).length = C.J.us.length := by rw [List.length_map, List.length_reverse, ordR_len]
 refine c_ord (.e 0 (.e 1 (.e 2 (.e 3 (.m 4 (.m 5 (.e 6 (.e 7 (.e 8 (.e 9 (.e 10 (.e 11 (.e 12 .z))))))))))))) (fun w => ∃ Ar, Hd w0 F0 w (osl kPair u106 ((outR dg C.J (newR C.J.us.length lo41 1 (allR lo41 (ordP ps) C.J.us.length))).1) :: blk b36 [.slice A1 C.J.us.length c2, .int .i64 C.J.parts, .slice A6 C.J.map.length c7, .slice A11 C.J.comb.length c12, .slice A16 C.J.red.length c17, .int .i64 C.J.chunk, .int .i64 C.J.window, .int .i64 C.J.fuel, .slice A21 C.J.marks.length c22, .int .i64 C.w, .int .i64 C.t, .int .i64 C.o] 28 :: osl kRecF qa ((ordR lo41 ps C.J.us.length).map toF) :: Ar) [rsl (kHd kPair) (.slice A31 ps.length c32) ps, rsl (kHd kPair) (.slice A1 C.J.us.length c2) C.J.us, rsl (kSl kPair) (.slice A1 C.J.us.length c2) ss, rsl kIns (.slice A6 C.J.map.length c7) C.J.map, rsl kIns (.slice A11 C.J.comb.length c12) C.J.comb, rsl kIns (.slice A16 C.J.red.length c17) C.J.red, rsl (kInt .i64) (.slice A21 C.J.marks.length c22) C.J.marks, rsl (kSl kPair) (.slice A31 ps.length c32) pss, rsl kRec (.slice A26 other.length c27) other, gl]) mo (by kernel_rfl) (fun w H => ⟨_, H⟩) H (fun w H => ?_)
 refine d_val rfl rfl rfl (fun w ⟨Ar, H⟩ => r_ldA (cs := [.slice A1 C.J.us.length c2, .int .i64 C.J.parts, .slice A6 C.J.map.length c7, .slice A11 C.J.comb.length c12, .slice A16 C.J.red.length c17, .int .i64 C.J.chunk, .int .i64 C.J.window, .int .i64 C.J.fuel, .slice A21 C.J.marks.length c22, .int .i64 C.w, .int .i64 C.t, .int .i64 C.o]) rfl ty28 rfl rfl (H.cellsI 1 rfl rfl)) (d_1 rfl (d_1 rfl (d_1 rfl (d_main rfl ?_))))
 replace H := H.p4
 obtain ⟨A107, c108, rfl, hc109, hm110, hp111⟩ := H.fA 4 rfl
 refine s_appF (xs := (moreR lo41 other).map toF) (ys := ((ordR lo41 ps C.J.us.length).reverse).map toF) rfl rfl rfl sl29 zr37 rfl (by decide) rfl rfl H (by first | omega | (simp only [List.length_append, List.length_cons, List.length_nil]; omega)) (fun F hA hR => own_rd F (hA _ (List.mem_of_getElem? (i := 3) rfl))) (fun v112 w H => ?_)
 replace H : Hd _ _ _ [osl kRecF v112 (((moreR lo41 other).map toF) ++ (((ordR lo41 ps C.J.us.length).reverse).map toF)), osl kPair u106 ((outR dg C.J (newR C.J.us.length lo41 1 (allR lo41 (ordP ps) C.J.us.length))).1), blk b36 [.slice A1 C.J.us.length c2, .int .i64 C.J.parts, .slice A6 C.J.map.length c7, .slice A11 C.J.comb.length c12, .slice A16 C.J.red.length c17, .int .i64 C.J.chunk, .int .i64 C.J.window, .int .i64 C.J.fuel, .slice A21 C.J.marks.length c22, .int .i64 C.w, .int .i64 C.t, .int .i64 C.o] 28, osl kRecF qa ((ordR lo41 ps C.J.us.length).map toF), osl kRecF (.slice A107 ((((ordR lo41 ps C.J.us.length).reverse).map toF).length) c108) (((ordR lo41 ps C.J.us.length).reverse).map toF)] [rsl (kHd kPair) (.slice A31 ps.length c32) ps, rsl (kHd kPair) (.slice A1 C.J.us.length c2) C.J.us, rsl (kSl kPair) (.slice A1 C.J.us.length c2) ss, rsl kIns (.slice A6 C.J.map.length c7) C.J.map, rsl kIns (.slice A11 C.J.comb.length c12) C.J.comb, rsl kIns (.slice A16 C.J.red.length c17) C.J.red, rsl (kInt .i64) (.slice A21 C.J.marks.length c22) C.J.marks, rsl (kSl kPair) (.slice A31 ps.length c32) pss, rsl kRec (.slice A26 other.length c27) other, gl] := H
 replace H := H.p3.p3.p3
 refine d_back ⟨_, H⟩ (d_main rfl ?_)
 replace H : Hd w0 F0 w [osl kPair u106 ((outR dg C.J (newR C.J.us.length lo41 1 (allR lo41 (ordP ps) C.J.us.length))).1), blk b36 [.slice A1 C.J.us.length c2, .int .i64 C.J.parts, .slice A6 C.J.map.length c7, .slice A11 C.J.comb.length c12, .slice A16 C.J.red.length c17, .int .i64 C.J.chunk, .int .i64 C.J.window, .int .i64 C.J.fuel, .slice A21 C.J.marks.length c22, .int .i64 C.w, .int .i64 C.t, .int .i64 C.o] 28, osl kRecF qa ((ordR lo41 ps C.J.us.length).map toF), osl kRecF v112 ((moreR lo41 other ++ (ordR lo41 ps C.J.us.length).reverse).map toF), osl kRecF (.slice A107 ((((ordR lo41 ps C.J.us.length).reverse).map toF).length) c108) (((ordR lo41 ps C.J.us.length).reverse).map toF)] [rsl (kHd kPair) (.slice A31 ps.length c32) ps, rsl (kHd kPair) (.slice A1 C.J.us.length c2) C.J.us, rsl (kSl kPair) (.slice A1 C.J.us.length c2) ss, rsl kIns (.slice A6 C.J.map.length c7) C.J.map, rsl kIns (.slice A11 C.J.comb.length c12) C.J.comb, rsl kIns (.slice A16 C.J.red.length c17) C.J.red, rsl (kInt .i64) (.slice A21 C.J.marks.length c22) C.J.marks, rsl (kSl kPair) (.slice A31 ps.length c32) pss, rsl kRec (.slice A26 other.length c27) other, gl] := by rw [List.map_append]; exact H
 refine sc (ckOutput_ok (.slice A1 C.J.us.length c2) (.slice A6 C.J.map.length c7) (.slice A11 C.J.comb.length c12) (.slice A16 C.J.red.length c17) (.slice A21 C.J.marks.length c22) C lo41 v112 (moreR lo41 other ++ (ordR lo41 ps C.J.us.length).reverse) hC hlo hhm gr (fun r hr => (List.mem_append.1 hr).elim (hso r) (fun hr => by have := hsm r (List.mem_reverse.1 hr); exact ⟨this.1, by omega⟩)) (by rw [List.length_append, List.length_reverse, ordR_len]; have := moreR_len lo41 other; omega)) H (lR 1 rfl (lR 3 rfl (lR 4 rfl (lR 5 rfl (lR 6 rfl (lX (fun F hA hR => rec_of_flat (own_rd F (hA _ (List.mem_of_getElem? (i := 3) rfl))) (fun r hr => (List.mem_append.1 hr).elim (fun hr => more_rd (hR _ (List.mem_of_getElem? (i := 8) rfl)) r hr) (fun hr => ord_rd (hR _ (List.mem_of_getElem? (i := 0) rfl)) r (List.mem_reverse.1 hr)))) (lR 9 rfl l0))))))) rfl rfl (e_fn kn24 rfl rfl) ?_
 rintro _ _ w ⟨u113, rfl, rfl⟩ H
 rw [show (moreR lo41 other ++ (ordR lo41 ps C.J.us.length).reverse).map Rec.p = (moreR lo41 other).map Rec.p ++ (allR lo41 (ordP ps) C.J.us.length).reverse from by rw [List.map_append, List.map_reverse, ordR_p], orders_same more_not] at H ⊢
 rw [orders_all]
 replace H : Hd _ _ _ [osl kPair u113 ((outR dg C.J (newR C.J.us.length lo41 1 (allR lo41 (ordP ps) C.J.us.length))).1), osl kPair u106 ((outR dg C.J (newR C.J.us.length lo41 1 (allR lo41 (ordP ps) C.J.us.length))).1), blk b36 [.slice A1 C.J.us.length c2, .int .i64 C.J.parts, .slice A6 C.J.map.length c7, .slice A11 C.J.comb.length c12, .slice A16 C.J.red.length c17, .int .i64 C.J.chunk, .int .i64 C.J.window, .int .i64 C.J.fuel, .slice A21 C.J.marks.length c22, .int .i64 C.w, .int .i64 C.t, .int .i64 C.o] 28, osl kRecF qa ((ordR lo41 ps C.J.us.length).map toF), osl kRecF v112 ((moreR lo41 other ++ (ordR lo41 ps C.J.us.length).reverse).map toF), osl kRecF (.slice A107 ((((ordR lo41 ps C.J.us.length).reverse).map toF).length) c108) (((ordR lo41 ps C.J.us.length).reverse).map toF)] [rsl (kHd kPair) (.slice A31 ps.length c32) ps, rsl (kHd kPair) (.slice A1 C.J.us.length c2) C.J.us, rsl (kSl kPair) (.slice A1 C.J.us.length c2) ss, rsl kIns (.slice A6 C.J.map.length c7) C.J.map, rsl kIns (.slice A11 C.J.comb.length c12) C.J.comb, rsl kIns (.slice A16 C.J.red.length c17) C.J.red, rsl (kInt .i64) (.slice A21 C.J.marks.length c22) C.J.marks, rsl (kSl kPair) (.slice A31 ps.length c32) pss, rsl kRec (.slice A26 other.length c27) other, gl] := H
 replace H := H.p3.p3.p3
 refine d_back ⟨_, H⟩ (d_1 rfl (d_1 rfl (d_1 rfl (d_1 rfl (d_1 rfl (d_1 rfl (d_1 rfl (d_nil (q_then (c_seq ?_))))))))))
 have hal : ((ordR lo41 ps C.J.us.length).map toF).length = C.J.us.length := by rw [List.length_map, ordR_len]
 obtain ⟨A114, c115, rfl, hc116, hm117, hp118⟩ := H.fA 2 rfl
 refine c_ord (.e 0 (.e 1 (.e 2 (.e 3 (.m 4 (.e 5 (.e 6 (.e 7 (.e 8 (.e 9 (.e 10 (.e 11 .z)))))))))))) (fun w => ∃ Ar, Hd w0 F0 w (osl kPair u106 ((outR dg C.J (newR C.J.us.length lo41 1 (allR lo41 (ordP ps) C.J.us.length))).1) :: blk b36 [.slice A1 C.J.us.length c2, .int .i64 C.J.parts, .slice A6 C.J.map.length c7, .slice A11 C.J.comb.length c12, .slice A16 C.J.red.length c17, .int .i64 C.J.chunk, .int .i64 C.J.window, .int .i64 C.J.fuel, .slice A21 C.J.marks.length c22, .int .i64 C.w, .int .i64 C.t, .int .i64 C.o] 28 :: osl kRecF (.slice A114 (((ordR lo41 ps C.J.us.length).map toF).length) c115) ((ordR lo41 ps C.J.us.length).map toF) :: osl kPair u113 ((outR dg C.J (newR C.J.us.length lo41 1 (allR lo41 (ordP ps) C.J.us.length))).1) :: osl kRecF v112 ((moreR lo41 other ++ (ordR lo41 ps C.J.us.length).reverse).map toF) :: osl kRecF (.slice A107 ((((ordR lo41 ps C.J.us.length).reverse).map toF).length) c108) (((ordR lo41 ps C.J.us.length).reverse).map toF) :: Ar) [rsl (kHd kPair) (.slice A31 ps.length c32) ps, rsl (kHd kPair) (.slice A1 C.J.us.length c2) C.J.us, rsl (kSl kPair) (.slice A1 C.J.us.length c2) ss, rsl kIns (.slice A6 C.J.map.length c7) C.J.map, rsl kIns (.slice A11 C.J.comb.length c12) C.J.comb, rsl kIns (.slice A16 C.J.red.length c17) C.J.red, rsl (kInt .i64) (.slice A21 C.J.marks.length c22) C.J.marks, rsl (kSl kPair) (.slice A31 ps.length c32) pss, rsl kRec (.slice A26 other.length c27) other, gl]) mo (by kernel_rfl) (fun w H => ⟨_, H⟩) H (fun w H => ?_)
 refine d_val rfl rfl rfl (fun w ⟨Ar, H⟩ => r_ldA (cs := [.slice A1 C.J.us.length c2, .int .i64 C.J.parts, .slice A6 C.J.map.length c7, .slice A11 C.J.comb.length c12, .slice A16 C.J.red.length c17, .int .i64 C.J.chunk, .int .i64 C.J.window, .int .i64 C.J.fuel, .slice A21 C.J.marks.length c22, .int .i64 C.w, .int .i64 C.t, .int .i64 C.o]) rfl ty28 rfl rfl (H.cellsI 1 rfl rfl)) (d_1 rfl (d_1 rfl (d_val rfl rfl rfl (fun w ⟨Ar, H⟩ => r_cutS rfl sl29 rfl rfl (by omega) (by omega) rfl) (d_main rfl (sc (ckOutput_ok (.slice A1 C.J.us.length c2) (.slice A6 C.J.map.length c7) (.slice A11 C.J.comb.length c12) (.slice A16 C.J.red.length c17) (.slice A21 C.J.marks.length c22) C lo41 (.slice (cutA A114 c115 1 7) ((((ordR lo41 ps C.J.us.length).map toF).length) - 1) (c115 - 1)) ((ordR lo41 ps C.J.us.length).drop 1) hC hlo hhm gr (fun r hr => by have := hsm r (List.mem_of_mem_drop hr); exact ⟨this.1, by omega⟩) (by rw [List.length_drop, ordR_len]; omega)) H (lR 1 rfl (lR 3 rfl (lR 4 rfl (lR 5 rfl (lR 6 rfl (lX (fun F hA hR => rec_of_flat ((by rw [List.map_drop]; exact rsl_suf (own_rd F (hA _ (List.mem_of_getElem? (i := 2) rfl))) (i := 1) (by omega))) (fun r hr => ord_rd (hR _ (List.mem_of_getElem? (i := 0) rfl)) r (List.mem_of_mem_drop hr))) (lR 9 rfl l0))))))) rfl rfl (e_fn kn24 rfl rfl) ?_)))))
 rintro _ _ w ⟨u119, rfl, rfl⟩ H
 rw [show ((ordR lo41 ps C.J.us.length).drop 1).map Rec.p = (allR lo41 (ordP ps) C.J.us.length).drop 1 from by rw [List.map_drop, ordR_p]] at H ⊢
 rw [orders_few (by omega)]
 replace H : Hd _ _ _ [osl kPair u119 ((outR dg C.J (newR C.J.us.length lo41 1 ((allR lo41 (ordP ps) C.J.us.length).drop 1))).1), osl kPair u106 ((outR dg C.J (newR C.J.us.length lo41 1 (allR lo41 (ordP ps) C.J.us.length))).1), blk b36 [.slice A1 C.J.us.length c2, .int .i64 C.J.parts, .slice A6 C.J.map.length c7, .slice A11 C.J.comb.length c12, .slice A16 C.J.red.length c17, .int .i64 C.J.chunk, .int .i64 C.J.window, .int .i64 C.J.fuel, .slice A21 C.J.marks.length c22, .int .i64 C.w, .int .i64 C.t, .int .i64 C.o] 28, osl kRecF (.slice A114 (((ordR lo41 ps C.J.us.length).map toF).length) c115) ((ordR lo41 ps C.J.us.length).map toF), osl kPair u113 ((outR dg C.J (newR C.J.us.length lo41 1 (allR lo41 (ordP ps) C.J.us.length))).1), osl kRecF v112 ((moreR lo41 other ++ (ordR lo41 ps C.J.us.length).reverse).map toF), osl kRecF (.slice A107 ((((ordR lo41 ps C.J.us.length).reverse).map toF).length) c108) (((ordR lo41 ps C.J.us.length).reverse).map toF)] [rsl (kHd kPair) (.slice A31 ps.length c32) ps, rsl (kHd kPair) (.slice A1 C.J.us.length c2) C.J.us, rsl (kSl kPair) (.slice A1 C.J.us.length c2) ss, rsl kIns (.slice A6 C.J.map.length c7) C.J.map, rsl kIns (.slice A11 C.J.comb.length c12) C.J.comb, rsl kIns (.slice A16 C.J.red.length c17) C.J.red, rsl (kInt .i64) (.slice A21 C.J.marks.length c22) C.J.marks, rsl (kSl kPair) (.slice A31 ps.length c32) pss, rsl kRec (.slice A26 other.length c27) other, gl] := H
 replace H := H.p6.p6.p6.p6.p6.p6
 refine d_back ⟨_, H⟩ (d_1 rfl (d_1 rfl (d_1 rfl (d_1 rfl (d_1 rfl (d_1 rfl (d_1 rfl (d_nil (q_then (c_seq (c_reg (s_k 6 rfl (s_val rfl rfl (r_not rfl rfl rfl) (s_k 4 rfl (s_val rfl rfl (r_eq rfl rfl rfl) (s_k 2 rfl ?_))))))))))))))))
 refine s_dec (d := 149) rfl (fun h120 => ?_) (fun h120 => ?_)
 ·refine s_k 2 rfl (sc (samePairs_ok u106 u113 ((outR dg C.J (newR C.J.us.length lo41 1 (allR lo41 (ordP ps) C.J.us.length))).1) ((outR dg C.J (newR C.J.us.length lo41 1 (allR lo41 (ordP ps) C.J.us.length))).1)) H (lA 0 rfl own_rd (lA 3 rfl own_rd l0)) rfl rfl (e_fn kn25 rfl rfl) ?_)
  rintro _ _ w ⟨rfl, rfl⟩ H
  refine s_k 2 rfl ?_
  refine s_dec (d := 154) rfl (fun h121 => ?_) (fun h121 => ?_)
  ·refine sc (awake26_ok ) H l0 rfl rfl (e_fn kn21 rfl rfl) ?_
   rintro _ _ w ⟨rfl, rfl⟩ H
   refine s_k 2 rfl (s_nil (q_then (c_ret (q_ret1 rfl rfl ?_))))
   replace H := H.nil |>.dropR
   replace H : Hd _ _ _ [] [rsl (kHd kPair) (.slice A1 C.J.us.length c2) C.J.us, rsl (kSl kPair) (.slice A1 C.J.us.length c2) ss, rsl kIns (.slice A6 C.J.map.length c7) C.J.map, rsl kIns (.slice A11 C.J.comb.length c12) C.J.comb, rsl kIns (.slice A16 C.J.red.length c17) C.J.red, rsl (kInt .i64) (.slice A21 C.J.marks.length c22) C.J.marks, rsl (kSl kPair) (.slice A31 ps.length c32) pss, rsl kRec (.slice A26 other.length c27) other, gl] := H
   exact fin ⟨rfl, rfl⟩ H
  exact (h121 rfl).elim
 exact (h120 rfl).elim
theorem checkOrders_ok (vS vM vC vR vK : Value) (ss : List (List Pair)) (map comb red : List Ins) (marks : List Int) (parts chunk window fuel : Int) (wj : ((∀ x ∈ ss, (∀ p ∈ x, p.key.size ≤ 9223372036854775807 ∧ p.val.size ≤ 9223372036854775807) ∧ x.length ≤ 9223372036854775807) ∧ ss.length ≤ 9223372036854775807) ∧ ((∀ p ∈ map, In64 p.op ∧ In64 p.a ∧ p.s.size ≤ 9223372036854775807) ∧ map.length ≤ 9223372036854775807) ∧ ((∀ p ∈ comb, In64 p.op ∧ In64 p.a ∧ p.s.size ≤ 9223372036854775807) ∧ comb.length ≤ 9223372036854775807) ∧ ((∀ p ∈ red, In64 p.op ∧ In64 p.a ∧ p.s.size ≤ 9223372036854775807) ∧ red.length ≤ 9223372036854775807) ∧ (∀ x ∈ marks, In64 x) ∧ marks.length ≤ 9223372036854775807) (wn : In64 parts ∧ In64 chunk ∧ In64 window ∧ In64 fuel) (cw ct co : Int) (wc : In64 cw ∧ In64 ct ∧ In64 co) (k1 : Int) (g1 : In64 k1) (vps : Value) (pss : List (List Pair)) (wps : (∀ x ∈ pss, (∀ p ∈ x, p.key.size ≤ 9223372036854775807 ∧ p.val.size ≤ 9223372036854775807) ∧ x.length ≤ 9223372036854775807) ∧ pss.length ≤ 9223372036854775807) (vo : Value) (other : List Rec) (wo : (∀ r ∈ other, (In64 r.kind ∧ In64 r.part ∧ In64 r.sp ∧ In64 r.att ∧ In64 r.why) ∧ ((∀ x ∈ r.set, In64 x) ∧ r.set.length ≤ 9223372036854775807) ∧ ((∀ p ∈ r.pairs, (p.key.size ≤ 9223372036854775807 ∧ p.val.size ≤ 9223372036854775807)) ∧ r.pairs.length ≤ 9223372036854775807)) ∧ other.length ≤ 9223372036854775807) :
  Cn Tryz.prog 3 [.agg #[vS, .int .i64 parts, vM, vC, vR, .int .i64 chunk, .int .i64 window, .int .i64 fuel, vK, .int .i64 cw, .int .i64 ct, .int .i64 co], .int .i64 k1, vps, vo] [] [rsl (kSl kPair) vS ss, rsl kIns vM map, rsl kIns vC comb, rsl kIns vR red, rsl (kInt .i64) vK marks, rsl (kSl kPair) vps pss, rsl kRec vo other, gl] (fun v Bs => v = .bool true ∧ Bs = []) :=
 Cn.heads0 fun us hus => checkOrdersC_ok vS vM vC vR vK ⟨⟨us, parts, map, comb, red, chunk, window, fuel, marks⟩, cw, ct, co⟩ ss (fun i hi => (wj.2.1.1 i hi).2.1) (fun i hi => (wj.2.2.1.1 i hi).2.1) (fun i hi => (wj.2.2.2.1.1 i hi).2.1) k1 g1 vps pss wps vo other wo
theorem v_foot {P : Program} {W : World} {name : String} {g : Nat} {cs : Array Value} (hg : P.globalNamed name = some g) (h : W.var? P name = some cs) : Old W g := by
 unfold World.var? at h
 rw [hg] at h
 simp only [Option.bind_some] at h
 show g < W.heap.size
 rcases Nat.lt_or_ge g W.heap.size with h' | h'
 ·exact h'
 ·simp [Array.getElem?_eq_none h'] at h
theorem star2 : "*" ++ "errors.errorString" = "*errors.errorString" := by decide
theorem ptrRow (u : TypeId) (h : Tryz.prog.typeName? 3 u = some "*errors.errorString") : u = 409 := typeName_ptr_named (nm := "errors.errorString") (by rw [star2]; kernel_rfl) (by kernel_rfl) (by decide) u (by rw [star2]; exact h)
theorem gn0 : Tryz.prog.globalNamed "internal/strconv.uint64pow10" = some 2 := by kernel_rfl
theorem gt0 : (Tryz.prog.globals[2]?).map (·.type) = some 406 := by kernel_rfl
theorem gn1 : Tryz.prog.globalNamed "strconv.ErrSyntax" = some 0 := by kernel_rfl
theorem gt1 : (Tryz.prog.globals[0]?).map (·.type) = some 370 := by kernel_rfl
theorem gn2 : Tryz.prog.globalNamed "strconv.ErrRange" = some 1 := by kernel_rfl
theorem gt2 : (Tryz.prog.globals[1]?).map (·.type) = some 370 := by kernel_rfl
theorem lu370 : Tryz.prog.underlying 370 = some (.interface (Tryz.prog.methodsAt 370)) := by kernel_rfl
theorem lu406 : Tryz.prog.underlying 406 = some (.array 20 270) := by kernel_rfl
theorem lu270 : Tryz.prog.underlying 270 = some (.int .u64) := by kernel_rfl
theorem lu409 : Tryz.prog.underlying 409 = some (.pointer 411) := by kernel_rfl
theorem lu411 : Tryz.prog.underlying 411 = some (.struct #[⟨ "s", 9, 0, false, "", "errors", 0⟩]) := by kernel_rfl
theorem lu9 : Tryz.prog.underlying 9 = some (.string) := by kernel_rfl
theorem lc270 : Tryz.prog.cellsOf 270 = 1 := by kernel_rfl
theorem lc406 : Tryz.prog.cellsOf 406 = 20 := by kernel_rfl
theorem lc411 : Tryz.prog.cellsOf 411 = 1 := by kernel_rfl
theorem lc9 : Tryz.prog.cellsOf 9 = 1 := by kernel_rfl
theorem gl_laid {W : World} (h : laidMet Tryz.prog Rows.checkOrdersRow.laid W) : gl.P W (Old W) := by
 refine ⟨?_, ?_, ?_⟩
 ·have h0 : laidMet Tryz.prog [("internal/strconv.uint64pow10", Lib.tabData .u64 Lib.pow10Tab)] W := by
   have e : Rows.checkOrdersRow.laid.filter (fun x => x.1 == "internal/strconv.uint64pow10") = [("internal/strconv.uint64pow10", Lib.tabData .u64 Lib.pow10Tab)] := by kernel_rfl
   have := h.filter (fun x => x.1 == "internal/strconv.uint64pow10"); rw [e] at this; exact this
  have hv := Lib.tabIs_of_head gn0 gt0 lu406 lu270 lc270 lc406 h0
  exact ⟨_, gn0, v_foot gn0 hv, _, hv, rfl⟩
 ·have h0 : laidMet Tryz.prog [("strconv.ErrSyntax", Rows.laid_strconv_ErrSyntax)] W := by
   have e : Rows.checkOrdersRow.laid.filter (fun x => x.1 == "strconv.ErrSyntax") = [("strconv.ErrSyntax", Rows.laid_strconv_ErrSyntax)] := by kernel_rfl
   have := h.filter (fun x => x.1 == "strconv.ErrSyntax"); rw [e] at this; exact this
  obtain ⟨a0, s0, hv, -⟩ := laid_sentinel h0 gn1 gt1 lu370 ptrRow lu409 lu411 rfl rfl lu9 lc411 lc9
  exact ⟨_, gn1, v_foot gn1 hv, _, hv, _, _, rfl⟩
 ·have h0 : laidMet Tryz.prog [("strconv.ErrRange", Rows.laid_strconv_ErrRange)] W := by
   have e : Rows.checkOrdersRow.laid.filter (fun x => x.1 == "strconv.ErrRange") = [("strconv.ErrRange", Rows.laid_strconv_ErrRange)] := by kernel_rfl
   have := h.filter (fun x => x.1 == "strconv.ErrRange"); rw [e] at this; exact this
  obtain ⟨a0, s0, hv, -⟩ := laid_sentinel h0 gn2 gt2 lu370 ptrRow lu409 lu411 rfl rfl lu9 lc411 lc9
  exact ⟨_, gn2, v_foot gn2 hv, _, hv, _, _, rfl⟩
end Go.Proofs.YthgehekecfpikaaGreatDoor.X
