/- CheckOrders: texts C1, XStg, N1, N2, J2, J3, J4, N3, N4, XOrd, N5, joined by a program of ours; what nothing names is left out. -/
import Derived.Test.YthgehekecfpikaaGreatDoorCheckOrdersQ4
set_option linter.unusedVariables false
set_option linter.unusedSimpArgs false
namespace Go.Proofs.YthgehekecfpikaaGreatDoor.X
open Go
theorem tmod_small (p : Int) {w : Int} (hw : 1 ≤ w) : -w < p.tmod w ∧ p.tmod w < w := by
  have h1 := Int.lt_tmod_of_pos p (show (0 : Int) < w by omega)
  have h2 := Int.tmod_lt_of_pos p (show (0 : Int) < w by omega)
  omega
set_option maxHeartbeats 4000000 in
theorem mayC_ok (vS : Value) (vM : Value) (vC : Value) (vR : Value) (vK : Value) (C : Cf) :
    Cn Tryz.prog 19 [.agg #[vS, .int .i64 C.J.parts, vM, vC, vR, .int .i64 C.J.chunk, .int .i64 C.J.window, .int .i64 C.J.fuel, vK, .int .i64 C.w, .int .i64 C.t, .int .i64 C.o]] [] [rsl (kHd kPair) vS C.J.us, rsl kIns vM C.J.map, rsl kIns vC C.J.comb, rsl kIns vR C.J.red, rsl (kInt .i64) vK C.J.marks] (fun v Bs => v = .bool (decide (mayC C)) ∧ Bs = []) := by
 intro w0 F0 H
 obtain ⟨A1, c2, rfl, hc3, hm4, hp5⟩ := H.fR 0 rfl
 obtain ⟨A6, c7, rfl, hc8, hm9, hp10⟩ := H.fR 1 rfl
 obtain ⟨A11, c12, rfl, hc13, hm14, hp15⟩ := H.fR 2 rfl
 obtain ⟨A16, c17, rfl, hc18, hm19, hp20⟩ := H.fR 3 rfl
 obtain ⟨A21, c22, rfl, hc23, hm24, hp25⟩ := H.fR 4 rfl
 refine enter (args := [.agg #[.slice A1 C.J.us.length c2, .int .i64 C.J.parts, .slice A6 C.J.map.length c7, .slice A11 C.J.comb.length c12, .slice A16 C.J.red.length c17, .int .i64 C.J.chunk, .int .i64 C.J.window, .int .i64 C.J.fuel, .slice A21 C.J.marks.length c22, .int .i64 C.w, .int .i64 C.t, .int .i64 C.o]]) Tryz.func19 rfl rfl (Nat.le_of_ble_eq_true rfl) (c_seq (c_reg (s_box rfl rfl rfl rfl H (fun b26 w H => (s_1 rfl (s_nil (q_then ?_)))))))
 replace H : Hd _ _ _ [blk b26 [.slice A1 C.J.us.length c2, .int .i64 C.J.parts, .slice A6 C.J.map.length c7, .slice A11 C.J.comb.length c12, .slice A16 C.J.red.length c17, .int .i64 C.J.chunk, .int .i64 C.J.window, .int .i64 C.J.fuel, .slice A21 C.J.marks.length c22, .int .i64 C.w, .int .i64 C.t, .int .i64 C.o] 28] [rsl (kHd kPair) (.slice A1 C.J.us.length c2) C.J.us, rsl kIns (.slice A6 C.J.map.length c7) C.J.map, rsl kIns (.slice A11 C.J.comb.length c12) C.J.comb, rsl kIns (.slice A16 C.J.red.length c17) C.J.red, rsl (kInt .i64) (.slice A21 C.J.marks.length c22) C.J.marks] := H
 refine c_seq (c_reg (s_val rfl rfl (r_fa rfl fo28_0 rfl) (s_val rfl rfl (r_ldA (cs := [.slice A1 C.J.us.length c2, .int .i64 C.J.parts, .slice A6 C.J.map.length c7, .slice A11 C.J.comb.length c12, .slice A16 C.J.red.length c17, .int .i64 C.J.chunk, .int .i64 C.J.window, .int .i64 C.J.fuel, .slice A21 C.J.marks.length c22]) rfl ty26 rfl rfl (H.cellsI 0 rfl rfl)) (sc (jmay_ok (.slice A1 C.J.us.length c2) (.slice A6 C.J.map.length c7) (.slice A11 C.J.comb.length c12) (.slice A16 C.J.red.length c17) (.slice A21 C.J.marks.length c22) C.J) H (lR 0 rfl (lR 1 rfl (lR 2 rfl (lR 3 rfl (lR 4 rfl l0))))) rfl rfl (e_fn kn88 rfl rfl) ?_))))
 rintro _ _ w ⟨rfl, rfl⟩ H
 refine s_1 rfl ?_
 refine s_dec (d := 6) (p := mayJ C.J) rfl (fun h27 => ?_) (fun h27 => ?_)
 ·refine s_val rfl rfl (r_fa rfl fo28_1 rfl) (s_val rfl rfl (r_ld rfl ty3 rfl (H.cellI 0 rfl rfl)) (sc (within_ok C.w 1 4) H l0 rfl rfl (e_fn kn89 rfl rfl) ?_))
  rintro _ _ w ⟨rfl, rfl⟩ H
  refine s_k 2 rfl ?_
  refine s_dec (d := 11) (p := 1 ≤ C.w ∧ C.w ≤ 4) rfl (fun h28 => ?_) (fun h28 => ?_)
  ·refine s_val rfl rfl (r_fa rfl fo28_2 rfl) (s_val rfl rfl (r_ld rfl ty3 rfl (H.cellI 0 rfl rfl)) (sc (within_ok C.t 1 3) H l0 rfl rfl (e_fn kn89 rfl rfl) ?_))
   rintro _ _ w ⟨rfl, rfl⟩ H
   refine s_k 2 rfl ?_
   refine s_dec (d := 16) (p := 1 ≤ C.t ∧ C.t ≤ 3) rfl (fun h29 => ?_) (fun h29 => ?_)
   ·refine s_val rfl rfl (r_fa rfl fo28_3 rfl) (s_val rfl rfl (r_ld rfl ty3 rfl (H.cellI 0 rfl rfl)) (sc (within_ok C.o 1 50) H l0 rfl rfl (e_fn kn89 rfl rfl) ?_))
    rintro _ _ w ⟨rfl, rfl⟩ H
    refine s_k 2 rfl (s_nil (q_then (c_ret (q_ret1 rfl rfl ?_))))
    replace H := H.keep 0
    have e : (1 ≤ C.o ∧ C.o ≤ 50) ↔ mayC C := ⟨fun g => ⟨h27, by omega, by omega, by omega⟩, fun g => by have g2 := g.2; omega⟩
    exact fin ⟨congrArg Value.bool (decide_eq_decide.2 e), rfl⟩ H
   ·refine s_k 5 rfl (s_nil (q_then (c_ret (q_ret1 rfl rfl ?_))))
    replace H := H.keep 0
    have e : ¬ mayC C := fun h => by have h1 := h.1; have h2 := h.2; first | exact absurd h1 h27 | omega
    exact fin ⟨congrArg Value.bool (decide_eq_false e).symm, rfl⟩ H
  ·refine s_k 10 rfl (s_nil (q_then (c_ret (q_ret1 rfl rfl ?_))))
   replace H := H.keep 0
   have e : ¬ mayC C := fun h => by have h1 := h.1; have h2 := h.2; first | exact absurd h1 h27 | omega
   exact fin ⟨congrArg Value.bool (decide_eq_false e).symm, rfl⟩ H
 ·refine s_k 12 rfl (s_k 3 rfl (s_nil (q_then (c_ret (q_ret1 rfl rfl ?_)))))
  replace H := H.keep 0
  have e : ¬ mayC C := fun h => by have h1 := h.1; have h2 := h.2; first | exact absurd h1 h27 | omega
  exact fin ⟨congrArg Value.bool (decide_eq_false e).symm, rfl⟩ H
set_option maxHeartbeats 4000000 in
theorem home_ok (vS : Value) (vM : Value) (vC : Value) (vR : Value) (vK : Value) (C : Cf) (p : Int) (hp : In64 p) :
    Cn Tryz.prog 71 [.agg #[vS, .int .i64 C.J.parts, vM, vC, vR, .int .i64 C.J.chunk, .int .i64 C.J.window, .int .i64 C.J.fuel, vK, .int .i64 C.w, .int .i64 C.t, .int .i64 C.o], .int .i64 p] [] [rsl (kHd kPair) vS C.J.us, rsl kIns vM C.J.map, rsl kIns vC C.J.comb, rsl kIns vR C.J.red, rsl (kInt .i64) vK C.J.marks] (fun v Bs => v = .int .i64 (homeC C p) ∧ Bs = []) := by
 intro w0 F0 H
 unfold In64 at hp
 refine enter (args := [.agg #[vS, .int .i64 C.J.parts, vM, vC, vR, .int .i64 C.J.chunk, .int .i64 C.J.window, .int .i64 C.J.fuel, vK, .int .i64 C.w, .int .i64 C.t, .int .i64 C.o], .int .i64 p]) Tryz.func71 rfl rfl (Nat.le_of_ble_eq_true rfl) (c_seq (c_reg (s_box rfl rfl rfl rfl H (fun b1 w H => (s_1 rfl (s_nil (q_then ?_)))))))
 replace H : Hd _ _ _ [blk b1 [vS, .int .i64 C.J.parts, vM, vC, vR, .int .i64 C.J.chunk, .int .i64 C.J.window, .int .i64 C.J.fuel, vK, .int .i64 C.w, .int .i64 C.t, .int .i64 C.o] 28] [rsl (kHd kPair) vS C.J.us, rsl kIns vM C.J.map, rsl kIns vC C.J.comb, rsl kIns vR C.J.red, rsl (kInt .i64) vK C.J.marks] := H
 refine c_seq (c_seq (c_reg (s_val rfl rfl (r_ldA (cs := [vS, .int .i64 C.J.parts, vM, vC, vR, .int .i64 C.J.chunk, .int .i64 C.J.window, .int .i64 C.J.fuel, vK, .int .i64 C.w, .int .i64 C.t, .int .i64 C.o]) rfl ty28 rfl rfl (H.cellsI 0 rfl rfl)) (sc (mayC_ok vS vM vC vR vK C) H (lR 0 rfl (lR 1 rfl (lR 2 rfl (lR 3 rfl (lR 4 rfl l0))))) rfl rfl (e_fn kn19 rfl rfl) ?_))))
 rintro _ _ w ⟨rfl, rfl⟩ H
 refine s_val rfl rfl (r_notP rfl rfl) (s_1 rfl ?_)
 refine s_dec (d := 8) (p := ¬ (mayC C)) rfl (fun h2 => ?_) (fun h2 => ?_)
 ·refine s_k 8 rfl (s_nil (q_then (c_yes rfl (c_seq (c_reg (s_1 rfl (s_nil (q_then (c_ret (q_thenR (q_ret1 rfl rfl ?_)))))))))))
  replace H := H.keep 0
  exact fin ⟨congrArg (Value.int .i64) (if_pos (by first | exact .inl h2 | exact .inr h2)).symm, rfl⟩ H
 ·have hmc : mayC C := Classical.not_not.1 h2
  have hm1 := hmc.2
  have hmp := hmc.1.2.1
  refine s_1 rfl (s_val rfl rfl (r_fa rfl fo28_0 rfl) (s_val rfl rfl (r_fa rfl fo26_1 rfl) (s_val rfl rfl (r_ld rfl ty3 rfl (H.cellI 0 rfl rfl)) (s_val rfl rfl (r_sub (z := C.J.parts - 1) rfl rfl rfl (w64 (by omega) (by omega))) (sc (within_ok p 0 (C.J.parts - 1)) H l0 rfl rfl (e_fn kn89 rfl rfl) ?_)))))
  rintro _ _ w ⟨rfl, rfl⟩ H
  refine s_val rfl rfl (r_notP rfl rfl) (s_1 rfl (s_nil (q_then ?_)))
  refine c_dec (p := ¬ (0 ≤ p ∧ p ≤ (C.J.parts - 1))) rfl (fun h3 => ?_) (fun h3 => ?_)
  ·refine c_seq (c_reg (s_1 rfl (s_nil (q_then (c_ret (q_thenR (q_ret1 rfl rfl ?_)))))))
   replace H := H.keep 0
   exact fin ⟨congrArg (Value.int .i64) (if_pos (by first | exact .inl h3 | exact .inr h3)).symm, rfl⟩ H
  ·refine c_skip (q_then (c_seq (c_reg (s_1 rfl (s_val rfl rfl (r_fa rfl fo28_1 rfl) (s_val rfl rfl (r_ld rfl ty3 rfl (H.cellI 0 rfl rfl)) (s_val rfl rfl (r_rem (z := p.tmod C.w) rfl rfl rfl (by omega) rfl) (s_val rfl rfl (r_add (z := 1 + p.tmod C.w) rfl rfl rfl (by have h1 := tmod_small p (show 1 ≤ C.w by omega); exact w64 (by omega) (by omega))) (s_1 rfl (s_nil (q_then (c_ret (q_ret1 rfl rfl ?_)))))))))))))
   replace H := H.keep 0
   have e : homeC C p = 1 + p.tmod C.w := if_neg (fun h => h.elim (fun h => h hmc) (fun h => by omega))
   exact fin ⟨by rw [e], rfl⟩ H
set_option maxHeartbeats 1000000 in
theorem cloneIns_ok (vxs : Value) (xs : List Ins) (hb : xs.length ≤ 1000000) :
    Cn Tryz.prog 158 [vxs] [] [rsl kIns vxs xs] (fun v Bs => Bs = [osl kIns v xs]) := by
 intro w0 F0 H
 obtain ⟨A1, c2, rfl, hc3, hm4, hp5⟩ := H.fR 0 rfl
 refine enter (args := [.slice A1 xs.length c2]) Tryz.func158 rfl rfl (Nat.le_of_ble_eq_true rfl) (c_seq (c_reg (s_1 rfl (s_nil (q_then ?_)))))
 replace H : Hd _ _ _ [] [rsl kIns (.slice A1 xs.length c2) xs] := H
 refine c_seq (c_seq (c_reg (s_1 rfl (s_val rfl rfl (r_seq0 rfl un23 rfl rfl) (s_nil (q_then ?_))))))
 refine c_cond (b := (A1 : Option Addr).isNone) rfl (fun h6 => ?_) (fun h6 => ?_)
 ·refine c_seq (c_reg (s_1 rfl (s_nil (q_then (c_ret (q_thenR (q_ret1 rfl rfl ?_)))))))
  obtain rfl := H.nilR 0 rfl h6
  replace H := H.newnil kIns
  exact fin rfl H
 ·refine c_skip (q_then (c_seq (c_reg (s_bsl0 rfl rfl rfl sl23 H (fun b7 w H => (s_1 rfl ?_))))))
  replace H := H.newnilA kIns (some ⟨b7, 0, none⟩)
  refine s_appF (xs := []) (ys := xs) rfl rfl rfl sl23 zr223 rfl (by decide) rfl rfl H (by simp only [List.length_nil]; omega) (fun F hA hR => hR _ (List.mem_of_getElem? (i := 0) rfl)) (fun v8 w H => (s_1 rfl (s_nil (q_then ?_))))
  replace H : Hd _ _ _ [osl kIns v8 ([] ++ xs), blk b7 [] 223] [rsl kIns (.slice A1 xs.length c2) xs] := H
  refine c_ret (q_ret1 rfl rfl ?_)
  rw [List.nil_append] at H
  replace H := H.k1
  exact fin rfl H
set_option maxHeartbeats 1000000 in
theorem cloneInt_ok (vxs : Value) (xs : List Int) (hb : xs.length ≤ 1000000) :
    Cn Tryz.prog 129 [vxs] [] [rsl (kInt .i64) vxs xs] (fun v Bs => Bs = [osl (kInt .i64) v xs]) := by
 intro w0 F0 H
 obtain ⟨A1, c2, rfl, hc3, hm4, hp5⟩ := H.fR 0 rfl
 refine enter (args := [.slice A1 xs.length c2]) Tryz.func129 rfl rfl (Nat.le_of_ble_eq_true rfl) (c_seq (c_reg (s_1 rfl (s_nil (q_then ?_)))))
 replace H : Hd _ _ _ [] [rsl (kInt .i64) (.slice A1 xs.length c2) xs] := H
 refine c_seq (c_seq (c_reg (s_1 rfl (s_val rfl rfl (r_seq0 rfl un24 rfl rfl) (s_nil (q_then ?_))))))
 refine c_cond (b := (A1 : Option Addr).isNone) rfl (fun h6 => ?_) (fun h6 => ?_)
 ·refine c_seq (c_reg (s_1 rfl (s_nil (q_then (c_ret (q_thenR (q_ret1 rfl rfl ?_)))))))
  obtain rfl := H.nilR 0 rfl h6
  replace H := H.newnil (kInt .i64)
  exact fin rfl H
 ·refine c_skip (q_then (c_seq (c_reg (s_bsl0 rfl rfl rfl sl24 H (fun b7 w H => (s_1 rfl ?_))))))
  replace H := H.newnilA (kInt .i64) (some ⟨b7, 0, none⟩)
  refine s_appF (xs := []) (ys := xs) rfl rfl rfl sl24 zr3 rfl (by decide) rfl rfl H (by simp only [List.length_nil]; omega) (fun F hA hR => hR _ (List.mem_of_getElem? (i := 0) rfl)) (fun v8 w H => (s_1 rfl (s_nil (q_then ?_))))
  replace H : Hd _ _ _ [osl (kInt .i64) v8 ([] ++ xs), blk b7 [] 3] [rsl (kInt .i64) (.slice A1 xs.length c2) xs] := H
  refine c_ret (q_ret1 rfl rfl ?_)
  rw [List.nil_append] at H
  replace H := H.k1
  exact fin rfl H
set_option maxHeartbeats 1000000 in
theorem cloneHdr_ok (vxs : Value) (xs : List Hdr) (hb : xs.length ≤ 1000000) :
    Cn Tryz.prog 157 [vxs] [] [rsl kHdr vxs xs] (fun v Bs => Bs = [osl kHdr v xs]) := by
 intro w0 F0 H
 obtain ⟨A1, c2, rfl, hc3, hm4, hp5⟩ := H.fR 0 rfl
 refine enter (args := [.slice A1 xs.length c2]) Tryz.func157 rfl rfl (Nat.le_of_ble_eq_true rfl) (c_seq (c_reg (s_1 rfl (s_nil (q_then ?_)))))
 replace H : Hd _ _ _ [] [rsl kHdr (.slice A1 xs.length c2) xs] := H
 refine c_seq (c_seq (c_reg (s_1 rfl (s_val rfl rfl (r_seq0 rfl un22 rfl rfl) (s_nil (q_then ?_))))))
 refine c_cond (b := (A1 : Option Addr).isNone) rfl (fun h6 => ?_) (fun h6 => ?_)
 ·refine c_seq (c_reg (s_1 rfl (s_nil (q_then (c_ret (q_thenR (q_ret1 rfl rfl ?_)))))))
  obtain rfl := H.nilR 0 rfl h6
  replace H := H.newnil kHdr
  exact fin rfl H
 ·refine c_skip (q_then (c_seq (c_reg (s_bsl0 rfl rfl rfl sl22 H (fun b7 w H => (s_1 rfl ?_))))))
  replace H := H.newnilA kHdr (some ⟨b7, 0, none⟩)
  refine s_appF (xs := []) (ys := xs) rfl rfl rfl sl22 zr35 rfl (by decide) rfl rfl H (by simp only [List.length_nil]; omega) (fun F hA hR => hR _ (List.mem_of_getElem? (i := 0) rfl)) (fun v8 w H => (s_1 rfl (s_nil (q_then ?_))))
  replace H : Hd _ _ _ [osl kHdr v8 ([] ++ xs), blk b7 [] 35] [rsl kHdr (.slice A1 xs.length c2) xs] := H
  refine c_ret (q_ret1 rfl rfl ?_)
  rw [List.nil_append] at H
  replace H := H.k1
  exact fin rfl H
theorem own_at {us zs : List (Value × List Pair)} {i : Nat} {A : Option Addr} {c : Nat} {x : List Pair} (hz : zs.length = i) (h : us[i]? = some (.slice A x.length c, x)) : (hdr1 zs ++ (hdr1 us).drop i)[i]? = some (⟨A, x.length, c⟩ : Hdr) := by
  subst hz
  have hl : (hdr1 zs).length = zs.length := by simp [hdr1]
  rw [List.getElem?_append_right (by omega), hl, Nat.sub_self, List.getElem?_drop, Nat.add_zero]
  unfold hdr1
  rw [List.getElem?_map, h]
  rfl
theorem own_set {us zs : List (Value × List Pair)} {i : Nat} {A : Option Addr} {n c : Nat} {x : List Pair} (hz : zs.length = i) (hi : i < us.length) : (hdr1 zs ++ (hdr1 us).drop i).set i (⟨A, n, c⟩ : Hdr) = hdr1 (zs ++ [(.slice A n c, x)]) ++ (hdr1 us).drop (i + 1) := by
  subst hz
  have hl : (hdr1 zs).length = zs.length := by simp [hdr1]
  have hu : (hdr1 us).length = us.length := by simp [hdr1]
  rw [List.set_append_right _ _ (by omega), hl, Nat.sub_self, List.drop_eq_getElem_cons (by omega), List.set_cons_zero]
  unfold hdr1
  rw [List.map_append, List.append_assoc]
  rfl
theorem own_take {us zs : List (Value × List Pair)} {i : Nat} {v u : Value} {x : List Pair} (hz : zs.map (·.2) = (us.map (·.2)).take i) (h : us[i]? = some (v, x)) : (zs ++ [(u, x)]).map (·.2) = (us.map (·.2)).take (i + 1) := by
  rw [List.map_append, hz, take_snoc (x := x) (by rw [List.getElem?_map, h]; rfl)]
  rfl
set_option maxHeartbeats 4000000 in
theorem own_ok (vS : Value) (vM : Value) (vC : Value) (vR : Value) (vK : Value) (C : Cf) (hC : mayC C) :
    Cn Tryz.prog 94 [.agg #[vS, .int .i64 C.J.parts, vM, vC, vR, .int .i64 C.J.chunk, .int .i64 C.J.window, .int .i64 C.J.fuel, vK, .int .i64 C.w, .int .i64 C.t, .int .i64 C.o]] [] [rsl (kHd kPair) vS C.J.us, rsl kIns vM C.J.map, rsl kIns vC C.J.comb, rsl kIns vR C.J.red, rsl (kInt .i64) vK C.J.marks] (fun v Bs => ∃ J2 : Job, ∃ vS2 : Value, ∃ vM2 : Value, ∃ vC2 : Value, ∃ vR2 : Value, ∃ vK2 : Value, v = .agg #[vS2, .int .i64 J2.parts, vM2, vC2, vR2, .int .i64 J2.chunk, .int .i64 J2.window, .int .i64 J2.fuel, vK2, .int .i64 C.w, .int .i64 C.t, .int .i64 C.o] ∧ Bs = [osl (kHd kPair) vS2 J2.us, osl kIns vM2 J2.map, osl kIns vC2 J2.comb, osl kIns vR2 J2.red, osl (kInt .i64) vK2 J2.marks] ∧ (SameJ J2 C.J)) := by
 intro w0 F0 H
 obtain ⟨A1, c2, rfl, hc3, hm4, hp5⟩ := H.fR 0 rfl
 obtain ⟨A6, c7, rfl, hc8, hm9, hp10⟩ := H.fR 1 rfl
 obtain ⟨A11, c12, rfl, hc13, hm14, hp15⟩ := H.fR 2 rfl
 obtain ⟨A16, c17, rfl, hc18, hm19, hp20⟩ := H.fR 3 rfl
 obtain ⟨A21, c22, rfl, hc23, hm24, hp25⟩ := H.fR 4 rfl
 have hsp := hC.1.2.2.2.1
 have hus := hC.1.1
 have hb1 := (badI_good hC.1.2.2.2.2.2.1.2).1
 have hb2 := (badI_good hC.1.2.2.2.2.2.2.1.2).1
 have hb3 := (badI_good hC.1.2.2.2.2.2.2.2.1).1
 have hb4 := hC.1.2.2.1
 have hul : (hdr1 C.J.us).length = C.J.us.length := by simp [hdr1]
 refine enter (args := [.agg #[.slice A1 C.J.us.length c2, .int .i64 C.J.parts, .slice A6 C.J.map.length c7, .slice A11 C.J.comb.length c12, .slice A16 C.J.red.length c17, .int .i64 C.J.chunk, .int .i64 C.J.window, .int .i64 C.J.fuel, .slice A21 C.J.marks.length c22, .int .i64 C.w, .int .i64 C.t, .int .i64 C.o]]) Tryz.func94 rfl rfl (Nat.le_of_ble_eq_true rfl) (c_seq (c_reg (s_box rfl rfl rfl rfl H (fun b26 w H => (s_alloc rfl rfl rfl zr28 H (fun b27 w H => (s_nil (q_then ?_))))))))
 replace H : Hd _ _ _ [blk b27 [.slice none 0 0, .int .i64 0, .slice none 0 0, .slice none 0 0, .slice none 0 0, .int .i64 0, .int .i64 0, .int .i64 0, .slice none 0 0, .int .i64 0, .int .i64 0, .int .i64 0] 28, blk b26 [.slice A1 C.J.us.length c2, .int .i64 C.J.parts, .slice A6 C.J.map.length c7, .slice A11 C.J.comb.length c12, .slice A16 C.J.red.length c17, .int .i64 C.J.chunk, .int .i64 C.J.window, .int .i64 C.J.fuel, .slice A21 C.J.marks.length c22, .int .i64 C.w, .int .i64 C.t, .int .i64 C.o] 28] [rsl (kHd kPair) (.slice A1 C.J.us.length c2) C.J.us, rsl kIns (.slice A6 C.J.map.length c7) C.J.map, rsl kIns (.slice A11 C.J.comb.length c12) C.J.comb, rsl kIns (.slice A16 C.J.red.length c17) C.J.red, rsl (kInt .i64) (.slice A21 C.J.marks.length c22) C.J.marks] := H
 refine c_seq (c_reg (s_val rfl rfl (r_fa rfl fo28_0 rfl) (s_val rfl rfl (r_fa rfl fo26_0 rfl) (s_val rfl rfl (r_ld rfl ty22 rfl (H.cellI 1 rfl rfl)) (sc (cloneHdr_ok (.slice A1 C.J.us.length c2) (hdr1 C.J.us) (by simp only [hdr1, List.length_map]; omega)) H (lX (fun F hA hR => hdr_rd (hR _ (List.mem_of_getElem? (i := 0) rfl))) l0) rfl rfl (e_fn kn157 rfl rfl) ?_)))))
 rintro v28 _ w rfl H
 refine s_val rfl rfl (r_fa rfl fo28_0 rfl) (s_val rfl rfl (r_fa rfl fo26_0 rfl) ?_)
 obtain ⟨A29, c30, rfl, hc31, hm32, hp33⟩ := H.fA 0 rfl
 replace H := H.p2
 refine s_st rfl rfl rfl ty22 rfl rfl H rfl (Nat.le_of_ble_eq_true rfl) (fun u hu => by simp [Value.cells] at hu; subst hu; rfl) (fun w H => ?_)
 replace H : Hd _ _ _ [blk b26 [.slice A29 ((hdr1 C.J.us).length) c30, .int .i64 C.J.parts, .slice A6 C.J.map.length c7, .slice A11 C.J.comb.length c12, .slice A16 C.J.red.length c17, .int .i64 C.J.chunk, .int .i64 C.J.window, .int .i64 C.J.fuel, .slice A21 C.J.marks.length c22, .int .i64 C.w, .int .i64 C.t, .int .i64 C.o] 28, osl kHdr (.slice A29 ((hdr1 C.J.us).length) c30) (hdr1 C.J.us), blk b27 [.slice none 0 0, .int .i64 0, .slice none 0 0, .slice none 0 0, .slice none 0 0, .int .i64 0, .int .i64 0, .int .i64 0, .slice none 0 0, .int .i64 0, .int .i64 0, .int .i64 0] 28] [rsl (kHd kPair) (.slice A1 C.J.us.length c2) C.J.us, rsl kIns (.slice A6 C.J.map.length c7) C.J.map, rsl kIns (.slice A11 C.J.comb.length c12) C.J.comb, rsl kIns (.slice A16 C.J.red.length c17) C.J.red, rsl (kInt .i64) (.slice A21 C.J.marks.length c22) C.J.marks] := H
 refine s_nil (q_then (c_seq (c_seq (c_reg (s_val rfl rfl (r_fa rfl fo28_0 rfl) (s_val rfl rfl (r_fa rfl fo26_0 rfl) (s_val rfl rfl (r_ld rfl ty22 rfl (H.cellI 0 rfl rfl)) (s_val rfl rfl (r_lenL rfl un22 rfl) (s_1 rfl (s_nil (q_then (c_block ?_))))))))))))
 replace H := H.p2
 replace H := H.p1
 replace H := H.p2
 replace H := H.h1 (A := osl kHdr (.slice A29 ((hdr1 C.J.us).length) c30) (hdr1 ([] : List (Value × List Pair)) ++ (hdr1 C.J.us).drop 0))
 replace H := H.big0 (fun u : Value × List Pair => osl kPair u.1 u.2)
 replace H : Hd _ _ _ [inS kPair ([] : List (Value × List Pair)), osl kHdr (.slice A29 ((hdr1 C.J.us).length) c30) (hdr1 ([] : List (Value × List Pair)) ++ (hdr1 C.J.us).drop 0), blk b26 [.slice A29 ((hdr1 C.J.us).length) c30, .int .i64 C.J.parts, .slice A6 C.J.map.length c7, .slice A11 C.J.comb.length c12, .slice A16 C.J.red.length c17, .int .i64 C.J.chunk, .int .i64 C.J.window, .int .i64 C.J.fuel, .slice A21 C.J.marks.length c22, .int .i64 C.w, .int .i64 C.t, .int .i64 C.o] 28, blk b27 [.slice none 0 0, .int .i64 0, .slice none 0 0, .slice none 0 0, .slice none 0 0, .int .i64 0, .int .i64 0, .int .i64 0, .slice none 0 0, .int .i64 0, .int .i64 0, .int .i64 0] 28] [rsl (kHd kPair) (.slice A1 C.J.us.length c2) C.J.us, rsl kIns (.slice A6 C.J.map.length c7) C.J.map, rsl kIns (.slice A11 C.J.comb.length c12) C.J.comb, rsl kIns (.slice A16 C.J.red.length c17) C.J.red, rsl (kInt .i64) (.slice A21 C.J.marks.length c22) C.J.marks] := H
 refine c_loop (σ := Nat × List (Value × List Pair)) (fun (i, zs) => [(1, .pointer (some ⟨b26, 0, none⟩)), (2, .pointer (some ⟨b27, 0, none⟩)), (13, .slice A29 ((hdr1 C.J.us).length) c30), (14, .int .i64 (((hdr1 C.J.us).length : Nat) : Int)), (15, .int .i64 ((i : Nat) : Int))]) (fun (i, zs) w => (Hd w0 F0 w [inS kPair zs, osl kHdr (.slice A29 ((hdr1 C.J.us).length) c30) (hdr1 zs ++ (hdr1 C.J.us).drop i), blk b26 [.slice A29 ((hdr1 C.J.us).length) c30, .int .i64 C.J.parts, .slice A6 C.J.map.length c7, .slice A11 C.J.comb.length c12, .slice A16 C.J.red.length c17, .int .i64 C.J.chunk, .int .i64 C.J.window, .int .i64 C.J.fuel, .slice A21 C.J.marks.length c22, .int .i64 C.w, .int .i64 C.t, .int .i64 C.o] 28, blk b27 [.slice none 0 0, .int .i64 0, .slice none 0 0, .slice none 0 0, .slice none 0 0, .int .i64 0, .int .i64 0, .int .i64 0, .slice none 0 0, .int .i64 0, .int .i64 0, .int .i64 0] 28] [rsl (kHd kPair) (.slice A1 C.J.us.length c2) C.J.us, rsl kIns (.slice A6 C.J.map.length c7) C.J.map, rsl kIns (.slice A11 C.J.comb.length c12) C.J.comb, rsl kIns (.slice A16 C.J.red.length c17) C.J.red, rsl (kInt .i64) (.slice A21 C.J.marks.length c22) C.J.marks]) ∧ (zs.length = i ∧ zs.map (·.2) = (C.J.us.map (·.2)).take i) ∧ (i ≤ C.J.us.length)) (fun (i, zs) => C.J.us.length - i) (0, []) ⟨rfl, rfl, rfl, rfl, rfl, trivial⟩ ⟨H, ⟨rfl, rfl⟩, Nat.zero_le _⟩ ?_
 rintro ⟨i, zs⟩ w ⟨H, hz, hi⟩
 refine c_seq (c_reg (s_val rfl rfl (r_lt rfl rfl rfl) (s_nil (q_then (c_seq ?_)))))
 refine c_dec (p := ((i : Nat) : Int) < (((hdr1 C.J.us).length : Nat) : Int)) rfl (fun h34 => ?_) (fun h34 => ?_)
 ·refine c_skip (q_then (c_seq (c_block (c_seq ?_))))
  obtain ⟨⟨u37, x35⟩, hx36⟩ : ∃ z9, C.J.us[i]? = some z9 := ⟨_, List.getElem?_eq_getElem (show i < C.J.us.length by omega)⟩
  obtain ⟨A38, c39, rfl, hc40, hm41⟩ := H.nestR 0 rfl hx36
  have hk42 := own_at (zs := zs) hz.1 hx36
  have hxl : x35.length ≤ 8 := (hsp _ (at_mem hx36)).1
  refine c_reg (s_1 rfl ?_)
  have th43 := H.thA 1 rfl hk42
  refine s_val rfl rfl (r_iaE (p := oOf A29 + i * 1) rfl sl22 rfl rfl (by omega) (by omega) th43 rfl) (s_val rfl rfl (r_ld rfl ty35 rfl (H.elA 1 rfl hk42 (q := 0) rfl rfl)) (s_k 2 rfl (s_nil (q_then ?_))))
  replace H := H.p3
  replace H := H.p3
  replace H := H.p2
  replace H := H.h4 (A := inS kPair zs) (B := blk b26 [.slice A29 ((hdr1 C.J.us).length) c30, .int .i64 C.J.parts, .slice A6 C.J.map.length c7, .slice A11 C.J.comb.length c12, .slice A16 C.J.red.length c17, .int .i64 C.J.chunk, .int .i64 C.J.window, .int .i64 C.J.fuel, .slice A21 C.J.marks.length c22, .int .i64 C.w, .int .i64 C.t, .int .i64 C.o] 28) (C := blk b27 [.slice none 0 0, .int .i64 0, .slice none 0 0, .slice none 0 0, .slice none 0 0, .int .i64 0, .int .i64 0, .int .i64 0, .slice none 0 0, .int .i64 0, .int .i64 0, .int .i64 0] 28) (D := osl kHdr (.slice A29 ((hdr1 C.J.us).length) c30) (hdr1 zs ++ (hdr1 C.J.us).drop i))
  refine c_ord (.e 0 (.e 1 (.e 2 (.e 3 (.e 4 (.m 5 (.e 6 (.m 7 .z)))))))) (fun w => ∃ Ar, Hd w0 F0 w (inS kPair zs :: blk b26 [.slice A29 ((hdr1 C.J.us).length) c30, .int .i64 C.J.parts, .slice A6 C.J.map.length c7, .slice A11 C.J.comb.length c12, .slice A16 C.J.red.length c17, .int .i64 C.J.chunk, .int .i64 C.J.window, .int .i64 C.J.fuel, .slice A21 C.J.marks.length c22, .int .i64 C.w, .int .i64 C.t, .int .i64 C.o] 28 :: blk b27 [.slice none 0 0, .int .i64 0, .slice none 0 0, .slice none 0 0, .slice none 0 0, .int .i64 0, .int .i64 0, .int .i64 0, .slice none 0 0, .int .i64 0, .int .i64 0, .int .i64 0] 28 :: Ar) [rsl (kHd kPair) (.slice A1 C.J.us.length c2) C.J.us, rsl kIns (.slice A6 C.J.map.length c7) C.J.map, rsl kIns (.slice A11 C.J.comb.length c12) C.J.comb, rsl kIns (.slice A16 C.J.red.length c17) C.J.red, rsl (kInt .i64) (.slice A21 C.J.marks.length c22) C.J.marks]) mo (by kernel_rfl) (fun w H => ⟨_, H⟩) H (fun w H => ?_)
  refine d_val rfl rfl rfl (fun w ⟨Ar, H⟩ => r_fa rfl fo28_0 rfl) (d_val rfl rfl rfl (fun w ⟨Ar, H⟩ => r_fa rfl fo26_0 rfl) (d_val rfl rfl rfl (fun w ⟨Ar, H⟩ => r_ld rfl ty22 rfl (H.cellI 1 rfl rfl)) (d_1 rfl (d_1 rfl (d_main rfl (sc (clone_ok (.slice A38 x35.length c39) x35 (by first | omega | decide | assumption)) H (lX (fun F hA hR => nest_rsl (hR _ (List.mem_of_getElem? (i := 0) rfl)) hx36) l0) rfl rfl (e_fn kn123 rfl rfl) ?_))))))
  rintro v44 _ w rfl H
  replace H := H.p3
  replace H := H.p3
  replace H := H.p3
  replace H := H.h5 (A := inS kPair zs) (B := blk b26 [.slice A29 ((hdr1 C.J.us).length) c30, .int .i64 C.J.parts, .slice A6 C.J.map.length c7, .slice A11 C.J.comb.length c12, .slice A16 C.J.red.length c17, .int .i64 C.J.chunk, .int .i64 C.J.window, .int .i64 C.J.fuel, .slice A21 C.J.marks.length c22, .int .i64 C.w, .int .i64 C.t, .int .i64 C.o] 28) (C := blk b27 [.slice none 0 0, .int .i64 0, .slice none 0 0, .slice none 0 0, .slice none 0 0, .int .i64 0, .int .i64 0, .int .i64 0, .slice none 0 0, .int .i64 0, .int .i64 0, .int .i64 0] 28) (D := osl kPair v44 x35) (E := osl kHdr (.slice A29 ((hdr1 C.J.us).length) c30) (hdr1 zs ++ (hdr1 C.J.us).drop i))
  refine d_back ⟨_, H⟩ ?_
  have th45 := H.thA 4 rfl hk42
  refine d_val rfl rfl rfl (fun w ⟨Ar, H⟩ => r_iaE (p := oOf A29 + i * 1) rfl sl22 rfl rfl (by omega) (by omega) th45 rfl) (d_main rfl ?_)
  obtain ⟨A46, c47, rfl, hc48, hm49, hp50⟩ := H.fA 3 rfl
  replace H := H.p4
  refine s_stO (i := i) (a := (⟨A46, x35.length, c47⟩ : Hdr)) rfl rfl rfl ty35 rfl rfl rfl H (by simp only [List.length_append, List.length_drop, hdr1, List.length_map]; omega) rfl (fun w H => ?_)
  replace H := H.p3
  replace H := H.p3
  replace H := H.p3
  replace H := H.h5 (A := inS kPair zs) (B := blk b26 [.slice A29 ((hdr1 C.J.us).length) c30, .int .i64 C.J.parts, .slice A6 C.J.map.length c7, .slice A11 C.J.comb.length c12, .slice A16 C.J.red.length c17, .int .i64 C.J.chunk, .int .i64 C.J.window, .int .i64 C.J.fuel, .slice A21 C.J.marks.length c22, .int .i64 C.w, .int .i64 C.t, .int .i64 C.o] 28) (C := blk b27 [.slice none 0 0, .int .i64 0, .slice none 0 0, .slice none 0 0, .slice none 0 0, .int .i64 0, .int .i64 0, .int .i64 0, .slice none 0 0, .int .i64 0, .int .i64 0, .int .i64 0] 28) (D := osl kHdr (.slice A29 ((hdr1 C.J.us).length) c30) ((hdr1 zs ++ (hdr1 C.J.us).drop i).set i (⟨A46, x35.length, c47⟩ : Hdr))) (E := osl kPair (.slice A46 x35.length c47) x35)
  refine d_back ⟨_, H⟩ (d_nil (q_blockN (q_then (c_reg (s_val rfl rfl (r_add (z := ((i + 1 : Nat) : Int)) rfl rfl rfl (by rw [w64 (by omega) (by omega)]; omega)) (s_1 rfl (s_nil ?_)))))))
  replace H := H.p2
  replace H := H.p2
  replace H := H.p3
  replace H := H.p3
  replace H := H.p4
  replace H := H.bigN (f := fun u : Value × List Pair => osl kPair u.1 u.2) (x := (.slice A46 x35.length c47, x35))
  replace H : Hd w0 F0 w [inS kPair (zs ++ [(.slice A46 x35.length c47, x35)]), osl kHdr (.slice A29 ((hdr1 C.J.us).length) c30) (hdr1 (zs ++ [(.slice A46 x35.length c47, x35)]) ++ (hdr1 C.J.us).drop (i + 1)), blk b26 [.slice A29 ((hdr1 C.J.us).length) c30, .int .i64 C.J.parts, .slice A6 C.J.map.length c7, .slice A11 C.J.comb.length c12, .slice A16 C.J.red.length c17, .int .i64 C.J.chunk, .int .i64 C.J.window, .int .i64 C.J.fuel, .slice A21 C.J.marks.length c22, .int .i64 C.w, .int .i64 C.t, .int .i64 C.o] 28, blk b27 [.slice none 0 0, .int .i64 0, .slice none 0 0, .slice none 0 0, .slice none 0 0, .int .i64 0, .int .i64 0, .int .i64 0, .slice none 0 0, .int .i64 0, .int .i64 0, .int .i64 0] 28] [rsl (kHd kPair) (.slice A1 C.J.us.length c2) C.J.us, rsl kIns (.slice A6 C.J.map.length c7) C.J.map, rsl kIns (.slice A11 C.J.comb.length c12) C.J.comb, rsl kIns (.slice A16 C.J.red.length c17) C.J.red, rsl (kInt .i64) (.slice A21 C.J.marks.length c22) C.J.marks] := by rw [← own_set (x := x35) hz.1 (by omega)]; exact H
  exact q_round (s := (i, zs)) (i + 1, zs ++ [(.slice A46 x35.length c47, x35)]) ⟨rfl, rfl, rfl, rfl, rfl, trivial⟩ ⟨H, ⟨by simp [hz.1], own_take hz.2 hx36⟩, by (try dsimp only); omega⟩ (by (try dsimp only); omega)
 ·refine c_exit (q_thenE (q_thenE (q_blockE (q_then (c_seq ?_)))))
  obtain rfl : i = C.J.us.length := by omega
  replace H := H.p3
  replace H := H.p3
  replace H := H.p2
  replace H := H.p3
  replace H : Hd w0 F0 w [osl kHdr (.slice A29 ((hdr1 C.J.us).length) c30) (hdr1 zs), inS kPair zs, blk b26 [.slice A29 ((hdr1 C.J.us).length) c30, .int .i64 C.J.parts, .slice A6 C.J.map.length c7, .slice A11 C.J.comb.length c12, .slice A16 C.J.red.length c17, .int .i64 C.J.chunk, .int .i64 C.J.window, .int .i64 C.J.fuel, .slice A21 C.J.marks.length c22, .int .i64 C.w, .int .i64 C.t, .int .i64 C.o] 28, blk b27 [.slice none 0 0, .int .i64 0, .slice none 0 0, .slice none 0 0, .slice none 0 0, .int .i64 0, .int .i64 0, .int .i64 0, .slice none 0 0, .int .i64 0, .int .i64 0, .int .i64 0] 28] [rsl (kHd kPair) (.slice A1 C.J.us.length c2) C.J.us, rsl kIns (.slice A6 C.J.map.length c7) C.J.map, rsl kIns (.slice A11 C.J.comb.length c12) C.J.comb, rsl kIns (.slice A16 C.J.red.length c17) C.J.red, rsl (kInt .i64) (.slice A21 C.J.marks.length c22) C.J.marks] := by rw [show hdr1 zs = hdr1 zs ++ (hdr1 C.J.us).drop C.J.us.length by simp [hdr1]]; exact H
  replace H := H.hdI
  replace H : Hd _ _ _ [osl (kHd kPair) (.slice A29 ((hdr1 C.J.us).length) c30) zs, blk b26 [.slice A29 ((hdr1 C.J.us).length) c30, .int .i64 C.J.parts, .slice A6 C.J.map.length c7, .slice A11 C.J.comb.length c12, .slice A16 C.J.red.length c17, .int .i64 C.J.chunk, .int .i64 C.J.window, .int .i64 C.J.fuel, .slice A21 C.J.marks.length c22, .int .i64 C.w, .int .i64 C.t, .int .i64 C.o] 28, blk b27 [.slice none 0 0, .int .i64 0, .slice none 0 0, .slice none 0 0, .slice none 0 0, .int .i64 0, .int .i64 0, .int .i64 0, .slice none 0 0, .int .i64 0, .int .i64 0, .int .i64 0] 28] [rsl (kHd kPair) (.slice A1 C.J.us.length c2) C.J.us, rsl kIns (.slice A6 C.J.map.length c7) C.J.map, rsl kIns (.slice A11 C.J.comb.length c12) C.J.comb, rsl kIns (.slice A16 C.J.red.length c17) C.J.red, rsl (kInt .i64) (.slice A21 C.J.marks.length c22) C.J.marks] := H
  have hsj : SameJ ({ C.J with us := zs } : Job) C.J := ⟨by rw [hz.2, List.take_of_length_le (by simp)], rfl⟩
  refine c_ord2 (.e 0 (.e 1 (.e 2 (.e 4 (.e 5 (.e 6 (.e 8 (.e 9 (.e 10 (.m 3 (.e 12 (.e 13 (.m 7 (.m 11 (.w 14 (.e 15 (.e 16 (.m 17 (.e 18 (.e 19 (.m 20 .z))))))))))))))))))))) (fun w => ∃ Ar, Hd w0 F0 w (osl (kHd kPair) (.slice A29 ((hdr1 C.J.us).length) c30) zs :: blk b26 [.slice A29 ((hdr1 C.J.us).length) c30, .int .i64 C.J.parts, .slice A6 C.J.map.length c7, .slice A11 C.J.comb.length c12, .slice A16 C.J.red.length c17, .int .i64 C.J.chunk, .int .i64 C.J.window, .int .i64 C.J.fuel, .slice A21 C.J.marks.length c22, .int .i64 C.w, .int .i64 C.t, .int .i64 C.o] 28 :: blk b27 [.slice none 0 0, .int .i64 0, .slice none 0 0, .slice none 0 0, .slice none 0 0, .int .i64 0, .int .i64 0, .int .i64 0, .slice none 0 0, .int .i64 0, .int .i64 0, .int .i64 0] 28 :: Ar) [rsl (kHd kPair) (.slice A1 C.J.us.length c2) C.J.us, rsl kIns (.slice A6 C.J.map.length c7) C.J.map, rsl kIns (.slice A11 C.J.comb.length c12) C.J.comb, rsl kIns (.slice A16 C.J.red.length c17) C.J.red, rsl (kInt .i64) (.slice A21 C.J.marks.length c22) C.J.marks]) (fun w => ∃ Ar, Hd w0 F0 w Ar [rsl (kHd kPair) (.slice A1 C.J.us.length c2) C.J.us, rsl kIns (.slice A6 C.J.map.length c7) C.J.map, rsl kIns (.slice A11 C.J.comb.length c12) C.J.comb, rsl kIns (.slice A16 C.J.red.length c17) C.J.red, rsl (kInt .i64) (.slice A21 C.J.marks.length c22) C.J.marks]) mo (by kernel_rfl) (fun w H => ⟨_, H⟩) H (fun w H => ?_)
  refine g_val rfl rfl rfl (fun w ⟨Ar, H⟩ => r_fa rfl fo28_0 rfl) (g_val rfl rfl rfl (fun w ⟨Ar, H⟩ => r_fa rfl fo26_2 rfl) (g_val rfl rfl rfl (fun w ⟨Ar, H⟩ => r_ld rfl ty23 rfl (H.cellI 1 rfl rfl)) (g_val rfl rfl rfl (fun w ⟨Ar, H⟩ => r_fa rfl fo28_0 rfl) (g_val rfl rfl rfl (fun w ⟨Ar, H⟩ => r_fa rfl fo26_3 rfl) (g_val rfl rfl rfl (fun w ⟨Ar, H⟩ => r_ld rfl ty23 rfl (H.cellI 1 rfl rfl)) (g_val rfl rfl rfl (fun w ⟨Ar, H⟩ => r_fa rfl fo28_0 rfl) (g_val rfl rfl rfl (fun w ⟨Ar, H⟩ => r_fa rfl fo26_4 rfl) (g_val rfl rfl rfl (fun w ⟨Ar, H⟩ => r_ld rfl ty23 rfl (H.cellI 1 rfl rfl)) (g_main rfl (sc (cloneIns_ok (.slice A6 C.J.map.length c7) C.J.map (by first | omega | decide | assumption)) H (lR 1 rfl l0) rfl rfl (e_fn kn158 rfl rfl) ?_))))))))))
  rintro v51 _ w rfl H
  replace H := H.p3
  replace H := H.p3
  replace H := H.p3
  replace H : Hd _ _ _ [osl (kHd kPair) (.slice A29 ((hdr1 C.J.us).length) c30) zs, blk b26 [.slice A29 ((hdr1 C.J.us).length) c30, .int .i64 C.J.parts, .slice A6 C.J.map.length c7, .slice A11 C.J.comb.length c12, .slice A16 C.J.red.length c17, .int .i64 C.J.chunk, .int .i64 C.J.window, .int .i64 C.J.fuel, .slice A21 C.J.marks.length c22, .int .i64 C.w, .int .i64 C.t, .int .i64 C.o] 28, blk b27 [.slice none 0 0, .int .i64 0, .slice none 0 0, .slice none 0 0, .slice none 0 0, .int .i64 0, .int .i64 0, .int .i64 0, .slice none 0 0, .int .i64 0, .int .i64 0, .int .i64 0] 28, osl kIns v51 C.J.map] [rsl (kHd kPair) (.slice A1 C.J.us.length c2) C.J.us, rsl kIns (.slice A6 C.J.map.length c7) C.J.map, rsl kIns (.slice A11 C.J.comb.length c12) C.J.comb, rsl kIns (.slice A16 C.J.red.length c17) C.J.red, rsl (kInt .i64) (.slice A21 C.J.marks.length c22) C.J.marks] := H
  refine g_back ⟨_, H⟩ (g_val rfl rfl rfl (fun w ⟨Ar, H⟩ => r_fa rfl fo28_0 rfl) (g_val rfl rfl rfl (fun w ⟨Ar, H⟩ => r_fa rfl fo26_2 rfl) (g_main rfl (sc (cloneIns_ok (.slice A11 C.J.comb.length c12) C.J.comb (by first | omega | decide | assumption)) H (lR 2 rfl l0) rfl rfl (e_fn kn158 rfl rfl) ?_))))
  rintro v52 _ w rfl H
  replace H := H.p3
  replace H := H.p3
  replace H := H.p3
  replace H := H.h5 (A := osl (kHd kPair) (.slice A29 ((hdr1 C.J.us).length) c30) zs) (B := blk b26 [.slice A29 ((hdr1 C.J.us).length) c30, .int .i64 C.J.parts, .slice A6 C.J.map.length c7, .slice A11 C.J.comb.length c12, .slice A16 C.J.red.length c17, .int .i64 C.J.chunk, .int .i64 C.J.window, .int .i64 C.J.fuel, .slice A21 C.J.marks.length c22, .int .i64 C.w, .int .i64 C.t, .int .i64 C.o] 28) (C := blk b27 [.slice none 0 0, .int .i64 0, .slice none 0 0, .slice none 0 0, .slice none 0 0, .int .i64 0, .int .i64 0, .int .i64 0, .slice none 0 0, .int .i64 0, .int .i64 0, .int .i64 0] 28) (D := osl kIns v52 C.J.comb) (E := osl kIns v51 C.J.map)
  refine g_back ⟨_, H⟩ (g_main rfl (sc (cloneIns_ok (.slice A16 C.J.red.length c17) C.J.red (by first | omega | decide | assumption)) H (lR 3 rfl l0) rfl rfl (e_fn kn158 rfl rfl) ?_))
  rintro v53 _ w rfl H
  replace H := H.p3
  replace H := H.p3
  replace H := H.p3
  replace H := H.h5 (A := osl (kHd kPair) (.slice A29 ((hdr1 C.J.us).length) c30) zs) (B := blk b26 [.slice A29 ((hdr1 C.J.us).length) c30, .int .i64 C.J.parts, .slice A6 C.J.map.length c7, .slice A11 C.J.comb.length c12, .slice A16 C.J.red.length c17, .int .i64 C.J.chunk, .int .i64 C.J.window, .int .i64 C.J.fuel, .slice A21 C.J.marks.length c22, .int .i64 C.w, .int .i64 C.t, .int .i64 C.o] 28) (C := blk b27 [.slice none 0 0, .int .i64 0, .slice none 0 0, .slice none 0 0, .slice none 0 0, .int .i64 0, .int .i64 0, .int .i64 0, .slice none 0 0, .int .i64 0, .int .i64 0, .int .i64 0] 28) (D := osl kIns v53 C.J.red) (E := osl kIns v52 C.J.comb)
  refine g_back ⟨_, H⟩ (g_sw rfl ?_)
  obtain ⟨A54, c55, rfl, hc56, hm57, hp58⟩ := H.fA 5 rfl
  replace H := H.p1
  refine s_st rfl rfl rfl ty23 rfl rfl H rfl (Nat.le_of_ble_eq_true rfl) (fun u hu => by simp [Value.cells] at hu; subst hu; rfl) (fun w H => ?_)
  replace H : Hd _ _ _ [blk b26 [.slice A29 ((hdr1 C.J.us).length) c30, .int .i64 C.J.parts, .slice A54 C.J.map.length c55, .slice A11 C.J.comb.length c12, .slice A16 C.J.red.length c17, .int .i64 C.J.chunk, .int .i64 C.J.window, .int .i64 C.J.fuel, .slice A21 C.J.marks.length c22, .int .i64 C.w, .int .i64 C.t, .int .i64 C.o] 28, osl (kHd kPair) (.slice A29 ((hdr1 C.J.us).length) c30) zs, blk b27 [.slice none 0 0, .int .i64 0, .slice none 0 0, .slice none 0 0, .slice none 0 0, .int .i64 0, .int .i64 0, .int .i64 0, .slice none 0 0, .int .i64 0, .int .i64 0, .int .i64 0] 28, osl kIns v53 C.J.red, osl kIns v52 C.J.comb, osl kIns (.slice A54 C.J.map.length c55) C.J.map] [rsl (kHd kPair) (.slice A1 C.J.us.length c2) C.J.us, rsl kIns (.slice A6 C.J.map.length c7) C.J.map, rsl kIns (.slice A11 C.J.comb.length c12) C.J.comb, rsl kIns (.slice A16 C.J.red.length c17) C.J.red, rsl (kInt .i64) (.slice A21 C.J.marks.length c22) C.J.marks] := H
  refine d_back ⟨_, H⟩ (d_val rfl rfl rfl (fun w ⟨Ar, H⟩ => r_fa rfl fo28_0 rfl) (d_val rfl rfl rfl (fun w ⟨Ar, H⟩ => r_fa rfl fo26_3 rfl) (d_main rfl ?_)))
  obtain ⟨A59, c60, rfl, hc61, hm62, hp63⟩ := H.fA 4 rfl
  refine s_st rfl rfl rfl ty23 rfl rfl H rfl (Nat.le_of_ble_eq_true rfl) (fun u hu => by simp [Value.cells] at hu; subst hu; rfl) (fun w H => ?_)
  replace H := H.h5 (A := blk b26 [.slice A29 ((hdr1 C.J.us).length) c30, .int .i64 C.J.parts, .slice A54 C.J.map.length c55, .slice A59 C.J.comb.length c60, .slice A16 C.J.red.length c17, .int .i64 C.J.chunk, .int .i64 C.J.window, .int .i64 C.J.fuel, .slice A21 C.J.marks.length c22, .int .i64 C.w, .int .i64 C.t, .int .i64 C.o] 28) (B := osl (kHd kPair) (.slice A29 ((hdr1 C.J.us).length) c30) zs) (C := blk b27 [.slice none 0 0, .int .i64 0, .slice none 0 0, .slice none 0 0, .slice none 0 0, .int .i64 0, .int .i64 0, .int .i64 0, .slice none 0 0, .int .i64 0, .int .i64 0, .int .i64 0] 28) (D := osl kIns v53 C.J.red) (E := osl kIns (.slice A59 C.J.comb.length c60) C.J.comb)
  refine d_back ⟨_, H⟩ (d_val rfl rfl rfl (fun w ⟨Ar, H⟩ => r_fa rfl fo28_0 rfl) (d_val rfl rfl rfl (fun w ⟨Ar, H⟩ => r_fa rfl fo26_4 rfl) (d_main rfl ?_)))
  obtain ⟨A64, c65, rfl, hc66, hm67, hp68⟩ := H.fA 3 rfl
  refine s_st rfl rfl rfl ty23 rfl rfl H rfl (Nat.le_of_ble_eq_true rfl) (fun u hu => by simp [Value.cells] at hu; subst hu; rfl) (fun w H => ?_)
  replace H := H.h4 (A := blk b26 [.slice A29 ((hdr1 C.J.us).length) c30, .int .i64 C.J.parts, .slice A54 C.J.map.length c55, .slice A59 C.J.comb.length c60, .slice A64 C.J.red.length c65, .int .i64 C.J.chunk, .int .i64 C.J.window, .int .i64 C.J.fuel, .slice A21 C.J.marks.length c22, .int .i64 C.w, .int .i64 C.t, .int .i64 C.o] 28) (B := osl (kHd kPair) (.slice A29 ((hdr1 C.J.us).length) c30) zs) (C := blk b27 [.slice none 0 0, .int .i64 0, .slice none 0 0, .slice none 0 0, .slice none 0 0, .int .i64 0, .int .i64 0, .int .i64 0, .slice none 0 0, .int .i64 0, .int .i64 0, .int .i64 0] 28) (D := osl kIns (.slice A64 C.J.red.length c65) C.J.red)
  refine d_back ⟨_, H⟩ (d_nil (q_then (c_seq (c_reg (s_val rfl rfl (r_fa rfl fo28_0 rfl) (s_val rfl rfl (r_fa rfl fo26_8 rfl) (s_val rfl rfl (r_ld rfl ty24 rfl (H.cellI 0 rfl rfl)) (sc (cloneInt_ok (.slice A21 C.J.marks.length c22) C.J.marks (by first | omega | decide | assumption)) H (lR 4 rfl l0) rfl rfl (e_fn kn129 rfl rfl) ?_))))))))
  rintro v69 _ w rfl H
  refine s_val rfl rfl (r_fa rfl fo28_0 rfl) (s_val rfl rfl (r_fa rfl fo26_8 rfl) ?_)
  obtain ⟨A70, c71, rfl, hc72, hm73, hp74⟩ := H.fA 0 rfl
  replace H := H.p1
  refine s_st rfl rfl rfl ty24 rfl rfl H rfl (Nat.le_of_ble_eq_true rfl) (fun u hu => by simp [Value.cells] at hu; subst hu; rfl) (fun w H => ?_)
  replace H := H.h3 (A := blk b26 [.slice A29 ((hdr1 C.J.us).length) c30, .int .i64 C.J.parts, .slice A54 C.J.map.length c55, .slice A59 C.J.comb.length c60, .slice A64 C.J.red.length c65, .int .i64 C.J.chunk, .int .i64 C.J.window, .int .i64 C.J.fuel, .slice A70 C.J.marks.length c71, .int .i64 C.w, .int .i64 C.t, .int .i64 C.o] 28) (B := osl (kInt .i64) (.slice A70 C.J.marks.length c71) C.J.marks) (C := osl (kHd kPair) (.slice A29 ((hdr1 C.J.us).length) c30) zs)
  refine s_nil (q_then (c_seq (c_reg (s_val rfl rfl (r_ldA (cs := [.slice A29 ((hdr1 C.J.us).length) c30, .int .i64 C.J.parts, .slice A54 C.J.map.length c55, .slice A59 C.J.comb.length c60, .slice A64 C.J.red.length c65, .int .i64 C.J.chunk, .int .i64 C.J.window, .int .i64 C.J.fuel, .slice A70 C.J.marks.length c71, .int .i64 C.w, .int .i64 C.t, .int .i64 C.o]) rfl ty28 rfl rfl (H.cellsI 0 rfl rfl)) ?_))))
  replace H := H.p3
  refine s_st rfl rfl rfl ty28 rfl rfl H rfl (Nat.le_of_ble_eq_true rfl) (fun u hu => by simp [Value.cells] at hu; rcases hu with rfl | rfl | rfl | rfl | rfl | rfl | rfl | rfl | rfl | rfl | rfl | rfl <;> rfl) (fun w H => ?_)
  replace H := H.h1 (A := blk b27 [.slice A29 ((hdr1 C.J.us).length) c30, .int .i64 C.J.parts, .slice A54 C.J.map.length c55, .slice A59 C.J.comb.length c60, .slice A64 C.J.red.length c65, .int .i64 C.J.chunk, .int .i64 C.J.window, .int .i64 C.J.fuel, .slice A70 C.J.marks.length c71, .int .i64 C.w, .int .i64 C.t, .int .i64 C.o] 28)
  refine s_nil (q_then (c_ret (q_retC (cs := [.slice A29 ((hdr1 C.J.us).length) c30, .int .i64 C.J.parts, .slice A54 C.J.map.length c55, .slice A59 C.J.comb.length c60, .slice A64 C.J.red.length c65, .int .i64 C.J.chunk, .int .i64 C.J.window, .int .i64 C.J.fuel, .slice A70 C.J.marks.length c71, .int .i64 C.w, .int .i64 C.t, .int .i64 C.o]) rfl rfl ty28 rfl (H.cellsI 0 rfl rfl) ?_)))
  replace H := H.p2
  replace H := H.p4
  replace H := H.p5
  replace H := H.p6
  replace H := H.p6
  replace H := H.k5
  exact fin ⟨({ C.J with us := zs } : Job), (.slice A29 ((hdr1 C.J.us).length) c30), (.slice A54 C.J.map.length c55), (.slice A59 C.J.comb.length c60), (.slice A64 C.J.red.length c65), (.slice A70 C.J.marks.length c71), rfl, rfl, hsj⟩ H
end Go.Proofs.YthgehekecfpikaaGreatDoor.X

set_option linter.unusedVariables false
namespace Go.Proofs.YthgehekecfpikaaGreatDoor.X
open Go
def key2 (k : Int × Int) : Value := .agg #[.int .i64 k.1, .int .i64 k.2]
def EntP (es : List MapEntry) (kvs : List ((Int × Int) × Value)) : Prop := es.map (fun e => (e.key, e.val)) = kvs.map fun p => (key2 p.1, p.2)
/-- A map that is held. -/
def mapP (b : Nat) (kvs : List ((Int × Int) × Value)) : SP where
  P w F := F b ∧ ∃ es c, w.heap[b]? = some (.map es c) ∧ EntP es.toList kvs
  loc := fun ⟨h, es, c, e, h2⟩ hk => ⟨h, es, c, (hk b h).trans e, h2⟩
  mono := fun ⟨h, h2⟩ hs => ⟨hs b h, h2⟩
abbrev StE := (Int × Int) × Value × List (Value × List Pair)
def stE (e : StE) : (Int × Int) × List (List Pair) := (e.1, e.2.2.map (·.2))
def stV (e : StE) : (Int × Int) × Value := (e.1, e.2.1)
def stO (e : StE) : SP := osl (kHd kPair) e.2.1 e.2.2
def stgM (mb : Nat) (st : Stg) : SP := ex fun kvs : List StE => star [pure_ (kvs.map stE = st), mapP mb (kvs.map stV), bigS stO kvs]
def stgI (t sb : Nat) (st : Stg) : SP := ex fun mb : Nat => star [blk sb [.map (some mb)] t, stgM mb st]
section
variable {w0 w : World} {F0 : Foot} {As Rs : List SP} {t sb mb : Nat} {st : Stg}
theorem Hd.st0 (H : Hd w0 F0 w (blk sb [.map (some mb)] t :: mapI mb [] :: As) Rs) : Hd w0 F0 w (stgI t sb [] :: As) Rs := by
  have h1 : Hd w0 F0 w (mapP mb [] :: blk sb [.map (some mb)] t :: As) Rs := (H.perm (List.Perm.swap _ _ _)).turn fun F h => by
    obtain ⟨hb, es, c, e, he⟩ := h
    have : es.toList = [] := by simpa [EntI] using he
    exact ⟨hb, es, c, e, by rw [this]; rfl⟩
  have h2 : Hd w0 F0 w (bigS stO [] :: mapP mb [] :: blk sb [.map (some mb)] t :: As) Rs := h1.big0 stO
  have h3 := (h2.perm (List.Perm.swap _ _ _)).puI (p := ([] : List StE).map stE = []) rfl
  have h4 : Hd w0 F0 w (stgM mb [] :: blk sb [.map (some mb)] t :: As) Rs := Hd.exI (A := fun kvs : List StE => star [pure_ (kvs.map stE = []), mapP mb (kvs.map stV), bigS stO kvs]) [] (Hd.stI (Bs := [pure_ (([] : List StE).map stE = []), mapP mb [], bigS stO []]) h3)
  exact Hd.exI (A := fun mb : Nat => star [blk sb [.map (some mb)] t, stgM mb []]) mb (Hd.stI (Bs := [blk sb [.map (some mb)] t, stgM mb []]) (h4.perm (List.Perm.swap _ _ _)))
end
end Go.Proofs.YthgehekecfpikaaGreatDoor.X

set_option linter.unusedVariables false
set_option linter.unusedSimpArgs false
namespace Go.Proofs.YthgehekecfpikaaGreatDoor.X
open Go
set_option maxHeartbeats 4000000 in
theorem stNew_ok  :
    Cn Tryz.prog 128 [] [] [] (fun v Bs => ∃ b : Nat, v = .pointer (some ⟨b, 0, none⟩) ∧ Bs = [stgI 253 b []]) := by
 intro w0 F0 H
 refine enter (args := []) Tryz.func128 rfl rfl (Nat.le_of_ble_eq_true rfl) (c_seq (c_reg (s_1 rfl (s_nil (q_then (c_seq (c_reg (s_mkmap rfl rfl rfl H (fun b1 w H => (s_val rfl rfl (r_bd (parts := [(0, .tmp 1)]) (vs := [.map (some b1)]) (cs := [.map (some b1)]) rfl bd253 rfl rfl) (s_box rfl rfl rfl rfl H (fun b2 w H => (s_1 rfl (s_nil (q_then ?_)))))))))))))))
 replace H : Hd _ _ _ [blk b2 [.map (some b1)] 253, mapI b1 []] [] := H
 refine c_ret (q_ret1 rfl rfl ?_)
 replace H := H.st0
 replace H : Hd _ _ _ [stgI 253 b2 []] [] := H
 exact fin ⟨_, rfl, rfl⟩ H
end Go.Proofs.YthgehekecfpikaaGreatDoor.X

set_option linter.unusedVariables false
set_option linter.unusedSimpArgs false
namespace Go.Proofs.YthgehekecfpikaaGreatDoor.X
open Go
set_option maxHeartbeats 4000000 in
theorem at_ok (r : Nat) (A : Option Addr) (m : Nat) (c : Nat) (vM2 : Value) (vC2 : Value) (vR2 : Value) (vK2 : Value) (J2 : Job) (cw : Int) (ct : Int) (co : Int) (part : Int) (ep : Int) (g : Nat → SpD) (hv : Nat → Value) (sb : Nat) (vs : Value) (n : Int) (hn : 0 ≤ n ∧ n < (m : Int)) (hm : m ≤ 6) :
    Cn Tryz.prog 118 [.pointer (some ⟨r, 0, none⟩), .int .i64 n] [] [blk r (redC (.slice A m c) vM2 vC2 vR2 vK2 J2 cw ct co part ep g hv sb vs) 185] (fun v Bs => v = .pointer (some ⟨r, 14 + (n).toNat * 5, none⟩) ∧ Bs = []) := by
 intro w0 F0 H
 refine enter (args := [.pointer (some ⟨r, 0, none⟩), .int .i64 n]) Tryz.func118 rfl rfl (Nat.le_of_ble_eq_true rfl) (c_seq (c_reg (s_1 rfl (s_nil (q_then (c_seq (c_seq (c_reg (s_1 rfl (s_val rfl rfl (r_peq rfl un75 rfl rfl) (s_k 2 rfl (s_val rfl rfl (r_lt rfl rfl rfl) (s_k 2 rfl ?_)))))))))))))
 refine s_dec (d := 11) (p := n < 0) rfl (fun h1 => ?_) (fun h1 => ?_)
 ·exfalso; omega
 ·refine s_k 2 rfl (s_val rfl rfl (r_nilP rfl rfl) (s_val rfl rfl (r_fa rfl fo185_0 rfl) (s_val rfl rfl (r_fa rfl fo28_0 rfl) (s_val rfl rfl (r_fa rfl fo26_0 rfl) (s_val rfl rfl (r_ld rfl ty22 rfl (H.cellRI 0 rfl rfl)) (s_val rfl rfl (r_lenL rfl un22 rfl) (s_val rfl rfl (r_ge rfl rfl rfl) (s_1 rfl (s_nil (q_then ?_))))))))))
  refine c_dec (p := ((m : Nat) : Int) ≤ n) rfl (fun h2 => ?_) (fun h2 => ?_)
  ·exfalso; omega
  ·refine c_skip (q_then (c_seq (c_reg (s_k 2 rfl (s_val rfl rfl (r_nilP rfl rfl) (s_val rfl rfl (r_fa rfl fo185_3 rfl) (s_val rfl rfl (r_iaB (p := 14 + (n).toNat * 5) rfl un182 is181 rfl rfl (by omega) (by omega) (by omega)) (s_1 rfl (s_nil (q_then (c_ret (q_ret1 rfl rfl ?_))))))))))))
   replace H : Hd _ _ _ [] [blk r (redC (.slice A m c) vM2 vC2 vR2 vK2 J2 cw ct co part ep g hv sb vs) 185] := H
   exact fin ⟨rfl, rfl⟩ H
set_option maxHeartbeats 4000000 in
theorem at_no (r : Nat) (A : Option Addr) (m : Nat) (c : Nat) (vM2 : Value) (vC2 : Value) (vR2 : Value) (vK2 : Value) (J2 : Job) (cw : Int) (ct : Int) (co : Int) (part : Int) (ep : Int) (g : Nat → SpD) (hv : Nat → Value) (sb : Nat) (vs : Value) (n : Int) (hn : ¬ (0 ≤ n ∧ n < (m : Int))) :
    Cn Tryz.prog 118 [.pointer (some ⟨r, 0, none⟩), .int .i64 n] [] [blk r (redC (.slice A m c) vM2 vC2 vR2 vK2 J2 cw ct co part ep g hv sb vs) 185] (fun v Bs => v = .pointer none ∧ Bs = []) := by
 intro w0 F0 H
 refine enter (args := [.pointer (some ⟨r, 0, none⟩), .int .i64 n]) Tryz.func118 rfl rfl (Nat.le_of_ble_eq_true rfl) (c_seq (c_reg (s_1 rfl (s_nil (q_then (c_seq (c_seq (c_reg (s_1 rfl (s_val rfl rfl (r_peq rfl un75 rfl rfl) (s_k 2 rfl (s_val rfl rfl (r_lt rfl rfl rfl) (s_k 2 rfl ?_)))))))))))))
 refine s_dec (d := 11) (p := n < 0) rfl (fun h1 => ?_) (fun h1 => ?_)
 ·refine s_k 10 rfl (s_nil (q_then (c_yes rfl (c_seq (c_reg (s_1 rfl (s_nil (q_then (c_ret (q_thenR (q_ret1 rfl rfl ?_)))))))))))
  replace H : Hd _ _ _ [] [blk r (redC (.slice A m c) vM2 vC2 vR2 vK2 J2 cw ct co part ep g hv sb vs) 185] := H
  exact fin ⟨rfl, rfl⟩ H
 ·refine s_k 2 rfl (s_val rfl rfl (r_nilP rfl rfl) (s_val rfl rfl (r_fa rfl fo185_0 rfl) (s_val rfl rfl (r_fa rfl fo28_0 rfl) (s_val rfl rfl (r_fa rfl fo26_0 rfl) (s_val rfl rfl (r_ld rfl ty22 rfl (H.cellRI 0 rfl rfl)) (s_val rfl rfl (r_lenL rfl un22 rfl) (s_val rfl rfl (r_ge rfl rfl rfl) (s_1 rfl (s_nil (q_then ?_))))))))))
  refine c_dec (p := ((m : Nat) : Int) ≤ n) rfl (fun h2 => ?_) (fun h2 => ?_)
  ·refine c_seq (c_reg (s_1 rfl (s_nil (q_then (c_ret (q_thenR (q_ret1 rfl rfl ?_)))))))
   replace H : Hd _ _ _ [] [blk r (redC (.slice A m c) vM2 vC2 vR2 vK2 J2 cw ct co part ep g hv sb vs) 185] := H
   exact fin ⟨rfl, rfl⟩ H
  ·exact c_skip (q_then (c_seq (c_reg (s_k 2 rfl (s_val rfl rfl (r_nilP rfl rfl) (s_val rfl rfl (r_fa rfl fo185_3 rfl) (s_val rfl rfl (r_iaB (p := 14 + (n).toNat * 5) rfl un182 is181 rfl rfl (by omega) (by omega) (by omega)) (s_1 rfl (s_nil (q_then (c_ret (q_ret1 rfl rfl (absurd (by omega) hn)))))))))))))
end Go.Proofs.YthgehekecfpikaaGreatDoor.X

set_option linter.unusedVariables false
set_option linter.unusedSimpArgs false
namespace Go.Proofs.YthgehekecfpikaaGreatDoor.X
open Go
set_option maxHeartbeats 1000000 in
theorem two_ok (vxs : Value) (xs : List Pair) (vys : Value) (ys : List Pair) (hb : xs.length + ys.length ≤ 1000000) :
    Cn Tryz.prog 185 [vxs, vys] [] [rsl kPair vxs xs, rsl kPair vys ys] (fun v Bs => Bs = [osl kPair v (srt (xs ++ ys))]) := by
 intro w0 F0 H
 obtain ⟨A1, c2, rfl, hc3, hm4, hp5⟩ := H.fR 0 rfl
 obtain ⟨A6, c7, rfl, hc8, hm9, hp10⟩ := H.fR 1 rfl
 refine enter (args := [.slice A1 xs.length c2, .slice A6 ys.length c7]) Tryz.func185 rfl rfl (Nat.le_of_ble_eq_true rfl) (c_seq (c_reg (s_1 rfl (s_nil (q_then ?_)))))
 replace H : Hd _ _ _ [] [rsl kPair (.slice A1 xs.length c2) xs, rsl kPair (.slice A6 ys.length c7) ys] := H
 refine c_seq (c_seq (c_reg (s_1 rfl (sc (sorted_ok (.slice A1 xs.length c2) xs (by first | omega | decide | (simp only [List.length_append, List.length_cons, List.length_nil, srt_len]; omega))) H (lR 0 rfl l0) rfl rfl (e_fn kn218 rfl rfl) ?_))))
 rintro _ _ w ⟨rfl, rfl⟩ H
 refine s_val rfl rfl (r_notP rfl rfl) (s_1 rfl ?_)
 refine s_dec (d := 9) (p := ¬ (Ord xs)) rfl (fun h11 => ?_) (fun h11 => ?_)
 ·refine s_k 4 rfl (s_nil (q_then (c_yes rfl (c_seq (c_reg (s_1 rfl ?_))))))
  replace H := H.newnil kPair
  refine s_appF (xs := []) (ys := xs) rfl rfl rfl sl35 zr106 rfl (by decide) rfl rfl H (by first | omega | (simp only [List.length_append, List.length_cons, List.length_nil]; omega)) (fun F hA hR => hR _ (List.mem_of_getElem? (i := 0) rfl)) (fun v12 w H => (s_1 rfl (s_appF (xs := [] ++ xs) (ys := ys) rfl rfl rfl sl35 zr106 rfl (by decide) rfl rfl H (by first | omega | (simp only [List.length_append, List.length_cons, List.length_nil]; omega)) (fun F hA hR => hR _ (List.mem_of_getElem? (i := 1) rfl)) (fun v13 w H => ?_))))
  replace H : Hd _ _ _ [osl kPair v13 (([] ++ xs) ++ ys)] [rsl kPair (.slice A1 xs.length c2) xs, rsl kPair (.slice A6 ys.length c7) ys] := H
  refine sc (pairSort_ok v13 (([] ++ xs) ++ ys) (by first | omega | decide | (simp only [List.length_append, List.length_cons, List.length_nil, srt_len]; omega))) H (lA 0 rfl own_rd l0) rfl rfl (e_fn kn176 rfl rfl) ?_
  rintro v14 _ w rfl H
  refine s_1 rfl (s_nil (q_then ?_))
  replace H := H.h1 (A := osl kPair v14 (srt (([] ++ xs) ++ ys)))
  refine c_ret (q_thenR (q_ret1 rfl rfl ?_))
  replace H := H.k1
  replace H := H.h1 (A := osl kPair v14 (srt (xs ++ ys)))
  exact fin rfl H
 ·refine s_1 rfl (sc (sorted_ok (.slice A6 ys.length c7) ys (by first | omega | decide | (simp only [List.length_append, List.length_cons, List.length_nil, srt_len]; omega))) H (lR 1 rfl l0) rfl rfl (e_fn kn218 rfl rfl) ?_)
  rintro _ _ w ⟨rfl, rfl⟩ H
  refine s_val rfl rfl (r_notP rfl rfl) (s_1 rfl (s_nil (q_then ?_)))
  refine c_dec (p := ¬ (Ord ys)) rfl (fun h15 => ?_) (fun h15 => ?_)
  ·refine c_seq (c_reg (s_1 rfl ?_))
   replace H := H.newnil kPair
   refine s_appF (xs := []) (ys := xs) rfl rfl rfl sl35 zr106 rfl (by decide) rfl rfl H (by first | omega | (simp only [List.length_append, List.length_cons, List.length_nil]; omega)) (fun F hA hR => hR _ (List.mem_of_getElem? (i := 0) rfl)) (fun v16 w H => (s_1 rfl (s_appF (xs := [] ++ xs) (ys := ys) rfl rfl rfl sl35 zr106 rfl (by decide) rfl rfl H (by first | omega | (simp only [List.length_append, List.length_cons, List.length_nil]; omega)) (fun F hA hR => hR _ (List.mem_of_getElem? (i := 1) rfl)) (fun v17 w H => ?_))))
   replace H : Hd _ _ _ [osl kPair v17 (([] ++ xs) ++ ys)] [rsl kPair (.slice A1 xs.length c2) xs, rsl kPair (.slice A6 ys.length c7) ys] := H
   refine sc (pairSort_ok v17 (([] ++ xs) ++ ys) (by first | omega | decide | (simp only [List.length_append, List.length_cons, List.length_nil, srt_len]; omega))) H (lA 0 rfl own_rd l0) rfl rfl (e_fn kn176 rfl rfl) ?_
   rintro v18 _ w rfl H
   refine s_1 rfl (s_nil (q_then ?_))
   replace H := H.h1 (A := osl kPair v18 (srt (([] ++ xs) ++ ys)))
   refine c_ret (q_thenR (q_ret1 rfl rfl ?_))
   replace H := H.k1
   replace H := H.h1 (A := osl kPair v18 (srt (xs ++ ys)))
   exact fin rfl H
  ·refine c_skip (q_then (c_seq ?_))
   have hoxs : Ord xs := Classical.not_not.1 h11
   have hoys : Ord ys := Classical.not_not.1 h15
   refine c_reg (s_1 rfl (s_nil (q_then (c_seq (c_block ?_)))))
   replace H := H.newnil kPair
   replace H := H.dupR 1 rfl
   replace H := H.dupR 1 rfl
   refine c_loop (σ := Value × Value × List Pair × List Pair × Value × List Pair) (fun (u, v, al, bl, q, zs) => [(0, u), (1, v), (4, .slice none 0 0), (5, q)]) (fun (u, v, al, bl, q, zs) w => (Hd w0 F0 w [osl kPair q zs] [rsl kPair u al, rsl kPair v bl, rsl kPair (.slice A1 xs.length c2) xs, rsl kPair (.slice A6 ys.length c7) ys]) ∧ (Ord al) ∧ (Ord bl) ∧ (zs.length + (al.length + bl.length) = xs.length + ys.length) ∧ (zs ++ srt (al ++ bl) = srt (xs ++ ys))) (fun (u, v, al, bl, q, zs) => al.length + bl.length) (.slice A1 xs.length c2, .slice A6 ys.length c7, xs, ys, .slice none 0 0, []) ⟨rfl, rfl, rfl, rfl, trivial⟩ ⟨H, hoxs, hoys, by (try dsimp only); simp only [List.length_nil]; omega, rfl⟩ ?_
   rintro ⟨u, v, al, bl, q, zs⟩ w ⟨H, ha, hb2, hl, hz⟩
   refine c_seq (c_seq (c_reg (s_1 rfl ?_)))
   obtain ⟨A19, c20, rfl, hc21, hm22, hp23⟩ := H.fR 0 rfl
   refine s_val rfl rfl (r_lenL rfl un35 rfl) (s_val rfl rfl (r_gt rfl rfl rfl) (s_1 rfl ?_))
   refine s_dec (d := 22) (p := (0 : Int) < ((al.length : Nat) : Int)) rfl (fun h24 => ?_) (fun h24 => ?_)
   ·refine s_1 rfl ?_
    obtain ⟨A25, c26, rfl, hc27, hm28, hp29⟩ := H.fR 1 rfl
    refine s_val rfl rfl (r_lenL rfl un35 rfl) (s_val rfl rfl (r_gt rfl rfl rfl) (s_1 rfl (s_nil (q_then ?_))))
    replace H : Hd _ _ _ [osl kPair q zs] [rsl kPair (.slice A19 al.length c20) al, rsl kPair (.slice A25 bl.length c26) bl, rsl kPair (.slice A1 xs.length c2) xs, rsl kPair (.slice A6 ys.length c7) ys] := H
    refine c_dec (p := (0 : Int) < ((bl.length : Nat) : Int)) rfl (fun h30 => ?_) (fun h30 => ?_)
    ·refine c_skip (q_then (c_block (c_seq (c_seq (c_draw mo (by kernel_rfl) H (u_1 rfl ?_))))))
     obtain ⟨x31, hx32⟩ : ∃ z9, bl[0]? = some z9 := ⟨_, List.getElem?_eq_getElem (show 0 < bl.length by omega)⟩
     have th33 := H.thR 1 rfl hx32
     refine u_val rfl rfl (fun w H => r_iaE (p := oOf A25 + 0 * 2) rfl sl35 rfl rfl (by omega) (by omega) th33 (by omega)) (u_val rfl rfl (fun w H => r_fa rfl fo106_0 rfl) (u_val rfl rfl (fun w H => r_ld rfl ty9 rfl (H.elR 1 rfl hx32 (q := 0) rfl rfl)) (u_1 rfl ?_)))
     obtain ⟨x34, hx35⟩ : ∃ z9, al[0]? = some z9 := ⟨_, List.getElem?_eq_getElem (show 0 < al.length by omega)⟩
     have th36 := H.thR 0 rfl hx35
     refine u_val rfl rfl (fun w H => r_iaE (p := oOf A19 + 0 * 2) rfl sl35 rfl rfl (by omega) (by omega) th36 (by omega)) (u_val rfl rfl (fun w H => r_fa rfl fo106_0 rfl) (u_val rfl rfl (fun w H => r_ld rfl ty9 rfl (H.elR 0 rfl hx35 (q := 0) rfl rfl)) (u_val rfl rfl (fun w H => r_ltS rfl rfl rfl) (u_end (fun w H => (q_then ?_))))))
     refine c_dec (p := ltS x31.key x34.key = true) rfl (fun h37 => ?_) (fun h37 => ?_)
     ·refine c_seq (c_reg (s_k 2 rfl ?_))
      have th38 := H.thR 1 rfl hx32
      refine s_val rfl rfl (r_iaE (p := oOf A25 + 0 * 2) rfl sl35 rfl rfl (by omega) (by omega) th38 (by omega)) (s_val rfl rfl (r_ldA (cs := [.string x31.key, .string x31.val]) rfl ty106 rfl rfl (H.elsR 1 rfl hx32 rfl)) (s_bsl (parts := [(0, .tmp 39)]) (vs := [.agg #[.string x31.key, .string x31.val]]) (cs := [.string x31.key, .string x31.val]) rfl rfl rfl sl35 zr106 rfl (by decide) (by decide) rfl rfl H (fun b39 w H => ?_)))
      replace H := H.p1
      refine s_appF (xs := zs) (ys := [x31]) rfl rfl rfl sl35 zr106 rfl (by decide) rfl rfl H (by first | omega | (simp only [List.length_append, List.length_cons, List.length_nil]; omega)) (fun F hA hR => blk_rsl (hA _ (List.mem_of_getElem? (i := 0) rfl)) rfl (by decide) (RepsR.flat_eq.2 rfl)) (fun v40 w H => (s_1 rfl (s_nil (q_then ?_))))
      replace H : Hd _ _ _ [osl kPair v40 (zs ++ [x31]), blk b39 [.string x31.key, .string x31.val] 106] [rsl kPair (.slice A19 al.length c20) al, rsl kPair (.slice A25 bl.length c26) bl, rsl kPair (.slice A1 xs.length c2) xs, rsl kPair (.slice A6 ys.length c7) ys] := H
      refine c_seq (c_reg (s_1 rfl (s_val rfl rfl (r_cutS rfl sl35 rfl rfl (by omega) (by omega) rfl) (s_1 rfl (s_nil (q_then (c_exit (q_thenE (q_blockE ?_)))))))))
      replace H := H.k1
      replace H := H.sufR 1 rfl (n := 1) (by omega)
      replace H : Hd w0 F0 w [osl kPair v40 (zs ++ [x31])] [rsl kPair (.slice A19 al.length c20) al, rsl kPair (.slice (cutA A25 c26 1 2) (bl.length - 1) (c26 - 1)) (bl.drop 1), rsl kPair (.slice A1 xs.length c2) xs, rsl kPair (.slice A6 ys.length c7) ys] := H.pickR [1, 0, 3, 4]
      have hz2 : (zs ++ [x31]) ++ srt (al ++ bl.drop 1) = srt (xs ++ ys) := by rw [← hz, mer_b hx35 hx32 ha hb2 h37, List.append_assoc]; rfl
      exact q_round (s := (undef, undef, al, bl, undef, zs)) (.slice A19 al.length c20, .slice (cutA A25 c26 1 2) (bl.length - 1) (c26 - 1), al, bl.drop 1, v40, zs ++ [x31]) ⟨rfl, rfl, rfl, rfl, trivial⟩ ⟨H, ha, ord_drop hb2 1, by (try dsimp only); simp only [List.length_append, List.length_cons, List.length_nil, List.length_drop]; omega, hz2⟩ (by (try dsimp only); simp only [List.length_drop]; omega)
     ·refine c_skip (q_then (c_seq (c_reg (s_k 2 rfl ?_))))
      have th41 := H.thR 0 rfl hx35
      refine s_val rfl rfl (r_iaE (p := oOf A19 + 0 * 2) rfl sl35 rfl rfl (by omega) (by omega) th41 (by omega)) (s_val rfl rfl (r_ldA (cs := [.string x34.key, .string x34.val]) rfl ty106 rfl rfl (H.elsR 0 rfl hx35 rfl)) (s_bsl (parts := [(0, .tmp 47)]) (vs := [.agg #[.string x34.key, .string x34.val]]) (cs := [.string x34.key, .string x34.val]) rfl rfl rfl sl35 zr106 rfl (by decide) (by decide) rfl rfl H (fun b42 w H => ?_)))
      replace H := H.p1
      refine s_appF (xs := zs) (ys := [x34]) rfl rfl rfl sl35 zr106 rfl (by decide) rfl rfl H (by first | omega | (simp only [List.length_append, List.length_cons, List.length_nil]; omega)) (fun F hA hR => blk_rsl (hA _ (List.mem_of_getElem? (i := 0) rfl)) rfl (by decide) (RepsR.flat_eq.2 rfl)) (fun v43 w H => (s_1 rfl (s_nil (q_then ?_))))
      replace H : Hd _ _ _ [osl kPair v43 (zs ++ [x34]), blk b42 [.string x34.key, .string x34.val] 106] [rsl kPair (.slice A19 al.length c20) al, rsl kPair (.slice A25 bl.length c26) bl, rsl kPair (.slice A1 xs.length c2) xs, rsl kPair (.slice A6 ys.length c7) ys] := H
      refine c_reg (s_1 rfl (s_val rfl rfl (r_cutS rfl sl35 rfl rfl (by omega) (by omega) rfl) (s_1 rfl (s_nil (q_blockN ?_)))))
      replace H := H.k1
      replace H := H.sufR 0 rfl (n := 1) (by omega)
      replace H : Hd w0 F0 w [osl kPair v43 (zs ++ [x34])] [rsl kPair (.slice (cutA A19 c20 1 2) (al.length - 1) (c20 - 1)) (al.drop 1), rsl kPair (.slice A25 bl.length c26) bl, rsl kPair (.slice A1 xs.length c2) xs, rsl kPair (.slice A6 ys.length c7) ys] := H.pickR [0, 2, 3, 4]
      have hz2 : (zs ++ [x34]) ++ srt (al.drop 1 ++ bl) = srt (xs ++ ys) := by rw [← hz, mer_a hx35 hx32 ha hb2 h37, List.append_assoc]; rfl
      exact q_round (s := (undef, undef, al, bl, undef, zs)) (.slice (cutA A19 c20 1 2) (al.length - 1) (c20 - 1), .slice A25 bl.length c26, al.drop 1, bl, v43, zs ++ [x34]) ⟨rfl, rfl, rfl, rfl, trivial⟩ ⟨H, ord_drop ha 1, hb2, by (try dsimp only); simp only [List.length_append, List.length_cons, List.length_nil, List.length_drop]; omega, hz2⟩ (by (try dsimp only); simp only [List.length_drop]; omega)
    ·refine c_exit (q_thenE (q_thenE (q_blockE (q_then (c_seq (c_reg (s_k 2 rfl (s_appF (xs := zs) (ys := al) rfl rfl rfl sl35 zr106 rfl (by decide) rfl rfl H (by first | omega | (simp only [List.length_append, List.length_cons, List.length_nil]; omega)) (fun F hA hR => hR _ (List.mem_of_getElem? (i := 0) rfl)) (fun v44 w H => (s_1 rfl (s_appF (xs := zs ++ al) (ys := bl) rfl rfl rfl sl35 zr106 rfl (by decide) rfl rfl H (by first | omega | (simp only [List.length_append, List.length_cons, List.length_nil]; omega)) (fun F hA hR => hR _ (List.mem_of_getElem? (i := 1) rfl)) (fun v45 w H => (s_1 rfl (s_nil (q_then ?_)))))))))))))))
     replace H := H.h1 (A := osl kPair v45 ((zs ++ al) ++ bl))
     refine c_ret (q_ret1 rfl rfl ?_)
     replace H : Hd w0 F0 w [osl kPair v45 (srt (xs ++ ys))] [rsl kPair (.slice A19 al.length c20) al, rsl kPair (.slice A25 bl.length c26) bl, rsl kPair (.slice A1 xs.length c2) xs, rsl kPair (.slice A6 ys.length c7) ys] := by rw [← hz, mer_end ha hb2 (by omega), ← List.append_assoc]; exact H
     replace H := H.dropR
     replace H := H.dropR
     exact fin rfl H
   ·refine s_k 4 rfl (s_nil (q_then ?_))
    replace H : Hd _ _ _ [osl kPair q zs] [rsl kPair (.slice A19 al.length c20) al, rsl kPair v bl, rsl kPair (.slice A1 xs.length c2) xs, rsl kPair (.slice A6 ys.length c7) ys] := H
    refine c_no rfl (c_exit (q_thenE (q_thenE (q_blockE (q_then (c_seq (c_reg (s_k 2 rfl (s_appF (xs := zs) (ys := al) rfl rfl rfl sl35 zr106 rfl (by decide) rfl rfl H (by first | omega | (simp only [List.length_append, List.length_cons, List.length_nil]; omega)) (fun F hA hR => hR _ (List.mem_of_getElem? (i := 0) rfl)) (fun v46 w H => (s_1 rfl ?_)))))))))))
    obtain ⟨A47, c48, rfl, hc49, hm50, hp51⟩ := H.fR 1 rfl
    refine s_appF (xs := zs ++ al) (ys := bl) rfl rfl rfl sl35 zr106 rfl (by decide) rfl rfl H (by first | omega | (simp only [List.length_append, List.length_cons, List.length_nil]; omega)) (fun F hA hR => hR _ (List.mem_of_getElem? (i := 1) rfl)) (fun v52 w H => (s_1 rfl (s_nil (q_then ?_))))
    replace H : Hd _ _ _ [osl kPair v52 ((zs ++ al) ++ bl)] [rsl kPair (.slice A19 al.length c20) al, rsl kPair (.slice A47 bl.length c48) bl, rsl kPair (.slice A1 xs.length c2) xs, rsl kPair (.slice A6 ys.length c7) ys] := H
    refine c_ret (q_ret1 rfl rfl ?_)
    replace H : Hd w0 F0 w [osl kPair v52 (srt (xs ++ ys))] [rsl kPair (.slice A19 al.length c20) al, rsl kPair (.slice A47 bl.length c48) bl, rsl kPair (.slice A1 xs.length c2) xs, rsl kPair (.slice A6 ys.length c7) ys] := by rw [← hz, mer_end ha hb2 (by omega), ← List.append_assoc]; exact H
    replace H := H.dropR
    replace H := H.dropR
    exact fin rfl H
set_option maxHeartbeats 1000000 in
theorem runs_ok (vus : Value) (us : List (Value × List Pair)) (hb : (flat2 us).length ≤ 1000000) :
    Cn Tryz.prog 138 [vus] [] [rsl (kHd kPair) vus us] (fun v Bs => Bs = [osl kPair v (srt (flat2 us))]) := by
 intro w0 F0 H
 obtain ⟨A1, c2, rfl, hc3, hm4, hp5⟩ := H.fR 0 rfl
 refine enter (args := [.slice A1 us.length c2]) Tryz.func138 rfl rfl (Nat.le_of_ble_eq_true rfl) (c_seq (c_reg (s_1 rfl (s_nil (q_then ?_)))))
 replace H : Hd _ _ _ [] [rsl (kHd kPair) (.slice A1 us.length c2) us] := H
 refine c_seq (c_reg (s_1 rfl (s_nil (q_then (c_seq (c_seq (c_reg (s_1 rfl (s_val rfl rfl (r_lenL rfl un22 rfl) (s_1 rfl (s_nil (q_then (c_block ?_)))))))))))))
 replace H := H.newnil kPair
 refine c_loop (σ := Nat × Value) (fun (k, q) => [(2, .slice none 0 0), (3, q), (6, .slice A1 us.length c2), (7, .int .i64 ((us.length : Nat) : Int)), (8, .int .i64 ((k : Nat) : Int))]) (fun (k, q) w => (Hd w0 F0 w [osl kPair q (srt (flat2 (us.take k)))] [rsl (kHd kPair) (.slice A1 us.length c2) us]) ∧ (k ≤ us.length)) (fun (k, q) => us.length - k) (0, .slice none 0 0) ⟨rfl, rfl, rfl, rfl, rfl, trivial⟩ ⟨H, by (try dsimp only); omega⟩ ?_
 rintro ⟨k, q⟩ w ⟨H, hk⟩
 have hsl := srt_len (flat2 (us.take k))
 refine c_seq (c_reg (s_val rfl rfl (r_lt rfl rfl rfl) (s_nil (q_then (c_seq ?_)))))
 refine c_dec (p := ((k : Nat) : Int) < ((us.length : Nat) : Int)) rfl (fun h6 => ?_) (fun h6 => ?_)
 ·refine c_skip (q_then (c_seq (c_block (c_seq (c_reg ?_)))))
  obtain ⟨⟨u9, x7⟩, hx8⟩ : ∃ z9, us[k]? = some z9 := ⟨_, List.getElem?_eq_getElem (show k < us.length by omega)⟩
  obtain ⟨A10, c11, rfl, hc12, hm13⟩ := H.nestR 0 rfl hx8
  have th14 := H.thRd 0 rfl hx8
  refine s_val rfl rfl (r_iaE (p := oOf A1 + k * 1) rfl sl22 rfl rfl (by omega) (by omega) th14 rfl) (s_val rfl rfl (r_ld rfl ty35 rfl (H.elRd 0 rfl hx8 rfl)) (s_1 rfl (s_nil (q_then ?_))))
  have hfl := flat2_le us (k + 1)
  rw [flat2_step hx8, List.length_append] at hfl
  refine c_reg (s_k 2 rfl (sc (two_ok q (srt (flat2 (us.take k))) (.slice A10 x7.length c11) x7 (by first | omega | decide | (simp only [List.length_append, List.length_cons, List.length_nil, srt_len]; omega))) H (lA 0 rfl own_rd (lX (fun F hA hR => nest_rsl (hR _ (List.mem_of_getElem? (i := 0) rfl)) hx8) l0)) rfl rfl (e_fn kn185 rfl rfl) ?_))
  rintro v15 _ w rfl H
  refine s_1 rfl (s_nil (q_blockN (q_then ?_)))
  replace H : Hd _ _ _ [osl kPair v15 (srt ((srt (flat2 (us.take k))) ++ x7)), osl kPair q (srt (flat2 (us.take k)))] [rsl (kHd kPair) (.slice A1 us.length c2) us] := H
  refine c_reg (s_val rfl rfl (r_add (z := ((k + 1 : Nat) : Int)) rfl rfl rfl (by rw [w64 (by omega) (by omega)]; omega)) (s_1 rfl (s_nil ?_)))
  replace H := H.k1
  replace H : Hd w0 F0 w [osl kPair v15 (srt (flat2 (us.take (k + 1))))] [rsl (kHd kPair) (.slice A1 us.length c2) us] := by rw [flat2_step hx8, ← srt_app_srt]; exact H
  exact q_round (s := (k, undef)) (k + 1, v15) ⟨rfl, rfl, rfl, rfl, rfl, trivial⟩ ⟨H, by (try dsimp only); omega⟩ (by (try dsimp only); omega)
 ·refine c_exit (q_thenE (q_thenE (q_blockE (q_then (c_seq (c_reg (s_k 2 rfl (s_nil (q_then (c_ret (q_ret1 rfl rfl ?_)))))))))))
  replace H : Hd w0 F0 w [osl kPair q (srt (flat2 us))] [rsl (kHd kPair) (.slice A1 us.length c2) us] := by rw [List.take_of_length_le (show us.length ≤ k by omega)] at H; exact H
  exact fin rfl H
end Go.Proofs.YthgehekecfpikaaGreatDoor.X

set_option linter.unusedVariables false
set_option linter.unusedSimpArgs false
namespace Go.Proofs.YthgehekecfpikaaGreatDoor.X
open Go
end Go.Proofs.YthgehekecfpikaaGreatDoor.X

set_option linter.unusedVariables false
set_option linter.unusedSimpArgs false
namespace Go.Proofs.YthgehekecfpikaaGreatDoor.X
open Go
set_option maxHeartbeats 1000000 in
theorem indexI_ok (v : Value) (xs : List Int) (x : Int) :
    Cn Tryz.prog 184 [v, .int .i64 x] [] [rsl (kInt .i64) v xs] (fun v Bs => v = .int .i64 (fidx (fun y => decide (x = y)) xs) ∧ Bs = []) := by
 intro w0 F0 H
 obtain ⟨A1, c2, rfl, hc3, hm4, hp5⟩ := H.fR 0 rfl
 refine enter (args := [.slice A1 xs.length c2, .int .i64 x]) Tryz.func184 rfl rfl (Nat.le_of_ble_eq_true rfl) (c_seq (c_reg (s_1 rfl (s_nil (q_then ?_)))))
 replace H : Hd _ _ _ [] [rsl (kInt .i64) (.slice A1 xs.length c2) xs] := H
 refine c_seq (c_seq (c_reg (s_1 rfl (s_val rfl rfl (r_lenL rfl un24 rfl) (s_1 rfl (s_nil (q_then (c_block (c_loop (σ := Nat) (fun k => [(0, .slice A1 xs.length c2), (1, .int .i64 x), (7, .int .i64 ((xs.length : Nat) : Int)), (8, .int .i64 ((k : Nat) : Int))]) (fun k w => (Hd w0 F0 w [] [rsl (kInt .i64) (.slice A1 xs.length c2) xs]) ∧ (k ≤ xs.length) ∧ (∀ y ∈ xs.take k, (fun y => decide (x = y)) y = false)) (fun k => xs.length - k) 0 ⟨rfl, rfl, rfl, rfl, trivial⟩ ⟨H, by omega, by simp⟩ ?_)))))))))
 rintro k w ⟨H, hk, hn⟩
 refine c_seq (c_reg (s_val rfl rfl (r_lt rfl rfl rfl) (s_nil (q_then (c_seq ?_)))))
 refine c_dec (p := ((k : Nat) : Int) < ((xs.length : Nat) : Int)) rfl (fun h6 => ?_) (fun h6 => ?_)
 ·refine c_skip (q_then (c_seq (c_block (c_seq (c_reg (s_k 2 rfl (s_nil (q_then (c_seq (c_reg (s_k 3 rfl ?_)))))))))))
  obtain ⟨x7, hx8⟩ : ∃ z9, xs[k]? = some z9 := ⟨_, List.getElem?_eq_getElem (show k < xs.length by omega)⟩
  have th9 := H.thR 0 rfl hx8
  refine s_val rfl rfl (r_iaE (p := oOf A1 + k * 1) rfl sl24 rfl rfl (by omega) (by omega) th9 rfl) (s_val rfl rfl (r_ld rfl ty3 rfl (H.elR 0 rfl hx8 (q := 0) rfl rfl)) (s_val rfl rfl (r_eq rfl rfl rfl) (s_nil (q_then ?_))))
  refine c_dec (p := x = x7) rfl (fun h10 => ?_) (fun h10 => ?_)
  ·exact c_seq (c_reg (s_k 2 rfl (s_nil (q_then (c_ret (q_blockR (q_thenR (q_thenR (q_blockR (q_thenR (q_ret1 rfl rfl (fin ⟨by rw [fidx_hit (p := (fun y => decide (x = y))) hn hx8 (decide_eq_true h10)], rfl⟩ H))))))))))))
  ·exact c_skip (q_blockN (q_then (c_reg (s_val rfl rfl (r_add (z := ((k + 1 : Nat) : Int)) rfl rfl rfl (by rw [w64 (by omega) (by omega)]; omega)) (s_1 rfl (s_nil (q_round (s := k) (k + 1) ⟨rfl, rfl, rfl, rfl, trivial⟩ ⟨H, by omega, take_false (p := (fun y => decide (x = y))) hn hx8 (decide_eq_false h10)⟩ (by (try dsimp only); omega))))))))
 ·refine c_exit (q_thenE (q_thenE (q_blockE (q_then (c_seq (c_reg (s_1 rfl (s_nil (q_then (c_ret (q_ret1 rfl rfl ?_)))))))))))
  have hn2 : ∀ y ∈ xs, (fun y => decide (x = y)) y = false := by rw [← take_all (xs := xs) (k := k) (by omega)]; exact hn
  exact fin ⟨by rw [fidx_miss hn2], rfl⟩ H
set_option maxHeartbeats 1000000 in
theorem containsI_ok (v : Value) (xs : List Int) (x : Int) :
    Cn Tryz.prog 136 [v, .int .i64 x] [] [rsl (kInt .i64) v xs] (fun v Bs => v = .bool (decide (x ∈ xs)) ∧ Bs = []) := by
 intro w0 F0 H
 refine enter (args := [v, .int .i64 x]) Tryz.func136 rfl rfl (Nat.le_of_ble_eq_true rfl) (c_seq (c_reg (s_1 rfl (s_nil (q_then (c_seq (c_reg (s_k 2 rfl (sc (indexI_ok v xs x) H (lR 0 rfl l0) rfl rfl (e_fn kn184 rfl rfl) ?_)))))))))
 rintro _ _ w ⟨rfl, rfl⟩ H
 refine s_val rfl rfl (r_ge rfl rfl rfl) (s_1 rfl (s_nil (q_then (c_ret (q_ret1 rfl rfl ?_)))))
 have e : decide (0 ≤ fidx (fun y => decide (x = y)) xs) = decide (x ∈ xs) := by rw [fidx_nonneg]; rw [Bool.eq_iff_iff]; simp
 exact fin ⟨congrArg Value.bool e, rfl⟩ H
end Go.Proofs.YthgehekecfpikaaGreatDoor.X

set_option linter.unusedVariables false
set_option linter.unusedSimpArgs false
namespace Go.Proofs.YthgehekecfpikaaGreatDoor.X
open Go
set_option maxHeartbeats 4000000 in
theorem merged_ok (r : Nat) (A : Option Addr) (c : Nat) (vM2 : Value) (vC2 : Value) (vR2 : Value) (vK2 : Value) (J2 : Job) (cw : Int) (ct : Int) (co : Int) (part : Int) (ep : Int) (R : Red) (hv : Nat → Value) (sb : Nat) (vs : Value) (hus6 : J2.us.length ≤ 6) :
    Cn Tryz.prog 51 [.pointer (some ⟨r, 0, none⟩)] [] [blk r (redC (.slice A J2.us.length c) vM2 vC2 vR2 vK2 J2 cw ct co part ep R.g hv sb vs) 185] (fun v Bs => Bs = [osl (kInt .i64) v (mergedL J2.us.length R)]) := by
 intro w0 F0 H
 refine enter (args := [.pointer (some ⟨r, 0, none⟩)]) Tryz.func51 rfl rfl (Nat.le_of_ble_eq_true rfl) (c_seq (c_reg (s_1 rfl (s_nil (q_then (c_seq (c_seq (c_reg (s_1 rfl (s_val rfl rfl (r_peq rfl un75 rfl rfl) (s_nil (q_then (c_no rfl (c_skip (q_then (c_seq (c_reg (s_1 rfl (s_nil (q_then (c_seq (c_seq (c_reg (s_1 rfl (s_val rfl rfl (r_nilP rfl rfl) (s_val rfl rfl (r_fa rfl fo185_0 rfl) (s_val rfl rfl (r_fa rfl fo28_0 rfl) (s_val rfl rfl (r_fa rfl fo26_0 rfl) (s_val rfl rfl (r_ld rfl ty22 rfl (H.cellRI 0 rfl rfl)) (s_val rfl rfl (r_lenL rfl un22 rfl) (s_1 rfl (s_nil (q_then (c_block ?_))))))))))))))))))))))))))))))))))
 replace H := H.newnil (kInt .i64)
 refine c_loop (σ := Nat × Value) (fun (k, q) => [(0, .pointer (some ⟨r, 0, none⟩)), (2, .slice none 0 0), (3, q), (13, .int .i64 ((J2.us.length : Nat) : Int)), (14, .int .i64 ((k : Nat) : Int))]) (fun (k, q) w => (Hd w0 F0 w [osl (kInt .i64) q (mergedL k R)] [blk r (redC (.slice A J2.us.length c) vM2 vC2 vR2 vK2 J2 cw ct co part ep R.g hv sb vs) 185]) ∧ (k ≤ J2.us.length)) (fun (k, q) => J2.us.length - k) (0, .slice none 0 0) ⟨rfl, rfl, rfl, rfl, rfl, trivial⟩ ⟨H, Nat.zero_le _⟩ ?_
 rintro ⟨k, q⟩ w ⟨H, hk⟩
 have hml := merged_len k R
 refine c_seq (c_reg (s_val rfl rfl (r_lt rfl rfl rfl) (s_nil (q_then (c_seq ?_)))))
 refine c_dec (p := ((k : Nat) : Int) < ((J2.us.length : Nat) : Int)) rfl (fun h1 => ?_) (fun h1 => ?_)
 ·refine c_skip (q_then (c_seq (c_block (c_seq (c_reg (s_k 2 rfl (s_nil (q_then (c_seq (c_reg (s_k 2 rfl (s_val rfl rfl (r_nilP rfl rfl) (s_val rfl rfl (r_fa rfl fo185_3 rfl) (s_val rfl rfl (r_iaB (p := 14 + k * 5) rfl un182 is181 rfl rfl (by omega) (by omega) (by omega)) (s_val rfl rfl (r_fa rfl fo181_0 rfl) (s_val rfl rfl (r_ld rfl ty4 rfl (H.cellRI 0 rfl (redC_at0 (by omega)))) (s_nil (q_then ?_))))))))))))))))))
  refine c_cond (b := (R.g k).merged) rfl (fun h2 => ?_) (fun h2 => ?_)
  ·refine c_reg (s_k 2 rfl (s_bsl (parts := [(0, .tmp 25)]) (vs := [.int .i64 ((k : Nat) : Int)]) (cs := [.int .i64 ((k : Nat) : Int)]) rfl rfl rfl sl24 zr3 rfl (by decide) (by decide) rfl rfl H (fun b3 w H => ?_)))
   replace H := H.p1
   refine s_appF (xs := mergedL k R) (ys := [((k : Nat) : Int)]) rfl rfl rfl sl24 zr3 rfl (by decide) rfl rfl H (by first | omega | (simp only [List.length_append, List.length_cons, List.length_nil]; omega)) (fun F hA hR => blk_rsl (hA _ (List.mem_of_getElem? (i := 0) rfl)) rfl (by decide) (RepsR.flat_eq.2 rfl)) (fun v4 w H => (s_1 rfl (s_nil (q_blockN (q_then ?_)))))
   replace H : Hd _ _ _ [osl (kInt .i64) v4 ((mergedL k R) ++ [((k : Nat) : Int)]), blk b3 [.int .i64 ((k : Nat) : Int)] 3] [blk r (redC (.slice A J2.us.length c) vM2 vC2 vR2 vK2 J2 cw ct co part ep R.g hv sb vs) 185] := H
   refine c_reg (s_val rfl rfl (r_add (z := ((k + 1 : Nat) : Int)) rfl rfl rfl (by rw [w64 (by omega) (by omega)]; omega)) (s_1 rfl (s_nil ?_)))
   replace H := H.k1
   replace H : Hd w0 F0 w [osl (kInt .i64) v4 (mergedL (k + 1) R)] [blk r (redC (.slice A J2.us.length c) vM2 vC2 vR2 vK2 J2 cw ct co part ep R.g hv sb vs) 185] := by rw [merged_succ, if_pos h2]; exact H
   exact q_round (s := (k, undef)) (k + 1, v4) ⟨rfl, rfl, rfl, rfl, rfl, trivial⟩ ⟨H, by (try dsimp only); omega⟩ (by (try dsimp only); omega)
  ·refine c_skip (q_blockN (q_then (c_reg (s_val rfl rfl (r_add (z := ((k + 1 : Nat) : Int)) rfl rfl rfl (by rw [w64 (by omega) (by omega)]; omega)) (s_1 rfl (s_nil ?_))))))
   replace H : Hd w0 F0 w [osl (kInt .i64) q (mergedL (k + 1) R)] [blk r (redC (.slice A J2.us.length c) vM2 vC2 vR2 vK2 J2 cw ct co part ep R.g hv sb vs) 185] := by rw [merged_succ, if_neg (by rw [h2]; exact Bool.false_ne_true), List.append_nil]; exact H
   exact q_round (s := (k, undef)) (k + 1, q) ⟨rfl, rfl, rfl, rfl, rfl, trivial⟩ ⟨H, by (try dsimp only); omega⟩ (by (try dsimp only); omega)
 ·refine c_exit (q_thenE (q_thenE (q_blockE (q_then (c_seq (c_reg (s_k 2 rfl (s_nil (q_then (c_ret (q_ret1 rfl rfl ?_)))))))))))
  have hkk : k = J2.us.length := by omega
  replace H : Hd w0 F0 w [osl (kInt .i64) q (mergedL J2.us.length R)] [blk r (redC (.slice A J2.us.length c) vM2 vC2 vR2 vK2 J2 cw ct co part ep R.g hv sb vs) 185] := by rw [hkk] at H; exact H
  exact fin rfl H
set_option maxHeartbeats 4000000 in
theorem snapOf_ok (vp : Value) (p : List Ins) (fuel : Int) (vus : Value) (us : List (Value × List Pair)) (hpa : ∀ i ∈ p, In64 i.a) (hfu : In64 fuel) (hb : (flat2 us).length ≤ 1000000) :
    Cn Tryz.prog 180 [vp, .int .i64 fuel, vus] [] [rsl kIns vp p, rsl (kHd kPair) vus us, gl] (fun v Bs => ∃ u : Value, v = .tuple #[u, .int .i64 ((eachM dg p (srt (flat2 us)) fuel false).2)] ∧ Bs = [osl kPair u ((eachM dg p (srt (flat2 us)) fuel false).1)]) := by
 intro w0 F0 H
 obtain ⟨A1, c2, rfl, hc3, hm4, hp5⟩ := H.fR 0 rfl
 obtain ⟨A6, c7, rfl, hc8, hm9, hp10⟩ := H.fR 1 rfl
 refine enter (args := [.slice A1 p.length c2, .int .i64 fuel, .slice A6 us.length c7]) Tryz.func180 rfl rfl (Nat.le_of_ble_eq_true rfl) (c_seq (c_reg (s_k 2 rfl (s_nil (q_then ?_)))))
 replace H : Hd _ _ _ [] [rsl kIns (.slice A1 p.length c2) p, rsl (kHd kPair) (.slice A6 us.length c7) us, gl] := H
 refine c_seq (c_reg (s_k 2 rfl (sc (runs_ok (.slice A6 us.length c7) us (by first | omega | decide | exact Nat.le_trans (flat2_le _ _) (by omega) | exact Nat.le_trans (flat2_le' _ _) (by omega) | (simp only [flat2, List.flatMap_cons, List.flatMap_nil, List.append_nil, srt_len]; omega))) H (lR 1 rfl l0) rfl rfl (e_fn kn138 rfl rfl) ?_)))
 rintro v11 _ w rfl H
 refine s_1 rfl ?_
 replace H := H.h1 (A := osl kPair v11 (srt (flat2 us)))
 refine sc (foldEach_ok (.slice A1 p.length c2) p v11 (srt (flat2 us)) fuel (by first | exact hpa | exact in64_first | assumption) (by first | assumption | (unfold In64; omega)) (by first | omega | (simp only [srt_len]; omega))) H (lR 0 rfl (lA 0 rfl own_rd (lR 2 rfl l0))) rfl rfl (e_fn kn137 rfl rfl) ?_
 rintro _ _ w ⟨u12, rfl, rfl⟩ H
 refine s_k 4 rfl (s_nil (q_then ?_))
 replace H := H.h1 (A := osl kPair u12 ((eachM dg p (srt (flat2 us)) fuel false).1))
 refine c_ret (q_ret2 rfl rfl rfl ?_)
 replace H := H.k1
 exact fin ⟨u12, rfl, rfl⟩ H
set_option maxHeartbeats 4000000 in
theorem of_ok (r : Nat) (A : Option Addr) (c : Nat) (vM2 : Value) (vC2 : Value) (vR2 : Value) (vK2 : Value) (J2 : Job) (cw : Int) (ct : Int) (co : Int) (part : Int) (ep : Int) (R : Red) (hv : Nat → Value) (sb : Nat) (vs : Value) (vset : Value) (set : List Int) (hred : ∀ i ∈ J2.red, In64 i.a) (hf64 : In64 J2.fuel) (hus6 : J2.us.length ≤ 6) (hbp : ∀ i, (R.g i).pairs.length ≤ 1000) :
    Cn Tryz.prog 131 [.pointer (some ⟨r, 0, none⟩), vset] [] [blk r (redC (.slice A J2.us.length c) vM2 vC2 vR2 vK2 J2 cw ct co part ep R.g hv sb vs) 185, prsS (R.g) hv, rsl (kInt .i64) vset set, rsl kIns vR2 J2.red, gl] (fun v Bs => ∃ u : Value, v = .tuple #[u, .int .i64 ((eachM dg J2.red (srt (runsOf J2.us.length R set)) J2.fuel false).2)] ∧ Bs = [osl kPair u ((eachM dg J2.red (srt (runsOf J2.us.length R set)) J2.fuel false).1)]) := by
 intro w0 F0 H
 obtain ⟨A1, c2, rfl, hc3, hm4, hp5⟩ := H.fR 2 rfl
 obtain ⟨A6, c7, rfl, hc8, hm9, hp10⟩ := H.fR 3 rfl
 refine enter (args := [.pointer (some ⟨r, 0, none⟩), .slice A1 set.length c2]) Tryz.func131 rfl rfl (Nat.le_of_ble_eq_true rfl) (c_seq (c_reg (s_k 2 rfl (s_nil (q_then ?_)))))
 replace H : Hd _ _ _ [] [blk r (redC (.slice A J2.us.length c) vM2 vC2 (.slice A6 J2.red.length c7) vK2 J2 cw ct co part ep R.g hv sb vs) 185, prsS (R.g) hv, rsl (kInt .i64) (.slice A1 set.length c2) set, rsl kIns (.slice A6 J2.red.length c7) J2.red, gl] := H
 refine c_seq (c_reg (s_1 rfl (s_nil (q_then (c_seq (c_seq (c_reg (s_1 rfl (s_val rfl rfl (r_nilP rfl rfl) (s_val rfl rfl (r_fa rfl fo185_0 rfl) (s_val rfl rfl (r_fa rfl fo28_0 rfl) (s_val rfl rfl (r_fa rfl fo26_0 rfl) (s_val rfl rfl (r_ld rfl ty22 rfl (H.cellRI 0 rfl rfl)) (s_val rfl rfl (r_lenL rfl un22 rfl) (s_1 rfl (s_nil (q_then (c_block ?_))))))))))))))))))
 replace H := H.newnil kHdr
 replace H : Hd _ _ _ [osl kHdr (.slice none 0 0) []] [blk r (redC (.slice A J2.us.length c) vM2 vC2 (.slice A6 J2.red.length c7) vK2 J2 cw ct co part ep R.g hv sb vs) 185, prsS (R.g) hv, rsl (kInt .i64) (.slice A1 set.length c2) set, rsl kIns (.slice A6 J2.red.length c7) J2.red, gl] := H
 replace H := H.h1 (A := osl kHdr (.slice none 0 0) (hdr1 (pickU R.g hv set 0)))
 refine c_loop (σ := Nat × Value) (fun (k, q) => [(0, .pointer (some ⟨r, 0, none⟩)), (1, .slice A1 set.length c2), (4, .slice none 0 0), (5, .int .i64 0), (6, q), (14, .int .i64 ((J2.us.length : Nat) : Int)), (15, .int .i64 ((k : Nat) : Int))]) (fun (k, q) w => (Hd w0 F0 w [osl kHdr q (hdr1 (pickU R.g hv set k))] [blk r (redC (.slice A J2.us.length c) vM2 vC2 (.slice A6 J2.red.length c7) vK2 J2 cw ct co part ep R.g hv sb vs) 185, prsS (R.g) hv, rsl (kInt .i64) (.slice A1 set.length c2) set, rsl kIns (.slice A6 J2.red.length c7) J2.red, gl]) ∧ (k ≤ J2.us.length)) (fun (k, q) => J2.us.length - k) (0, .slice none 0 0) ⟨rfl, rfl, rfl, rfl, rfl, rfl, rfl, trivial⟩ ⟨H, Nat.zero_le _⟩ ?_
 rintro ⟨k, q⟩ w ⟨H, hk⟩
 have hpl := pickU_len R.g hv set k
 have hhl : (hdr1 (pickU R.g hv set k)).length = (pickU R.g hv set k).length := by simp [hdr1]
 refine c_seq (c_reg (s_val rfl rfl (r_lt rfl rfl rfl) (s_nil (q_then (c_seq ?_)))))
 refine c_dec (p := ((k : Nat) : Int) < ((J2.us.length : Nat) : Int)) rfl (fun h11 => ?_) (fun h11 => ?_)
 ·refine c_skip (q_then (c_seq (c_block (c_seq (c_reg (s_k 2 rfl (s_nil (q_then (c_seq (c_reg (s_k 2 rfl (s_val rfl rfl (r_nilP rfl rfl) (s_val rfl rfl (r_fa rfl fo185_3 rfl) (s_val rfl rfl (r_iaB (p := 14 + k * 5) rfl un182 is181 rfl rfl (by omega) (by omega) (by omega)) (s_val rfl rfl (r_fa rfl fo181_0 rfl) (s_val rfl rfl (r_ld rfl ty4 rfl (H.cellRI 0 rfl (redC_at0 (by omega)))) (s_1 rfl ?_)))))))))))))))))
  refine s_boo (d := 25) (b := (R.g k).merged) rfl (fun h12 => ?_) (fun h12 => ?_)
  ·refine s_k 2 rfl (sc (containsI_ok (.slice A1 set.length c2) set ((k : Nat) : Int)) H (lR 2 rfl l0) rfl rfl (e_fn kn136 rfl rfl) ?_)
   rintro _ _ w ⟨rfl, rfl⟩ H
   refine s_1 rfl (s_nil (q_then ?_))
   refine c_dec (p := ((k : Nat) : Int) ∈ set) rfl (fun h13 => ?_) (fun h13 => ?_)
   ·refine c_reg (s_k 3 rfl (s_val rfl rfl (r_nilP rfl rfl) (s_val rfl rfl (r_fa rfl fo185_3 rfl) (s_val rfl rfl (r_iaB (p := 14 + k * 5) rfl un182 is181 rfl rfl (by omega) (by omega) (by omega)) (s_val rfl rfl (r_fa rfl fo181_1 rfl) ?_)))))
    obtain ⟨A14, c15, e16, _, _, _⟩ := H.prsFormR (i := k) 1 rfl (by omega)
    refine s_val rfl rfl (r_ld rfl ty35 rfl (H.cellRI 0 rfl ((redC_at1 (by omega)).trans (congrArg some e16)))) (s_bsl (parts := [(0, .tmp 37)]) (vs := [.slice A14 ((R.g k).pairs.length) c15]) (cs := [.slice A14 ((R.g k).pairs.length) c15]) rfl rfl rfl sl22 zr35 rfl (by decide) (by decide) rfl rfl H (fun b17 w H => ?_))
    replace H := H.p1
    refine s_appF (xs := hdr1 (pickU R.g hv set k)) (ys := [(⟨A14, (R.g k).pairs.length, c15⟩ : Hdr)]) rfl rfl rfl sl22 zr35 rfl (by decide) rfl rfl H (by first | omega | (simp only [List.length_append, List.length_cons, List.length_nil]; omega)) (fun F hA hR => blk_rsl (hA _ (List.mem_of_getElem? (i := 0) rfl)) rfl (by decide) (RepsR.flat_eq.2 rfl)) (fun v18 w H => (s_1 rfl (s_nil (q_blockN (q_then ?_)))))
    replace H : Hd _ _ _ [osl kHdr v18 ((hdr1 (pickU R.g hv set k)) ++ [(⟨A14, (R.g k).pairs.length, c15⟩ : Hdr)]), blk b17 [.slice A14 ((R.g k).pairs.length) c15] 35] [blk r (redC (.slice A J2.us.length c) vM2 vC2 (.slice A6 J2.red.length c7) vK2 J2 cw ct co part ep R.g hv sb vs) 185, prsS (R.g) hv, rsl (kInt .i64) (.slice A1 set.length c2) set, rsl kIns (.slice A6 J2.red.length c7) J2.red, gl] := H
    refine c_reg (s_val rfl rfl (r_add (z := ((k + 1 : Nat) : Int)) rfl rfl rfl (by rw [w64 (by omega) (by omega)]; omega)) (s_1 rfl (s_nil ?_)))
    replace H := H.k1
    replace H : Hd w0 F0 w [osl kHdr v18 (hdr1 (pickU R.g hv set (k + 1)))] [blk r (redC (.slice A J2.us.length c) vM2 vC2 (.slice A6 J2.red.length c7) vK2 J2 cw ct co part ep R.g hv sb vs) 185, prsS (R.g) hv, rsl (kInt .i64) (.slice A1 set.length c2) set, rsl kIns (.slice A6 J2.red.length c7) J2.red, gl] := by rw [pickU_succ, if_pos ⟨h12, h13⟩, show hdr1 (pickU R.g hv set k ++ [(hv k, (R.g k).pairs)]) = hdr1 (pickU R.g hv set k) ++ [⟨A14, (R.g k).pairs.length, c15⟩] by simp [hdr1, hdrOf, e16]]; exact H
    exact q_round (s := (k, undef)) (k + 1, v18) ⟨rfl, rfl, rfl, rfl, rfl, rfl, rfl, trivial⟩ ⟨H, by (try dsimp only); omega⟩ (by (try dsimp only); omega)
   ·refine c_skip (q_blockN (q_then (c_reg (s_val rfl rfl (r_add (z := ((k + 1 : Nat) : Int)) rfl rfl rfl (by rw [w64 (by omega) (by omega)]; omega)) (s_1 rfl (s_nil ?_))))))
    replace H : Hd w0 F0 w [osl kHdr q (hdr1 (pickU R.g hv set (k + 1)))] [blk r (redC (.slice A J2.us.length c) vM2 vC2 (.slice A6 J2.red.length c7) vK2 J2 cw ct co part ep R.g hv sb vs) 185, prsS (R.g) hv, rsl (kInt .i64) (.slice A1 set.length c2) set, rsl kIns (.slice A6 J2.red.length c7) J2.red, gl] := by rw [pickU_succ, if_neg (fun h => by first | exact h13 h.2 | (rw [h12] at h; cases h.1)), List.append_nil]; exact H
    exact q_round (s := (k, undef)) (k + 1, q) ⟨rfl, rfl, rfl, rfl, rfl, rfl, rfl, trivial⟩ ⟨H, by (try dsimp only); omega⟩ (by (try dsimp only); omega)
  ·refine s_k 4 rfl (s_nil (q_then (c_no rfl (c_skip (q_blockN (q_then (c_reg (s_val rfl rfl (r_add (z := ((k + 1 : Nat) : Int)) rfl rfl rfl (by rw [w64 (by omega) (by omega)]; omega)) (s_1 rfl (s_nil ?_))))))))))
   replace H : Hd w0 F0 w [osl kHdr q (hdr1 (pickU R.g hv set (k + 1)))] [blk r (redC (.slice A J2.us.length c) vM2 vC2 (.slice A6 J2.red.length c7) vK2 J2 cw ct co part ep R.g hv sb vs) 185, prsS (R.g) hv, rsl (kInt .i64) (.slice A1 set.length c2) set, rsl kIns (.slice A6 J2.red.length c7) J2.red, gl] := by rw [pickU_succ, if_neg (fun h => by first | exact h12 h.2 | (rw [h12] at h; cases h.1)), List.append_nil]; exact H
   exact q_round (s := (k, undef)) (k + 1, q) ⟨rfl, rfl, rfl, rfl, rfl, rfl, rfl, trivial⟩ ⟨H, by (try dsimp only); omega⟩ (by (try dsimp only); omega)
 ·refine c_exit (q_thenE (q_thenE (q_blockE (q_then (c_seq (c_ord (.e 0 (.e 1 (.e 2 (.e 3 (.e 4 (.e 5 (.e 6 (.e 7 (.e 8 (.e 9 (.e 10 (.e 11 (.e 12 (.m 13 (.e 14 (.e 15 (.e 16 (.e 17 .z)))))))))))))))))) (fun w => ∃ Ar, Hd w0 F0 w (Ar) [blk r (redC (.slice A J2.us.length c) vM2 vC2 (.slice A6 J2.red.length c7) vK2 J2 cw ct co part ep R.g hv sb vs) 185, prsS (R.g) hv, rsl (kInt .i64) (.slice A1 set.length c2) set, rsl kIns (.slice A6 J2.red.length c7) J2.red, gl]) mo (by kernel_rfl) (fun w H => ⟨_, H⟩) H (fun w H => (d_1 rfl (d_val rfl rfl rfl (fun w ⟨Ar, H⟩ => r_nilP rfl rfl) (d_val rfl rfl rfl (fun w ⟨Ar, H⟩ => r_fa rfl fo185_0 rfl) (d_val rfl rfl rfl (fun w ⟨Ar, H⟩ => r_fa rfl fo28_0 rfl) (d_val rfl rfl rfl (fun w ⟨Ar, H⟩ => r_fa rfl fo26_4 rfl) (d_val rfl rfl rfl (fun w ⟨Ar, H⟩ => r_ld rfl ty23 rfl (H.cellRI 0 rfl rfl)) (d_1 rfl (d_val rfl rfl rfl (fun w ⟨Ar, H⟩ => r_nilP rfl rfl) ?_)))))))))))))))
  refine d_val rfl rfl rfl (fun w ⟨Ar, H⟩ => r_fa rfl fo185_0 rfl) (d_val rfl rfl rfl (fun w ⟨Ar, H⟩ => r_fa rfl fo28_0 rfl) (d_val rfl rfl rfl (fun w ⟨Ar, H⟩ => r_fa rfl fo26_7 rfl) (d_val rfl rfl rfl (fun w ⟨Ar, H⟩ => r_ld rfl ty3 rfl (H.cellRI 0 rfl rfl)) (d_1 rfl (d_main rfl ?_)))))
  have hkk : k = J2.us.length := by omega
  replace H : Hd w0 F0 w [osl kHdr q (hdr1 (pickU R.g hv set J2.us.length))] [blk r (redC (.slice A J2.us.length c) vM2 vC2 (.slice A6 J2.red.length c7) vK2 J2 cw ct co part ep R.g hv sb vs) 185, prsS (R.g) hv, rsl (kInt .i64) (.slice A1 set.length c2) set, rsl kIns (.slice A6 J2.red.length c7) J2.red, gl] := by rw [hkk] at H; exact H
  have hrb := runs_bound (set := set) hbp J2.us.length
  have hfl : (flat2 (pickU R.g hv set J2.us.length)).length ≤ 1000000 := by rw [pickU_flat]; omega
  refine sc (snapOf_ok (.slice A6 J2.red.length c7) J2.red J2.fuel q (pickU R.g hv set J2.us.length) hred hf64 hfl) H (lX (fun F hA hR => hR _ (List.mem_of_getElem? (i := 3) rfl)) (lX (fun F hA hR => hd_of_hdr (own_rd F (hA _ (List.mem_of_getElem? (i := 0) rfl))) (pickU_rd hus6 (hR _ (List.mem_of_getElem? (i := 1) rfl)))) (lR 4 rfl l0))) rfl rfl (e_fn kn180 rfl rfl) ?_
  rintro _ _ w ⟨u19, rfl, rfl⟩ H
  rw [pickU_flat] at H ⊢
  replace H : Hd _ _ _ [osl kPair u19 ((eachM dg J2.red (srt (runsOf J2.us.length R set)) J2.fuel false).1), osl kHdr q (hdr1 (pickU R.g hv set J2.us.length))] [blk r (redC (.slice A J2.us.length c) vM2 vC2 (.slice A6 J2.red.length c7) vK2 J2 cw ct co part ep R.g hv sb vs) 185, prsS (R.g) hv, rsl (kInt .i64) (.slice A1 set.length c2) set, rsl kIns (.slice A6 J2.red.length c7) J2.red, gl] := H
  refine d_back ⟨_, H⟩ (d_1 rfl (d_1 rfl (d_1 rfl (d_1 rfl (d_nil (q_then (c_ret (q_ret2 rfl rfl rfl ?_))))))))
  replace H := H.k1
  exact fin ⟨u19, rfl, rfl⟩ H
set_option maxHeartbeats 4000000 in
theorem output_ok (r : Nat) (A : Option Addr) (c : Nat) (vM2 : Value) (vC2 : Value) (vR2 : Value) (vK2 : Value) (J2 : Job) (cw : Int) (ct : Int) (co : Int) (part : Int) (ep : Int) (R : Red) (hv : Nat → Value) (sb : Nat) (vs : Value) (hred : ∀ i ∈ J2.red, In64 i.a) (hf64 : In64 J2.fuel) (hus6 : J2.us.length ≤ 6) (hbp : ∀ i, (R.g i).pairs.length ≤ 1000) :
    Cn Tryz.prog 60 [.pointer (some ⟨r, 0, none⟩)] [] [blk r (redC (.slice A J2.us.length c) vM2 vC2 vR2 vK2 J2 cw ct co part ep R.g hv sb vs) 185, prsS (R.g) hv, rsl kIns vR2 J2.red, gl] (fun v Bs => ∃ u : Value, v = .tuple #[u, .int .i64 ((outR dg J2 R).2.1), .bool ((outR dg J2 R).2.2)] ∧ Bs = [osl kPair u ((outR dg J2 R).1)]) := by
 intro w0 F0 H
 obtain ⟨A1, c2, rfl, hc3, hm4, hp5⟩ := H.fR 2 rfl
 refine enter (args := [.pointer (some ⟨r, 0, none⟩)]) Tryz.func60 rfl rfl (Nat.le_of_ble_eq_true rfl) (c_seq (c_reg (s_k 3 rfl (s_nil (q_then ?_)))))
 replace H : Hd _ _ _ [] [blk r (redC (.slice A J2.us.length c) vM2 vC2 (.slice A1 J2.red.length c2) vK2 J2 cw ct co part ep R.g hv sb vs) 185, prsS (R.g) hv, rsl kIns (.slice A1 J2.red.length c2) J2.red, gl] := H
 refine c_seq (c_reg (s_1 rfl (sc (merged_ok r A c vM2 vC2 (.slice A1 J2.red.length c2) vK2 J2 cw ct co part ep R hv sb vs (by first | assumption | omega)) H (lR 0 rfl l0) rfl rfl (e_fn kn51 rfl rfl) ?_)))
 rintro v6 _ w rfl H
 refine s_1 rfl (s_nil (q_then ?_))
 replace H := H.h1 (A := osl (kInt .i64) v6 (mergedL J2.us.length R))
 refine c_seq (c_seq (c_reg (s_1 rfl (s_val rfl rfl (r_peq rfl un75 rfl rfl) (s_k 2 rfl ?_)))))
 obtain ⟨A7, c8, rfl, hc9, hm10, hp11⟩ := H.fA 0 rfl
 refine s_val rfl rfl (r_lenL rfl un24 rfl) (s_1 rfl (s_val rfl rfl (r_nilP rfl rfl) (s_val rfl rfl (r_fa rfl fo185_0 rfl) (s_val rfl rfl (r_fa rfl fo28_0 rfl) (s_val rfl rfl (r_fa rfl fo26_0 rfl) (s_val rfl rfl (r_ld rfl ty22 rfl (H.cellRI 0 rfl rfl)) (s_val rfl rfl (r_lenL rfl un22 rfl) (s_val rfl rfl (r_lt rfl rfl rfl) (s_1 rfl (s_nil (q_then ?_)))))))))))
 replace H := H.h1 (A := osl (kInt .i64) (.slice A7 ((mergedL J2.us.length R).length) c8) (mergedL J2.us.length R))
 refine c_dec (p := (((mergedL J2.us.length R).length : Nat) : Int) < ((J2.us.length : Nat) : Int)) rfl (fun h12 => ?_) (fun h12 => ?_)
 ·refine c_seq (c_reg (s_k 3 rfl (s_nil (q_then (c_ret (q_thenR (q_ret3 rfl rfl rfl rfl ?_)))))))
  have e : outR dg J2 R = ([], 0, false) := if_pos (by omega)
  replace H := H.newnil kPair
  replace H := H.k1
  replace H : Hd _ _ _ [osl kPair (.slice none 0 0) []] [blk r (redC (.slice A J2.us.length c) vM2 vC2 (.slice A1 J2.red.length c2) vK2 J2 cw ct co part ep R.g hv sb vs) 185, prsS (R.g) hv, rsl kIns (.slice A1 J2.red.length c2) J2.red, gl] := H
  exact fin ⟨(.slice none 0 0), by rw [e] <;> rfl, by rw [e] <;> rfl⟩ H
 ·refine c_skip (q_then (c_seq (c_reg (s_k 2 rfl (sc (of_ok r A c vM2 vC2 (.slice A1 J2.red.length c2) vK2 J2 cw ct co part ep R hv sb vs (.slice A7 ((mergedL J2.us.length R).length) c8) (mergedL J2.us.length R) (by first | assumption | omega) (by first | assumption | omega) (by first | assumption | omega) (by first | assumption | omega)) H (lR 0 rfl (lR 1 rfl (lA 0 rfl own_rd (lR 2 rfl (lR 3 rfl l0))))) rfl rfl (e_fn kn131 rfl rfl) ?_)))))
  rintro _ _ w ⟨u13, rfl, rfl⟩ H
  refine s_k 5 rfl (s_nil (q_then ?_))
  replace H := H.h1 (A := osl kPair u13 ((eachM dg J2.red (srt (runsOf J2.us.length R (mergedL J2.us.length R))) J2.fuel false).1))
  refine c_seq (c_reg (s_k 5 rfl (s_nil (q_then (c_ret (q_ret3 rfl rfl rfl rfl ?_))))))
  have e : outR dg J2 R = ((eachM dg J2.red (srt (runsOf J2.us.length R (mergedL J2.us.length R))) J2.fuel false).1, (eachM dg J2.red (srt (runsOf J2.us.length R (mergedL J2.us.length R))) J2.fuel false).2, true) := if_neg (by omega)
  replace H := H.k1
  exact fin ⟨u13, by rw [e] <;> rfl, by rw [e] <;> rfl⟩ H
end Go.Proofs.YthgehekecfpikaaGreatDoor.X

set_option linter.unusedVariables false
set_option linter.unusedSimpArgs false
namespace Go.Proofs.YthgehekecfpikaaGreatDoor.X
open Go
set_option maxHeartbeats 4000000 in
theorem redNew_ok (vS : Value) (vM : Value) (vC : Value) (vR : Value) (vK : Value) (C : Cf) (p : Int) (ep : Int) (vr : Value) (recs : List Rec) (hC : mayC C) (hp : In64 p) (he : In64 ep) (hgo : homeC C p ≠ 0 ∧ 1 ≤ ep) (hrs : ∀ r ∈ recs, (In64 r.sp ∧ r.set.length ≤ 1000) ∧ r.pairs.length ≤ 1000) (hrl : recs.length ≤ 100000) :
    Cn Tryz.prog 56 [.agg #[vS, .int .i64 C.J.parts, vM, vC, vR, .int .i64 C.J.chunk, .int .i64 C.J.window, .int .i64 C.J.fuel, vK, .int .i64 C.w, .int .i64 C.t, .int .i64 C.o], .int .i64 p, .int .i64 ep, vr] [] [rsl (kHd kPair) vS C.J.us, rsl kIns vM C.J.map, rsl kIns vC C.J.comb, rsl kIns vR C.J.red, rsl (kInt .i64) vK C.J.marks, rsl kRec vr recs] (fun v Bs => ∃ r : Nat, ∃ vS2 : Value, ∃ vM2 : Value, ∃ vC2 : Value, ∃ vR2 : Value, ∃ vK2 : Value, ∃ J2 : Job, ∃ hv : Nat → Value, ∃ sb : Nat, ∃ vs : Value, ∃ us : List (Value × List Int), v = .tuple #[.pointer (some ⟨r, 0, none⟩), .int .i64 0] ∧ Bs = [blk r (redC vS2 vM2 vC2 vR2 vK2 J2 C.w C.t C.o p ep ((newR J2.us.length p ep (recs.map Rec.p)).g) hv sb vs) 185, osl (kHd kPair) vS2 J2.us, osl kIns vM2 J2.map, osl kIns vC2 J2.comb, osl kIns vR2 J2.red, osl (kInt .i64) vK2 J2.marks, prsS ((newR J2.us.length p ep (recs.map Rec.p)).g) hv, osl (kHd (kInt .i64)) vs us, stgI 253 sb []] ∧ (SameJ J2 C.J) ∧ (us.map (·.2) = (newR J2.us.length p ep (recs.map Rec.p)).sets)) := by
 intro w0 F0 H
 obtain ⟨A1, c2, rfl, hc3, hm4, hp5⟩ := H.fR 0 rfl
 obtain ⟨A6, c7, rfl, hc8, hm9, hp10⟩ := H.fR 1 rfl
 obtain ⟨A11, c12, rfl, hc13, hm14, hp15⟩ := H.fR 2 rfl
 obtain ⟨A16, c17, rfl, hc18, hm19, hp20⟩ := H.fR 3 rfl
 obtain ⟨A21, c22, rfl, hc23, hm24, hp25⟩ := H.fR 4 rfl
 obtain ⟨A26, c27, rfl, hc28, hm29, hp30⟩ := H.fR 5 rfl
 refine enter (args := [.agg #[.slice A1 C.J.us.length c2, .int .i64 C.J.parts, .slice A6 C.J.map.length c7, .slice A11 C.J.comb.length c12, .slice A16 C.J.red.length c17, .int .i64 C.J.chunk, .int .i64 C.J.window, .int .i64 C.J.fuel, .slice A21 C.J.marks.length c22, .int .i64 C.w, .int .i64 C.t, .int .i64 C.o], .int .i64 p, .int .i64 ep, .slice A26 recs.length c27]) Tryz.func56 rfl rfl (Nat.le_of_ble_eq_true rfl) (c_seq (c_reg (s_box rfl rfl rfl rfl H (fun b31 w H => (s_k 2 rfl (s_nil (q_then ?_)))))))
 replace H : Hd _ _ _ [blk b31 [.slice A1 C.J.us.length c2, .int .i64 C.J.parts, .slice A6 C.J.map.length c7, .slice A11 C.J.comb.length c12, .slice A16 C.J.red.length c17, .int .i64 C.J.chunk, .int .i64 C.J.window, .int .i64 C.J.fuel, .slice A21 C.J.marks.length c22, .int .i64 C.w, .int .i64 C.t, .int .i64 C.o] 28] [rsl (kHd kPair) (.slice A1 C.J.us.length c2) C.J.us, rsl kIns (.slice A6 C.J.map.length c7) C.J.map, rsl kIns (.slice A11 C.J.comb.length c12) C.J.comb, rsl kIns (.slice A16 C.J.red.length c17) C.J.red, rsl (kInt .i64) (.slice A21 C.J.marks.length c22) C.J.marks, rsl kRec (.slice A26 recs.length c27) recs] := H
 refine c_seq (c_seq (c_reg (s_val rfl rfl (r_ldA (cs := [.slice A1 C.J.us.length c2, .int .i64 C.J.parts, .slice A6 C.J.map.length c7, .slice A11 C.J.comb.length c12, .slice A16 C.J.red.length c17, .int .i64 C.J.chunk, .int .i64 C.J.window, .int .i64 C.J.fuel, .slice A21 C.J.marks.length c22, .int .i64 C.w, .int .i64 C.t, .int .i64 C.o]) rfl ty28 rfl rfl (H.cellsI 0 rfl rfl)) (s_1 rfl (sc (home_ok (.slice A1 C.J.us.length c2) (.slice A6 C.J.map.length c7) (.slice A11 C.J.comb.length c12) (.slice A16 C.J.red.length c17) (.slice A21 C.J.marks.length c22) C p (by first | assumption | omega)) H (lR 0 rfl (lR 1 rfl (lR 2 rfl (lR 3 rfl (lR 4 rfl l0))))) rfl rfl (e_fn kn71 rfl rfl) ?_)))))
 rintro _ _ w ⟨rfl, rfl⟩ H
 refine s_val rfl rfl (r_eq rfl rfl rfl) (s_1 rfl ?_)
 refine s_dec (d := 18) (p := (homeC C p) = 0) rfl (fun h32 => ?_) (fun h32 => ?_)
 ·exact (hgo.1 h32).elim
 ·refine s_1 rfl (s_val rfl rfl (r_lt rfl rfl rfl) (s_1 rfl (s_nil (q_then ?_))))
  refine c_dec (p := ep < 1) rfl (fun h33 => ?_) (fun h33 => ?_)
  ·exfalso; omega
  ·refine c_skip (q_then (c_seq (c_reg (s_val rfl rfl (r_ldA (cs := [.slice A1 C.J.us.length c2, .int .i64 C.J.parts, .slice A6 C.J.map.length c7, .slice A11 C.J.comb.length c12, .slice A16 C.J.red.length c17, .int .i64 C.J.chunk, .int .i64 C.J.window, .int .i64 C.J.fuel, .slice A21 C.J.marks.length c22, .int .i64 C.w, .int .i64 C.t, .int .i64 C.o]) rfl ty28 rfl rfl (H.cellsI 0 rfl rfl)) (sc (own_ok (.slice A1 C.J.us.length c2) (.slice A6 C.J.map.length c7) (.slice A11 C.J.comb.length c12) (.slice A16 C.J.red.length c17) (.slice A21 C.J.marks.length c22) C (by first | assumption | omega)) H (lR 0 rfl (lR 1 rfl (lR 2 rfl (lR 3 rfl (lR 4 rfl l0))))) rfl rfl (e_fn kn94 rfl rfl) ?_)))))
   rintro _ _ w ⟨J34, vS35, vM36, vC37, vR38, vK39, rfl, rfl, hf40⟩ H
   have hsj := hf40
   refine s_k 2 rfl ?_
   replace H := H.h5 (A := osl (kHd kPair) vS35 J34.us) (B := osl kIns vM36 J34.map) (C := osl kIns vC37 J34.comb) (D := osl kIns vR38 J34.red) (E := osl (kInt .i64) vK39 J34.marks)
   refine sc (stNew_ok) H l0 rfl rfl (e_fn kn128 rfl rfl) ?_
   rintro _ _ w ⟨b41, rfl, rfl⟩ H
   refine s_val rfl rfl (r_bd (parts := [(0, .tmp 23), (1, .tmp 24), (2, .tmp 25), (4, .tmp 26)]) (vs := [.agg #[vS35, .int .i64 J34.parts, vM36, vC37, vR38, .int .i64 J34.chunk, .int .i64 J34.window, .int .i64 J34.fuel, vK39, .int .i64 C.w, .int .i64 C.t, .int .i64 C.o], .int .i64 p, .int .i64 ep, .pointer (some ⟨b41, 0, none⟩)]) (cs := [vS35, .int .i64 J34.parts, vM36, vC37, vR38, .int .i64 J34.chunk, .int .i64 J34.window, .int .i64 J34.fuel, vK39, .int .i64 C.w, .int .i64 C.t, .int .i64 C.o, .int .i64 p, .int .i64 ep, .bool false, .slice none 0 0, .bool false, .int .i64 0, .int .i64 0, .bool false, .slice none 0 0, .bool false, .int .i64 0, .int .i64 0, .bool false, .slice none 0 0, .bool false, .int .i64 0, .int .i64 0, .bool false, .slice none 0 0, .bool false, .int .i64 0, .int .i64 0, .bool false, .slice none 0 0, .bool false, .int .i64 0, .int .i64 0, .bool false, .slice none 0 0, .bool false, .int .i64 0, .int .i64 0, .pointer (some ⟨b41, 0, none⟩), .slice none 0 0]) rfl bd185 rfl rfl) ?_
   refine s_box rfl rfl rfl rfl H (fun b42 w H => (s_1 rfl (s_nil (q_then ?_))))
   replace H := H.h2 (A := blk b42 [vS35, .int .i64 J34.parts, vM36, vC37, vR38, .int .i64 J34.chunk, .int .i64 J34.window, .int .i64 J34.fuel, vK39, .int .i64 C.w, .int .i64 C.t, .int .i64 C.o, .int .i64 p, .int .i64 ep, .bool false, .slice none 0 0, .bool false, .int .i64 0, .int .i64 0, .bool false, .slice none 0 0, .bool false, .int .i64 0, .int .i64 0, .bool false, .slice none 0 0, .bool false, .int .i64 0, .int .i64 0, .bool false, .slice none 0 0, .bool false, .int .i64 0, .int .i64 0, .bool false, .slice none 0 0, .bool false, .int .i64 0, .int .i64 0, .bool false, .slice none 0 0, .bool false, .int .i64 0, .int .i64 0, .pointer (some ⟨b41, 0, none⟩), .slice none 0 0] 185) (B := stgI 253 b41 [])
   refine c_seq (c_seq ?_)
   obtain ⟨A43, c44, rfl, hc45, hm46, hp47⟩ := H.fA 2 rfl
   have hlen : J34.us.length ≤ 6 := by have := hC.1.1; have := hsj.len; omega
   replace H := (H.newnil (kHd (kInt .i64))).prsN
   replace H := H.p3
   replace H := H.p2
   replace H := H.p2
   replace H := H.p8
   replace H := H.p8
   replace H := H.p8
   replace H := H.p8
   replace H := H.p8
   replace H := H.p8
   replace H := H.k9
   replace H : Hd _ _ _ [blk b42 (redC (.slice A43 J34.us.length c44) vM36 vC37 vR38 vK39 J34 C.w C.t C.o p ep ((red0 p ep).g) (fun _ => .slice none 0 0) b41 (.slice none 0 0)) 185, osl (kHd kPair) (.slice A43 J34.us.length c44) J34.us, osl kIns vM36 J34.map, osl kIns vC37 J34.comb, osl kIns vR38 J34.red, osl (kInt .i64) vK39 J34.marks, prsS ((red0 p ep).g) (fun _ => .slice none 0 0), osl (kHd (kInt .i64)) (.slice none 0 0) [], stgI 253 b41 []] [rsl (kHd kPair) (.slice A1 C.J.us.length c2) C.J.us, rsl kIns (.slice A6 C.J.map.length c7) C.J.map, rsl kIns (.slice A11 C.J.comb.length c12) C.J.comb, rsl kIns (.slice A16 C.J.red.length c17) C.J.red, rsl (kInt .i64) (.slice A21 C.J.marks.length c22) C.J.marks, rsl kRec (.slice A26 recs.length c27) recs] := H
   refine c_reg (s_1 rfl (s_val rfl rfl (r_lenL rfl un29 rfl) (s_1 rfl (s_nil (q_then (c_block ?_))))))
   replace H := H.p8
   replace H := H.p8
   replace H := H.p8
   replace H := H.p8
   replace H := H.p8
   replace H := H.p8
   replace H := H.p8
   replace H := H.p8
   replace H := H.p8
   replace H := H.p8
   replace H := H.p8
   replace H := H.p8
   replace H := H.p8
   replace H := H.p8
   replace H := H.p8
   replace H := H.p8
   replace H := H.p8
   replace H := H.p8
   refine c_loop (σ := Nat × Red × (Nat → Value) × Value × List (Value × List Int)) (fun (k, R, hv, vs, us) => [(1, .int .i64 p), (8, .pointer none), (9, .int .i64 0), (10, .pointer (some ⟨b42, 0, none⟩)), (29, .slice A26 recs.length c27), (30, .int .i64 ((recs.length : Nat) : Int)), (31, .int .i64 ((k : Nat) : Int))]) (fun (k, R, hv, vs, us) w => (Hd w0 F0 w [blk b42 (redC (.slice A43 J34.us.length c44) vM36 vC37 vR38 vK39 J34 C.w C.t C.o p ep R.g hv b41 vs) 185, osl (kHd kPair) (.slice A43 J34.us.length c44) J34.us, osl kIns vM36 J34.map, osl kIns vC37 J34.comb, osl kIns vR38 J34.red, osl (kInt .i64) vK39 J34.marks, prsS (R.g) hv, osl (kHd (kInt .i64)) vs us, stgI 253 b41 []] [rsl (kHd kPair) (.slice A1 C.J.us.length c2) C.J.us, rsl kIns (.slice A6 C.J.map.length c7) C.J.map, rsl kIns (.slice A11 C.J.comb.length c12) C.J.comb, rsl kIns (.slice A16 C.J.red.length c17) C.J.red, rsl (kInt .i64) (.slice A21 C.J.marks.length c22) C.J.marks, rsl kRec (.slice A26 recs.length c27) recs]) ∧ (R = newR J34.us.length p ep ((recs.take k).map Rec.p)) ∧ (R.part = p) ∧ (us.map (·.2) = R.sets) ∧ (k ≤ recs.length) ∧ (us.length ≤ k)) (fun (k, R, hv, vs, us) => recs.length - k) (0, red0 p ep, (fun _ => .slice none 0 0), .slice none 0 0, []) ⟨rfl, rfl, rfl, rfl, rfl, rfl, rfl, trivial⟩ ⟨H, rfl, rfl, rfl, Nat.zero_le _, Nat.le_refl _⟩ ?_
   rintro ⟨k, R, hv, vs, us⟩ w ⟨H, hR, hRp, hus, hk, hul⟩
   refine c_seq (c_reg (s_val rfl rfl (r_lt rfl rfl rfl) (s_nil (q_then (c_seq ?_)))))
   refine c_dec (p := ((k : Nat) : Int) < ((recs.length : Nat) : Int)) rfl (fun h48 => ?_) (fun h48 => ?_)
   ·refine c_skip (q_then (c_seq (c_block (c_seq ?_))))
    obtain ⟨⟨a51, a52, a53, a54, a55, sv56, se57, pv58, pr59⟩, hx50⟩ : ∃ z9, recs[k]? = some z9 := ⟨_, List.getElem?_eq_getElem (show k < recs.length by omega)⟩
    obtain ⟨A60, c61, A62, c63, rfl, rfl, m64, m65, m66, m67⟩ := H.nestRr 5 rfl hx50
    have hr1 := hrs _ (at_mem hx50)
    unfold In64 at hr1
    dsimp only at hr1
    refine c_reg ?_
    have th68 := H.thRr 5 rfl hx50
    refine s_val rfl rfl (r_iaE (p := oOf A26 + k * 7) rfl sl29 rfl rfl (by omega) (by omega) th68 rfl) (s_val rfl rfl (r_ldA (cs := [.int .i64 a51, .int .i64 a52, .int .i64 a53, .int .i64 a54, .int .i64 a55, .slice A60 se57.length c61, .slice A62 pr59.length c63]) rfl ty37 rfl rfl (H.elsRr 5 rfl hx50 rfl)) (s_alloc rfl rfl rfl zr37 H (fun b69 w H => (s_st rfl rfl rfl ty37 rfl rfl H rfl (Nat.le_of_ble_eq_true rfl) (fun u hu => by simp [Value.cells] at hu; rcases hu with rfl | rfl | rfl | rfl | rfl | rfl | rfl <;> rfl) (fun w H => ?_)))))
    replace H : Hd _ _ _ [blk b69 [.int .i64 a51, .int .i64 a52, .int .i64 a53, .int .i64 a54, .int .i64 a55, .slice A60 se57.length c61, .slice A62 pr59.length c63] 37, blk b42 (redC (.slice A43 J34.us.length c44) vM36 vC37 vR38 vK39 J34 C.w C.t C.o p ep R.g hv b41 vs) 185, osl (kHd kPair) (.slice A43 J34.us.length c44) J34.us, osl kIns vM36 J34.map, osl kIns vC37 J34.comb, osl kIns vR38 J34.red, osl (kInt .i64) vK39 J34.marks, prsS (R.g) hv, osl (kHd (kInt .i64)) vs us, stgI 253 b41 []] [rsl (kHd kPair) (.slice A1 C.J.us.length c2) C.J.us, rsl kIns (.slice A6 C.J.map.length c7) C.J.map, rsl kIns (.slice A11 C.J.comb.length c12) C.J.comb, rsl kIns (.slice A16 C.J.red.length c17) C.J.red, rsl (kInt .i64) (.slice A21 C.J.marks.length c22) C.J.marks, rsl kRec (.slice A26 recs.length c27) recs] := H
    refine s_nil (q_then (c_seq (c_seq (c_reg (s_val rfl rfl (r_fa rfl fo37_1 rfl) (s_val rfl rfl (r_ld rfl ty3 rfl (H.cellI 0 rfl rfl)) (s_1 rfl (s_val rfl rfl (r_ne rfl rfl rfl) (s_nil (q_then ?_))))))))))
    refine c_dec (p := a52 ≠ p) rfl (fun h70 => ?_) (fun h70 => ?_)
    ·refine c_exit (q_thenE (q_blockE (q_then (c_reg (s_val rfl rfl (r_add (z := ((k + 1 : Nat) : Int)) rfl rfl rfl (by rw [w64 (by omega) (by omega)]; omega)) (s_1 rfl (s_nil ?_)))))))
     have hpart : (Rec.p (⟨a51, a52, a53, a54, a55, .slice A60 se57.length c61, se57, .slice A62 pr59.length c63, pr59⟩ : Rec)).part ≠ R.part := by rw [hRp]; exact h70
     have hR2 := newR_take hR hx50 (recIn_skip hpart)
     replace H := H.p9
     replace H := H.p9
     replace H := H.p9
     replace H := H.p9
     replace H := H.p9
     replace H := H.p9
     replace H := H.p9
     replace H := H.p9
     replace H := H.p9
     replace H := H.k9
     replace H := H.p8
     replace H := H.p8
     replace H := H.p8
     replace H := H.p8
     replace H := H.p8
     replace H := H.p8
     replace H := H.p8
     replace H := H.p8
     replace H := H.p8
     exact q_round (s := (k, R, hv, undef, us)) (k + 1, R, hv, vs, us) ⟨rfl, rfl, rfl, rfl, rfl, rfl, rfl, trivial⟩ ⟨H, hR2, hRp, by (try dsimp only); exact hus, by (try dsimp only); omega, by (try dsimp only); omega⟩ (by (try dsimp only); omega)
    ·refine c_skip (q_then (c_seq (c_seq ?_)))
     by_cases hin71 : 0 ≤ a53 ∧ a53 < ((J34.us.length : Nat) : Int)
     ·refine c_reg (s_1 rfl (s_val rfl rfl (r_fa rfl fo37_2 rfl) (s_val rfl rfl (r_ld rfl ty3 rfl (H.cellI 0 rfl rfl)) (sc (at_ok b42 A43 J34.us.length c44 vM36 vC37 vR38 vK39 J34 C.w C.t C.o p ep R.g hv b41 vs a53 (by first | assumption | omega) (by first | assumption | omega)) H (lA 1 rfl (fun _ h => h) l0) rfl rfl (e_fn kn118 rfl rfl) ?_))))
      rintro _ _ w ⟨rfl, rfl⟩ H
      refine s_1 rfl (s_nil (q_then (c_seq (c_reg (s_val rfl rfl (r_fa rfl fo37_0 rfl) (s_val rfl rfl (r_ld rfl ty3 rfl (H.cellI 0 rfl rfl)) (s_val rfl rfl (r_eq rfl rfl rfl) (s_1 rfl ?_))))))))
      refine s_dec (d := 46) (p := a51 = 4) rfl (fun h72 => ?_) (fun h72 => ?_)
      ·refine s_1 rfl (s_val rfl rfl (r_pne rfl un178 rfl rfl) (s_k 3 rfl (s_val rfl rfl (r_nilP rfl rfl) (s_val rfl rfl (r_fa rfl fo181_0 rfl) (s_val rfl rfl (r_ld rfl ty4 rfl (H.cellI 1 rfl (redC_at0 (by omega)))) (s_val rfl rfl (r_not rfl rfl rfl) (s_1 rfl (s_nil (q_then ?_)))))))))
       refine c_cond (b := !((R.g ((a53).toNat)).merged)) rfl (fun h73 => ?_) (fun h73 => ?_)
       ·refine c_reg (s_k 2 rfl (s_val rfl rfl (r_fa rfl fo37_6 rfl) (s_val rfl rfl (r_ld rfl ty35 rfl (H.cellI 0 rfl rfl)) (sc (clone_ok (.slice A62 pr59.length c63) pr59 (by first | assumption | omega)) H (lX (fun F hA hR => rec_pairs (hR _ (List.mem_of_getElem? (i := 5) rfl)) hx50) l0) rfl rfl (e_fn kn123 rfl rfl) ?_))))
        rintro v74 _ w rfl H
        refine s_val rfl rfl (r_nilP rfl rfl) (s_val rfl rfl (r_fa rfl fo181_0 rfl) ?_)
        replace H := H.p2
        refine s_st rfl rfl rfl ty4 rfl rfl H rfl (by show 14 + ((a53).toNat) * 5 + 0 + 1 ≤ 46; omega) (fun u hu => by simp [Value.cells] at hu; subst hu; rfl) (fun w H => ?_)
        replace H : Hd w0 F0 w [blk b42 (redC (.slice A43 J34.us.length c44) vM36 vC37 vR38 vK39 J34 C.w C.t C.o p ep (setD R.g ((a53).toNat) { R.g ((a53).toNat) with merged := true }) hv b41 vs) 185, osl kPair v74 pr59, blk b69 [.int .i64 a51, .int .i64 a52, .int .i64 a53, .int .i64 a54, .int .i64 a55, .slice A60 se57.length c61, .slice A62 pr59.length c63] 37, osl (kHd kPair) (.slice A43 J34.us.length c44) J34.us, osl kIns vM36 J34.map, osl kIns vC37 J34.comb, osl kIns vR38 J34.red, osl (kInt .i64) vK39 J34.marks, prsS (R.g) hv, osl (kHd (kInt .i64)) vs us, stgI 253 b41 []] [rsl (kHd kPair) (.slice A1 C.J.us.length c2) C.J.us, rsl kIns (.slice A6 C.J.map.length c7) C.J.map, rsl kIns (.slice A11 C.J.comb.length c12) C.J.comb, rsl kIns (.slice A16 C.J.red.length c17) C.J.red, rsl (kInt .i64) (.slice A21 C.J.marks.length c22) C.J.marks, rsl kRec (.slice A26 recs.length c27) recs] := by rw [← redC_put0 (show (a53).toNat < 6 by omega) true]; exact H
        refine s_val rfl rfl (r_nilP rfl rfl) (s_val rfl rfl (r_fa rfl fo181_1 rfl) ?_)
        obtain ⟨A75, c76, rfl, hc77, hm78, hp79⟩ := H.fA 1 rfl
        refine s_st rfl rfl rfl ty35 rfl rfl H rfl (by show 14 + ((a53).toNat) * 5 + 1 + 1 ≤ 46; omega) (fun u hu => by simp [Value.cells] at hu; subst hu; rfl) (fun w H => ?_)
        replace H : Hd w0 F0 w [blk b42 (redC (.slice A43 J34.us.length c44) vM36 vC37 vR38 vK39 J34 C.w C.t C.o p ep (setD R.g ((a53).toNat) { R.g ((a53).toNat) with merged := true }) (setD hv ((a53).toNat) (.slice A75 pr59.length c76 : Value)) b41 vs) 185, osl kPair (.slice A75 pr59.length c76) pr59, blk b69 [.int .i64 a51, .int .i64 a52, .int .i64 a53, .int .i64 a54, .int .i64 a55, .slice A60 se57.length c61, .slice A62 pr59.length c63] 37, osl (kHd kPair) (.slice A43 J34.us.length c44) J34.us, osl kIns vM36 J34.map, osl kIns vC37 J34.comb, osl kIns vR38 J34.red, osl (kInt .i64) vK39 J34.marks, prsS (R.g) hv, osl (kHd (kInt .i64)) vs us, stgI 253 b41 []] [rsl (kHd kPair) (.slice A1 C.J.us.length c2) C.J.us, rsl kIns (.slice A6 C.J.map.length c7) C.J.map, rsl kIns (.slice A11 C.J.comb.length c12) C.J.comb, rsl kIns (.slice A16 C.J.red.length c17) C.J.red, rsl (kInt .i64) (.slice A21 C.J.marks.length c22) C.J.marks, rsl kRec (.slice A26 recs.length c27) recs] := by rw [← redC_put1 (show (a53).toNat < 6 by omega) (.slice A75 pr59.length c76 : Value)]; exact H
        refine s_nil (q_then (c_seq (c_reg (s_val rfl rfl (r_fa rfl fo37_0 rfl) (s_val rfl rfl (r_ld rfl ty3 rfl (H.cellI 2 rfl rfl)) (s_val rfl rfl (r_eq rfl rfl rfl) (s_nil (q_then ?_))))))))
        refine c_dec (p := a51 = 5) rfl (fun h80 => ?_) (fun h80 => ?_)
        ·exfalso; omega
        ·refine c_skip (q_blockN (q_then (c_reg (s_val rfl rfl (r_add (z := ((k + 1 : Nat) : Int)) rfl rfl rfl (by rw [w64 (by omega) (by omega)]; omega)) (s_1 rfl (s_nil ?_))))))
         have hpart : (Rec.p (⟨a51, a52, a53, a54, a55, .slice A60 se57.length c61, se57, .slice A62 pr59.length c63, pr59⟩ : Rec)).part = R.part := by rw [hRp]; exact Classical.not_not.1 h70
         replace H := H.pick 10 rfl
         replace H := H.pick 10 rfl
         replace H := H.p9
         replace H := H.p9
         replace H := H.p9
         replace H := H.p9
         replace H := H.p9
         replace H := H.p7
         replace H := H.pick 10 rfl
         replace H := H.p9
         replace H := H.k10
         replace H := H.prsU (i := (a53).toNat) (x := ({ R.g (a53).toNat with merged := true, pairs := pr59 } : SpD)) (by omega)
         replace H : Hd w0 F0 w [prsS (({ R with g := setD R.g (a53).toNat ({ R.g (a53).toNat with merged := true, pairs := pr59 } : SpD) } : Red).g) (setD hv (a53).toNat (.slice A75 pr59.length c76 : Value)), blk b42 (redC (.slice A43 J34.us.length c44) vM36 vC37 vR38 vK39 J34 C.w C.t C.o p ep (({ R with g := setD R.g (a53).toNat ({ R.g (a53).toNat with merged := true, pairs := pr59 } : SpD) } : Red).g) (setD hv (a53).toNat (.slice A75 pr59.length c76 : Value)) b41 vs) 185, osl (kHd kPair) (.slice A43 J34.us.length c44) J34.us, osl kIns vM36 J34.map, osl kIns vC37 J34.comb, osl kIns vR38 J34.red, osl (kInt .i64) vK39 J34.marks, osl (kHd (kInt .i64)) vs us, stgI 253 b41 []] [rsl (kHd kPair) (.slice A1 C.J.us.length c2) C.J.us, rsl kIns (.slice A6 C.J.map.length c7) C.J.map, rsl kIns (.slice A11 C.J.comb.length c12) C.J.comb, rsl kIns (.slice A16 C.J.red.length c17) C.J.red, rsl (kInt .i64) (.slice A21 C.J.marks.length c22) C.J.marks, rsl kRec (.slice A26 recs.length c27) recs] := by
           rw [← redC_congr (g := setD R.g (a53).toNat { R.g (a53).toNat with merged := true }) (g' := ({ R with g := setD R.g (a53).toNat ({ R.g (a53).toNat with merged := true, pairs := pr59 } : SpD) } : Red).g) (fun j => by dsimp only; by_cases e : j = (a53).toNat <;> first | (subst e; rw [setD_self, setD_self]; exact ⟨rfl, rfl, rfl, rfl⟩) | (rw [setD_ne _ _ e, setD_ne _ _ e]; exact ⟨rfl, rfl, rfl, rfl⟩))]
           exact H
         have hR2 := newR_take hR hx50 (recIn_m hpart h72 hin71 (by simpa [Rec.p] using h73))
         replace H := H.p8
         replace H := H.p8
         replace H := H.p2
         replace H := H.p8
         replace H := H.p8
         replace H := H.p8
         replace H := H.p8
         replace H := H.p8
         replace H := H.p8
         replace H : Hd _ _ _ [blk b42 (redC (.slice A43 J34.us.length c44) vM36 vC37 vR38 vK39 J34 C.w C.t C.o p ep (({ R with g := setD R.g (a53).toNat ({ R.g (a53).toNat with merged := true, pairs := pr59 } : SpD) } : Red).g) (setD hv (a53).toNat (.slice A75 pr59.length c76 : Value)) b41 vs) 185, osl (kHd kPair) (.slice A43 J34.us.length c44) J34.us, osl kIns vM36 J34.map, osl kIns vC37 J34.comb, osl kIns vR38 J34.red, osl (kInt .i64) vK39 J34.marks, prsS (({ R with g := setD R.g (a53).toNat ({ R.g (a53).toNat with merged := true, pairs := pr59 } : SpD) } : Red).g) (setD hv (a53).toNat (.slice A75 pr59.length c76 : Value)), osl (kHd (kInt .i64)) vs us, stgI 253 b41 []] [rsl (kHd kPair) (.slice A1 C.J.us.length c2) C.J.us, rsl kIns (.slice A6 C.J.map.length c7) C.J.map, rsl kIns (.slice A11 C.J.comb.length c12) C.J.comb, rsl kIns (.slice A16 C.J.red.length c17) C.J.red, rsl (kInt .i64) (.slice A21 C.J.marks.length c22) C.J.marks, rsl kRec (.slice A26 recs.length c27) recs] := H
         replace H := H.p8
         replace H := H.p8
         replace H := H.p8
         replace H := H.p8
         replace H := H.p8
         replace H := H.p8
         replace H := H.p8
         replace H := H.p8
         replace H := H.p8
         exact q_round (s := (k, R, hv, undef, us)) (k + 1, ({ R with g := setD R.g (a53).toNat ({ R.g (a53).toNat with merged := true, pairs := pr59 } : SpD) } : Red), setD hv (a53).toNat (.slice A75 pr59.length c76 : Value), vs, us) ⟨rfl, rfl, rfl, rfl, rfl, rfl, rfl, trivial⟩ ⟨H, hR2, hRp, by (try dsimp only); exact hus, by (try dsimp only); omega, by (try dsimp only); omega⟩ (by (try dsimp only); omega)
       ·refine c_skip (q_then (c_seq (c_reg (s_val rfl rfl (r_fa rfl fo37_0 rfl) (s_val rfl rfl (r_ld rfl ty3 rfl (H.cellI 0 rfl rfl)) (s_val rfl rfl (r_eq rfl rfl rfl) (s_nil (q_then ?_))))))))
        refine c_dec (p := a51 = 5) rfl (fun h81 => ?_) (fun h81 => ?_)
        ·exfalso; omega
        ·refine c_skip (q_blockN (q_then (c_reg (s_val rfl rfl (r_add (z := ((k + 1 : Nat) : Int)) rfl rfl rfl (by rw [w64 (by omega) (by omega)]; omega)) (s_1 rfl (s_nil ?_))))))
         have hpart : (Rec.p (⟨a51, a52, a53, a54, a55, .slice A60 se57.length c61, se57, .slice A62 pr59.length c63, pr59⟩ : Rec)).part = R.part := by rw [hRp]; exact Classical.not_not.1 h70
         have hR2 := newR_take hR hx50 (recIn_no hpart (fun h => by have h2 := h.2.2; have h3 := h73; dsimp only [Rec.p] at h2; rw [h2] at h3; exact absurd h3 (by decide)) h81)
         replace H := H.p9
         replace H := H.p9
         replace H := H.p9
         replace H := H.p9
         replace H := H.p9
         replace H := H.p9
         replace H := H.p9
         replace H := H.p9
         replace H := H.p9
         replace H := H.k9
         replace H := H.p8
         replace H := H.p8
         replace H := H.p8
         replace H := H.p8
         replace H := H.p8
         replace H := H.p8
         replace H := H.p8
         replace H := H.p8
         replace H := H.p8
         exact q_round (s := (k, R, hv, undef, us)) (k + 1, R, hv, vs, us) ⟨rfl, rfl, rfl, rfl, rfl, rfl, rfl, trivial⟩ ⟨H, hR2, hRp, by (try dsimp only); exact hus, by (try dsimp only); omega, by (try dsimp only); omega⟩ (by (try dsimp only); omega)
      ·refine s_k 10 rfl (s_nil (q_then (c_no rfl (c_skip (q_then (c_seq (c_reg (s_val rfl rfl (r_fa rfl fo37_0 rfl) (s_val rfl rfl (r_ld rfl ty3 rfl (H.cellI 0 rfl rfl)) (s_val rfl rfl (r_eq rfl rfl rfl) (s_nil (q_then ?_))))))))))))
       refine c_dec (p := a51 = 5) rfl (fun h82 => ?_) (fun h82 => ?_)
       ·replace H := H.p9
        replace H := H.p8
        replace H := H.p8
        replace H := H.p8
        replace H := H.p8
        replace H := H.p8
        replace H := H.p8
        replace H := H.p7
        refine c_ord (.e 0 (.e 1 (.e 2 (.e 3 (.e 5 (.e 6 (.b 4 7 (.m 7 (.m 8 (.m 9 (.e 10 (.e 11 (.m 12 .z)))))) (.b 4 8 (.m 8 (.m 9 (.e 10 (.e 11 (.m 12 .z))))) (.m 4 (.m 9 (.e 10 (.e 11 (.m 12 .z))))))))))))) (fun w => ∃ Ar, Hd w0 F0 w (blk b69 [.int .i64 a51, .int .i64 a52, .int .i64 a53, .int .i64 a54, .int .i64 a55, .slice A60 se57.length c61, .slice A62 pr59.length c63] 37 :: osl (kHd kPair) (.slice A43 J34.us.length c44) J34.us :: osl kIns vM36 J34.map :: osl kIns vC37 J34.comb :: osl kIns vR38 J34.red :: osl (kInt .i64) vK39 J34.marks :: prsS (R.g) hv :: stgI 253 b41 [] :: Ar) [rsl (kHd kPair) (.slice A1 C.J.us.length c2) C.J.us, rsl kIns (.slice A6 C.J.map.length c7) C.J.map, rsl kIns (.slice A11 C.J.comb.length c12) C.J.comb, rsl kIns (.slice A16 C.J.red.length c17) C.J.red, rsl (kInt .i64) (.slice A21 C.J.marks.length c22) C.J.marks, rsl kRec (.slice A26 recs.length c27) recs]) mo (by kernel_rfl) (fun w H => ⟨_, H⟩) H (fun w H => ?_)
        refine d_1 rfl (d_1 rfl (d_val rfl rfl rfl (fun w ⟨Ar, H⟩ => r_nilP rfl rfl) (d_val rfl rfl rfl (fun w ⟨Ar, H⟩ => r_fa rfl fo185_5 rfl) (d_val rfl rfl rfl (fun w ⟨Ar, H⟩ => r_fa rfl fo37_5 rfl) (d_val rfl rfl rfl (fun w ⟨Ar, H⟩ => r_ld rfl ty24 rfl (H.cellI 0 rfl rfl)) ?_)))))
        refine d_both rfl rfl ?_ ?_
        ·refine s_val rfl rfl (r_ld rfl ty144 rfl (H.cellI 8 rfl rfl)) ?_
         replace H := H.p7
         replace H := H.p7
         replace H := H.p7
         replace H := H.p7
         replace H := H.p7
         replace H := H.p7
         replace H := H.p7
         replace H := H.p7
         refine d_back ⟨_, H⟩ (d_main rfl (sc (cloneInt_ok (.slice A60 se57.length c61) se57 (by first | assumption | omega)) H (lX (fun F hA hR => rec_set (hR _ (List.mem_of_getElem? (i := 5) rfl)) hx50) l0) rfl rfl (e_fn kn129 rfl rfl) ?_))
         rintro v83 _ w rfl H
         replace H := H.p8
         replace H := H.p8
         replace H := H.p8
         replace H := H.p8
         replace H := H.p8
         replace H := H.p8
         replace H := H.p8
         replace H := H.p8
         replace H : Hd _ _ _ [blk b69 [.int .i64 a51, .int .i64 a52, .int .i64 a53, .int .i64 a54, .int .i64 a55, .slice A60 se57.length c61, .slice A62 pr59.length c63] 37, osl (kHd kPair) (.slice A43 J34.us.length c44) J34.us, osl kIns vM36 J34.map, osl kIns vC37 J34.comb, osl kIns vR38 J34.red, osl (kInt .i64) vK39 J34.marks, prsS (R.g) hv, stgI 253 b41 [], osl (kInt .i64) v83 se57, blk b42 (redC (.slice A43 J34.us.length c44) vM36 vC37 vR38 vK39 J34 C.w C.t C.o p ep R.g hv b41 vs) 185, osl (kHd (kInt .i64)) vs us] [rsl (kHd kPair) (.slice A1 C.J.us.length c2) C.J.us, rsl kIns (.slice A6 C.J.map.length c7) C.J.map, rsl kIns (.slice A11 C.J.comb.length c12) C.J.comb, rsl kIns (.slice A16 C.J.red.length c17) C.J.red, rsl (kInt .i64) (.slice A21 C.J.marks.length c22) C.J.marks, rsl kRec (.slice A26 recs.length c27) recs] := H
         refine d_back ⟨_, H⟩ (d_main rfl ?_)
         obtain ⟨A85, c86, rfl, hc87, hm88, hp89⟩ := H.fA 8 rfl
         refine s_bsl (parts := [(0, .tmp 76)]) (vs := [.slice A85 se57.length c86]) (cs := [.slice A85 se57.length c86]) rfl rfl rfl sl144 zr24 rfl (by decide) (by decide) rfl rfl H (fun b84 w H => ?_)
         replace H := H.p8
         replace H := H.p8
         replace H := H.p8
         replace H := H.p8
         replace H := H.p8
         replace H := H.p8
         replace H := H.p8
         replace H := H.p8
         replace H : Hd _ _ _ [blk b69 [.int .i64 a51, .int .i64 a52, .int .i64 a53, .int .i64 a54, .int .i64 a55, .slice A60 se57.length c61, .slice A62 pr59.length c63] 37, osl (kHd kPair) (.slice A43 J34.us.length c44) J34.us, osl kIns vM36 J34.map, osl kIns vC37 J34.comb, osl kIns vR38 J34.red, osl (kInt .i64) vK39 J34.marks, prsS (R.g) hv, stgI 253 b41 [], blk b84 [.slice A85 se57.length c86] 24, osl (kInt .i64) (.slice A85 se57.length c86) se57, blk b42 (redC (.slice A43 J34.us.length c44) vM36 vC37 vR38 vK39 J34 C.w C.t C.o p ep R.g hv b41 vs) 185, osl (kHd (kInt .i64)) vs us] [rsl (kHd kPair) (.slice A1 C.J.us.length c2) C.J.us, rsl kIns (.slice A6 C.J.map.length c7) C.J.map, rsl kIns (.slice A11 C.J.comb.length c12) C.J.comb, rsl kIns (.slice A16 C.J.red.length c17) C.J.red, rsl (kInt .i64) (.slice A21 C.J.marks.length c22) C.J.marks, rsl kRec (.slice A26 recs.length c27) recs] := H
         refine d_back ⟨_, H⟩ (d_main rfl ?_)
         replace H := H.pick 11 rfl
         replace H := H.pick 10 rfl
         replace H := H.pick 10 rfl
         replace H := H.p2
         refine s_appH rfl rfl rfl sl144 zr24 rfl (by decide) rfl rfl H (by first | omega | (simp only [List.length_append, List.length_cons, List.length_nil]; omega)) (fun v90 w H => ?_)
         replace H := H.p8
         replace H := H.p8
         replace H := H.p8
         replace H := H.p8
         replace H := H.p8
         replace H := H.p8
         replace H := H.p8
         replace H := H.p8
         replace H : Hd _ _ _ [blk b69 [.int .i64 a51, .int .i64 a52, .int .i64 a53, .int .i64 a54, .int .i64 a55, .slice A60 se57.length c61, .slice A62 pr59.length c63] 37, osl (kHd kPair) (.slice A43 J34.us.length c44) J34.us, osl kIns vM36 J34.map, osl kIns vC37 J34.comb, osl kIns vR38 J34.red, osl (kInt .i64) vK39 J34.marks, prsS (R.g) hv, stgI 253 b41 [], osl (kHd (kInt .i64)) v90 (us ++ [((.slice A85 se57.length c86 : Value), se57)]), blk b42 (redC (.slice A43 J34.us.length c44) vM36 vC37 vR38 vK39 J34 C.w C.t C.o p ep R.g hv b41 vs) 185] [rsl (kHd kPair) (.slice A1 C.J.us.length c2) C.J.us, rsl kIns (.slice A6 C.J.map.length c7) C.J.map, rsl kIns (.slice A11 C.J.comb.length c12) C.J.comb, rsl kIns (.slice A16 C.J.red.length c17) C.J.red, rsl (kInt .i64) (.slice A21 C.J.marks.length c22) C.J.marks, rsl kRec (.slice A26 recs.length c27) recs] := H
         refine d_back ⟨_, H⟩ (d_val rfl rfl rfl (fun w ⟨Ar, H⟩ => r_nilP rfl rfl) (d_val rfl rfl rfl (fun w ⟨Ar, H⟩ => r_fa rfl fo185_5 rfl) (d_main rfl ?_)))
         obtain ⟨A91, c92, rfl, hc93, hm94, hp95⟩ := H.fA 8 rfl
         replace H := H.p9
         refine s_st rfl rfl rfl ty144 rfl rfl H rfl (Nat.le_of_ble_eq_true rfl) (fun u hu => by simp [Value.cells] at hu; subst hu; rfl) (fun w H => ?_)
         replace H : Hd _ _ _ [blk b42 (redC (.slice A43 J34.us.length c44) vM36 vC37 vR38 vK39 J34 C.w C.t C.o p ep R.g hv b41 (.slice A91 ((us ++ [((.slice A85 se57.length c86 : Value), se57)]).length) c92)) 185, blk b69 [.int .i64 a51, .int .i64 a52, .int .i64 a53, .int .i64 a54, .int .i64 a55, .slice A60 se57.length c61, .slice A62 pr59.length c63] 37, osl (kHd kPair) (.slice A43 J34.us.length c44) J34.us, osl kIns vM36 J34.map, osl kIns vC37 J34.comb, osl kIns vR38 J34.red, osl (kInt .i64) vK39 J34.marks, prsS (R.g) hv, stgI 253 b41 [], osl (kHd (kInt .i64)) (.slice A91 ((us ++ [((.slice A85 se57.length c86 : Value), se57)]).length) c92) (us ++ [((.slice A85 se57.length c86 : Value), se57)])] [rsl (kHd kPair) (.slice A1 C.J.us.length c2) C.J.us, rsl kIns (.slice A6 C.J.map.length c7) C.J.map, rsl kIns (.slice A11 C.J.comb.length c12) C.J.comb, rsl kIns (.slice A16 C.J.red.length c17) C.J.red, rsl (kInt .i64) (.slice A21 C.J.marks.length c22) C.J.marks, rsl kRec (.slice A26 recs.length c27) recs] := H
         replace H := H.p8
         replace H := H.p8
         replace H := H.p8
         replace H := H.p8
         replace H := H.p8
         replace H := H.p8
         replace H := H.p8
         replace H := H.p8
         refine d_back ⟨_, H⟩ (d_nil (q_blockN (q_then (c_reg (s_val rfl rfl (r_add (z := ((k + 1 : Nat) : Int)) rfl rfl rfl (by rw [w64 (by omega) (by omega)]; omega)) (s_1 rfl (s_nil ?_)))))))
         have hpart : (Rec.p (⟨a51, a52, a53, a54, a55, .slice A60 se57.length c61, se57, .slice A62 pr59.length c63, pr59⟩ : Rec)).part = R.part := by rw [hRp]; exact Classical.not_not.1 h70
         have hR2 := newR_take hR hx50 (recIn_s hpart h82)
         replace H := H.p7
         replace H := H.p9
         replace H := H.p8
         replace H := H.p8
         replace H := H.p8
         replace H := H.p8
         replace H := H.p8
         replace H := H.p8
         replace H := H.p9
         replace H := H.k9
         replace H : Hd _ _ _ [blk b42 (redC (.slice A43 J34.us.length c44) vM36 vC37 vR38 vK39 J34 C.w C.t C.o p ep (({ R with sets := R.sets ++ [se57] } : Red).g) hv b41 (.slice A91 ((us ++ [((.slice A85 se57.length c86 : Value), se57)]).length) c92)) 185, osl (kHd kPair) (.slice A43 J34.us.length c44) J34.us, osl kIns vM36 J34.map, osl kIns vC37 J34.comb, osl kIns vR38 J34.red, osl (kInt .i64) vK39 J34.marks, prsS (({ R with sets := R.sets ++ [se57] } : Red).g) hv, osl (kHd (kInt .i64)) (.slice A91 ((us ++ [((.slice A85 se57.length c86 : Value), se57)]).length) c92) (us ++ [((.slice A85 se57.length c86 : Value), se57)]), stgI 253 b41 []] [rsl (kHd kPair) (.slice A1 C.J.us.length c2) C.J.us, rsl kIns (.slice A6 C.J.map.length c7) C.J.map, rsl kIns (.slice A11 C.J.comb.length c12) C.J.comb, rsl kIns (.slice A16 C.J.red.length c17) C.J.red, rsl (kInt .i64) (.slice A21 C.J.marks.length c22) C.J.marks, rsl kRec (.slice A26 recs.length c27) recs] := H
         replace H := H.p8
         replace H := H.p8
         replace H := H.p8
         replace H := H.p8
         replace H := H.p8
         replace H := H.p8
         replace H := H.p8
         replace H := H.p8
         replace H := H.p8
         exact q_round (s := (k, R, hv, undef, us)) (k + 1, ({ R with sets := R.sets ++ [se57] } : Red), hv, .slice A91 ((us ++ [((.slice A85 se57.length c86 : Value), se57)]).length) c92, us ++ [((.slice A85 se57.length c86 : Value), se57)]) ⟨rfl, rfl, rfl, rfl, rfl, rfl, rfl, trivial⟩ ⟨H, hR2, hRp, by (try dsimp only); rw [List.map_append, hus]; rfl, by (try dsimp only); omega, by (try dsimp only); rw [List.length_append]; simp only [List.length_cons, List.length_nil]; omega⟩ (by (try dsimp only); omega)
        ·refine sc (cloneInt_ok (.slice A60 se57.length c61) se57 (by first | assumption | omega)) H (lX (fun F hA hR => rec_set (hR _ (List.mem_of_getElem? (i := 5) rfl)) hx50) l0) rfl rfl (e_fn kn129 rfl rfl) ?_
         rintro v96 _ w rfl H
         replace H := H.p8
         replace H := H.p8
         replace H := H.p8
         replace H := H.p8
         replace H := H.p8
         replace H := H.p8
         replace H := H.p8
         replace H := H.p8
         replace H : Hd _ _ _ [blk b69 [.int .i64 a51, .int .i64 a52, .int .i64 a53, .int .i64 a54, .int .i64 a55, .slice A60 se57.length c61, .slice A62 pr59.length c63] 37, osl (kHd kPair) (.slice A43 J34.us.length c44) J34.us, osl kIns vM36 J34.map, osl kIns vC37 J34.comb, osl kIns vR38 J34.red, osl (kInt .i64) vK39 J34.marks, prsS (R.g) hv, stgI 253 b41 [], osl (kInt .i64) v96 se57, blk b42 (redC (.slice A43 J34.us.length c44) vM36 vC37 vR38 vK39 J34 C.w C.t C.o p ep R.g hv b41 vs) 185, osl (kHd (kInt .i64)) vs us] [rsl (kHd kPair) (.slice A1 C.J.us.length c2) C.J.us, rsl kIns (.slice A6 C.J.map.length c7) C.J.map, rsl kIns (.slice A11 C.J.comb.length c12) C.J.comb, rsl kIns (.slice A16 C.J.red.length c17) C.J.red, rsl (kInt .i64) (.slice A21 C.J.marks.length c22) C.J.marks, rsl kRec (.slice A26 recs.length c27) recs] := H
         refine d_back ⟨_, H⟩ ?_
         refine d_both rfl rfl ?_ ?_
         ·refine s_val rfl rfl (r_ld rfl ty144 rfl (H.cellI 9 rfl rfl)) ?_
          replace H := H.p7
          replace H := H.p7
          replace H := H.p7
          replace H := H.p7
          replace H := H.p7
          replace H := H.p7
          replace H := H.p7
          replace H := H.p7
          refine d_back ⟨_, H⟩ (d_main rfl ?_)
          obtain ⟨A98, c99, rfl, hc100, hm101, hp102⟩ := H.fA 8 rfl
          refine s_bsl (parts := [(0, .tmp 76)]) (vs := [.slice A98 se57.length c99]) (cs := [.slice A98 se57.length c99]) rfl rfl rfl sl144 zr24 rfl (by decide) (by decide) rfl rfl H (fun b97 w H => ?_)
          replace H := H.p8
          replace H := H.p8
          replace H := H.p8
          replace H := H.p8
          replace H := H.p8
          replace H := H.p8
          replace H := H.p8
          replace H := H.p8
          replace H : Hd _ _ _ [blk b69 [.int .i64 a51, .int .i64 a52, .int .i64 a53, .int .i64 a54, .int .i64 a55, .slice A60 se57.length c61, .slice A62 pr59.length c63] 37, osl (kHd kPair) (.slice A43 J34.us.length c44) J34.us, osl kIns vM36 J34.map, osl kIns vC37 J34.comb, osl kIns vR38 J34.red, osl (kInt .i64) vK39 J34.marks, prsS (R.g) hv, stgI 253 b41 [], blk b97 [.slice A98 se57.length c99] 24, osl (kInt .i64) (.slice A98 se57.length c99) se57, blk b42 (redC (.slice A43 J34.us.length c44) vM36 vC37 vR38 vK39 J34 C.w C.t C.o p ep R.g hv b41 vs) 185, osl (kHd (kInt .i64)) vs us] [rsl (kHd kPair) (.slice A1 C.J.us.length c2) C.J.us, rsl kIns (.slice A6 C.J.map.length c7) C.J.map, rsl kIns (.slice A11 C.J.comb.length c12) C.J.comb, rsl kIns (.slice A16 C.J.red.length c17) C.J.red, rsl (kInt .i64) (.slice A21 C.J.marks.length c22) C.J.marks, rsl kRec (.slice A26 recs.length c27) recs] := H
          refine d_back ⟨_, H⟩ (d_main rfl ?_)
          replace H := H.pick 11 rfl
          replace H := H.pick 10 rfl
          replace H := H.pick 10 rfl
          replace H := H.p2
          refine s_appH rfl rfl rfl sl144 zr24 rfl (by decide) rfl rfl H (by first | omega | (simp only [List.length_append, List.length_cons, List.length_nil]; omega)) (fun v103 w H => ?_)
          replace H := H.p8
          replace H := H.p8
          replace H := H.p8
          replace H := H.p8
          replace H := H.p8
          replace H := H.p8
          replace H := H.p8
          replace H := H.p8
          replace H : Hd _ _ _ [blk b69 [.int .i64 a51, .int .i64 a52, .int .i64 a53, .int .i64 a54, .int .i64 a55, .slice A60 se57.length c61, .slice A62 pr59.length c63] 37, osl (kHd kPair) (.slice A43 J34.us.length c44) J34.us, osl kIns vM36 J34.map, osl kIns vC37 J34.comb, osl kIns vR38 J34.red, osl (kInt .i64) vK39 J34.marks, prsS (R.g) hv, stgI 253 b41 [], osl (kHd (kInt .i64)) v103 (us ++ [((.slice A98 se57.length c99 : Value), se57)]), blk b42 (redC (.slice A43 J34.us.length c44) vM36 vC37 vR38 vK39 J34 C.w C.t C.o p ep R.g hv b41 vs) 185] [rsl (kHd kPair) (.slice A1 C.J.us.length c2) C.J.us, rsl kIns (.slice A6 C.J.map.length c7) C.J.map, rsl kIns (.slice A11 C.J.comb.length c12) C.J.comb, rsl kIns (.slice A16 C.J.red.length c17) C.J.red, rsl (kInt .i64) (.slice A21 C.J.marks.length c22) C.J.marks, rsl kRec (.slice A26 recs.length c27) recs] := H
          refine d_back ⟨_, H⟩ (d_val rfl rfl rfl (fun w ⟨Ar, H⟩ => r_nilP rfl rfl) (d_val rfl rfl rfl (fun w ⟨Ar, H⟩ => r_fa rfl fo185_5 rfl) (d_main rfl ?_)))
          obtain ⟨A104, c105, rfl, hc106, hm107, hp108⟩ := H.fA 8 rfl
          replace H := H.p9
          refine s_st rfl rfl rfl ty144 rfl rfl H rfl (Nat.le_of_ble_eq_true rfl) (fun u hu => by simp [Value.cells] at hu; subst hu; rfl) (fun w H => ?_)
          replace H : Hd _ _ _ [blk b42 (redC (.slice A43 J34.us.length c44) vM36 vC37 vR38 vK39 J34 C.w C.t C.o p ep R.g hv b41 (.slice A104 ((us ++ [((.slice A98 se57.length c99 : Value), se57)]).length) c105)) 185, blk b69 [.int .i64 a51, .int .i64 a52, .int .i64 a53, .int .i64 a54, .int .i64 a55, .slice A60 se57.length c61, .slice A62 pr59.length c63] 37, osl (kHd kPair) (.slice A43 J34.us.length c44) J34.us, osl kIns vM36 J34.map, osl kIns vC37 J34.comb, osl kIns vR38 J34.red, osl (kInt .i64) vK39 J34.marks, prsS (R.g) hv, stgI 253 b41 [], osl (kHd (kInt .i64)) (.slice A104 ((us ++ [((.slice A98 se57.length c99 : Value), se57)]).length) c105) (us ++ [((.slice A98 se57.length c99 : Value), se57)])] [rsl (kHd kPair) (.slice A1 C.J.us.length c2) C.J.us, rsl kIns (.slice A6 C.J.map.length c7) C.J.map, rsl kIns (.slice A11 C.J.comb.length c12) C.J.comb, rsl kIns (.slice A16 C.J.red.length c17) C.J.red, rsl (kInt .i64) (.slice A21 C.J.marks.length c22) C.J.marks, rsl kRec (.slice A26 recs.length c27) recs] := H
          replace H := H.p8
          replace H := H.p8
          replace H := H.p8
          replace H := H.p8
          replace H := H.p8
          replace H := H.p8
          replace H := H.p8
          replace H := H.p8
          refine d_back ⟨_, H⟩ (d_nil (q_blockN (q_then (c_reg (s_val rfl rfl (r_add (z := ((k + 1 : Nat) : Int)) rfl rfl rfl (by rw [w64 (by omega) (by omega)]; omega)) (s_1 rfl (s_nil ?_)))))))
          have hpart : (Rec.p (⟨a51, a52, a53, a54, a55, .slice A60 se57.length c61, se57, .slice A62 pr59.length c63, pr59⟩ : Rec)).part = R.part := by rw [hRp]; exact Classical.not_not.1 h70
          have hR2 := newR_take hR hx50 (recIn_s hpart h82)
          replace H := H.p7
          replace H := H.p9
          replace H := H.p8
          replace H := H.p8
          replace H := H.p8
          replace H := H.p8
          replace H := H.p8
          replace H := H.p8
          replace H := H.p9
          replace H := H.k9
          replace H : Hd _ _ _ [blk b42 (redC (.slice A43 J34.us.length c44) vM36 vC37 vR38 vK39 J34 C.w C.t C.o p ep (({ R with sets := R.sets ++ [se57] } : Red).g) hv b41 (.slice A104 ((us ++ [((.slice A98 se57.length c99 : Value), se57)]).length) c105)) 185, osl (kHd kPair) (.slice A43 J34.us.length c44) J34.us, osl kIns vM36 J34.map, osl kIns vC37 J34.comb, osl kIns vR38 J34.red, osl (kInt .i64) vK39 J34.marks, prsS (({ R with sets := R.sets ++ [se57] } : Red).g) hv, osl (kHd (kInt .i64)) (.slice A104 ((us ++ [((.slice A98 se57.length c99 : Value), se57)]).length) c105) (us ++ [((.slice A98 se57.length c99 : Value), se57)]), stgI 253 b41 []] [rsl (kHd kPair) (.slice A1 C.J.us.length c2) C.J.us, rsl kIns (.slice A6 C.J.map.length c7) C.J.map, rsl kIns (.slice A11 C.J.comb.length c12) C.J.comb, rsl kIns (.slice A16 C.J.red.length c17) C.J.red, rsl (kInt .i64) (.slice A21 C.J.marks.length c22) C.J.marks, rsl kRec (.slice A26 recs.length c27) recs] := H
          replace H := H.p8
          replace H := H.p8
          replace H := H.p8
          replace H := H.p8
          replace H := H.p8
          replace H := H.p8
          replace H := H.p8
          replace H := H.p8
          replace H := H.p8
          exact q_round (s := (k, R, hv, undef, us)) (k + 1, ({ R with sets := R.sets ++ [se57] } : Red), hv, .slice A104 ((us ++ [((.slice A98 se57.length c99 : Value), se57)]).length) c105, us ++ [((.slice A98 se57.length c99 : Value), se57)]) ⟨rfl, rfl, rfl, rfl, rfl, rfl, rfl, trivial⟩ ⟨H, hR2, hRp, by (try dsimp only); rw [List.map_append, hus]; rfl, by (try dsimp only); omega, by (try dsimp only); rw [List.length_append]; simp only [List.length_cons, List.length_nil]; omega⟩ (by (try dsimp only); omega)
         ·obtain ⟨A110, c111, rfl, hc112, hm113, hp114⟩ := H.fA 8 rfl
          refine s_bsl (parts := [(0, .tmp 76)]) (vs := [.slice A110 se57.length c111]) (cs := [.slice A110 se57.length c111]) rfl rfl rfl sl144 zr24 rfl (by decide) (by decide) rfl rfl H (fun b109 w H => ?_)
          replace H := H.p8
          replace H := H.p8
          replace H := H.p8
          replace H := H.p8
          replace H := H.p8
          replace H := H.p8
          replace H := H.p8
          replace H := H.p8
          replace H : Hd _ _ _ [blk b69 [.int .i64 a51, .int .i64 a52, .int .i64 a53, .int .i64 a54, .int .i64 a55, .slice A60 se57.length c61, .slice A62 pr59.length c63] 37, osl (kHd kPair) (.slice A43 J34.us.length c44) J34.us, osl kIns vM36 J34.map, osl kIns vC37 J34.comb, osl kIns vR38 J34.red, osl (kInt .i64) vK39 J34.marks, prsS (R.g) hv, stgI 253 b41 [], blk b109 [.slice A110 se57.length c111] 24, osl (kInt .i64) (.slice A110 se57.length c111) se57, blk b42 (redC (.slice A43 J34.us.length c44) vM36 vC37 vR38 vK39 J34 C.w C.t C.o p ep R.g hv b41 vs) 185, osl (kHd (kInt .i64)) vs us] [rsl (kHd kPair) (.slice A1 C.J.us.length c2) C.J.us, rsl kIns (.slice A6 C.J.map.length c7) C.J.map, rsl kIns (.slice A11 C.J.comb.length c12) C.J.comb, rsl kIns (.slice A16 C.J.red.length c17) C.J.red, rsl (kInt .i64) (.slice A21 C.J.marks.length c22) C.J.marks, rsl kRec (.slice A26 recs.length c27) recs] := H
          refine d_back ⟨_, H⟩ (d_main rfl (s_val rfl rfl (r_ld rfl ty144 rfl (H.cellI 10 rfl rfl)) ?_))
          replace H := H.p7
          replace H := H.p7
          replace H := H.p7
          replace H := H.p7
          replace H := H.p7
          replace H := H.p7
          replace H := H.p7
          replace H := H.p7
          refine d_back ⟨_, H⟩ (d_main rfl ?_)
          replace H := H.pick 11 rfl
          replace H := H.pick 10 rfl
          replace H := H.pick 10 rfl
          replace H := H.p2
          refine s_appH rfl rfl rfl sl144 zr24 rfl (by decide) rfl rfl H (by first | omega | (simp only [List.length_append, List.length_cons, List.length_nil]; omega)) (fun v115 w H => ?_)
          replace H := H.p8
          replace H := H.p8
          replace H := H.p8
          replace H := H.p8
          replace H := H.p8
          replace H := H.p8
          replace H := H.p8
          replace H := H.p8
          replace H : Hd _ _ _ [blk b69 [.int .i64 a51, .int .i64 a52, .int .i64 a53, .int .i64 a54, .int .i64 a55, .slice A60 se57.length c61, .slice A62 pr59.length c63] 37, osl (kHd kPair) (.slice A43 J34.us.length c44) J34.us, osl kIns vM36 J34.map, osl kIns vC37 J34.comb, osl kIns vR38 J34.red, osl (kInt .i64) vK39 J34.marks, prsS (R.g) hv, stgI 253 b41 [], osl (kHd (kInt .i64)) v115 (us ++ [((.slice A110 se57.length c111 : Value), se57)]), blk b42 (redC (.slice A43 J34.us.length c44) vM36 vC37 vR38 vK39 J34 C.w C.t C.o p ep R.g hv b41 vs) 185] [rsl (kHd kPair) (.slice A1 C.J.us.length c2) C.J.us, rsl kIns (.slice A6 C.J.map.length c7) C.J.map, rsl kIns (.slice A11 C.J.comb.length c12) C.J.comb, rsl kIns (.slice A16 C.J.red.length c17) C.J.red, rsl (kInt .i64) (.slice A21 C.J.marks.length c22) C.J.marks, rsl kRec (.slice A26 recs.length c27) recs] := H
          refine d_back ⟨_, H⟩ (d_val rfl rfl rfl (fun w ⟨Ar, H⟩ => r_nilP rfl rfl) (d_val rfl rfl rfl (fun w ⟨Ar, H⟩ => r_fa rfl fo185_5 rfl) (d_main rfl ?_)))
          obtain ⟨A116, c117, rfl, hc118, hm119, hp120⟩ := H.fA 8 rfl
          replace H := H.p9
          refine s_st rfl rfl rfl ty144 rfl rfl H rfl (Nat.le_of_ble_eq_true rfl) (fun u hu => by simp [Value.cells] at hu; subst hu; rfl) (fun w H => ?_)
          replace H : Hd _ _ _ [blk b42 (redC (.slice A43 J34.us.length c44) vM36 vC37 vR38 vK39 J34 C.w C.t C.o p ep R.g hv b41 (.slice A116 ((us ++ [((.slice A110 se57.length c111 : Value), se57)]).length) c117)) 185, blk b69 [.int .i64 a51, .int .i64 a52, .int .i64 a53, .int .i64 a54, .int .i64 a55, .slice A60 se57.length c61, .slice A62 pr59.length c63] 37, osl (kHd kPair) (.slice A43 J34.us.length c44) J34.us, osl kIns vM36 J34.map, osl kIns vC37 J34.comb, osl kIns vR38 J34.red, osl (kInt .i64) vK39 J34.marks, prsS (R.g) hv, stgI 253 b41 [], osl (kHd (kInt .i64)) (.slice A116 ((us ++ [((.slice A110 se57.length c111 : Value), se57)]).length) c117) (us ++ [((.slice A110 se57.length c111 : Value), se57)])] [rsl (kHd kPair) (.slice A1 C.J.us.length c2) C.J.us, rsl kIns (.slice A6 C.J.map.length c7) C.J.map, rsl kIns (.slice A11 C.J.comb.length c12) C.J.comb, rsl kIns (.slice A16 C.J.red.length c17) C.J.red, rsl (kInt .i64) (.slice A21 C.J.marks.length c22) C.J.marks, rsl kRec (.slice A26 recs.length c27) recs] := H
          replace H := H.p8
          replace H := H.p8
          replace H := H.p8
          replace H := H.p8
          replace H := H.p8
          replace H := H.p8
          replace H := H.p8
          replace H := H.p8
          refine d_back ⟨_, H⟩ (d_nil (q_blockN (q_then (c_reg (s_val rfl rfl (r_add (z := ((k + 1 : Nat) : Int)) rfl rfl rfl (by rw [w64 (by omega) (by omega)]; omega)) (s_1 rfl (s_nil ?_)))))))
          have hpart : (Rec.p (⟨a51, a52, a53, a54, a55, .slice A60 se57.length c61, se57, .slice A62 pr59.length c63, pr59⟩ : Rec)).part = R.part := by rw [hRp]; exact Classical.not_not.1 h70
          have hR2 := newR_take hR hx50 (recIn_s hpart h82)
          replace H := H.p7
          replace H := H.p9
          replace H := H.p8
          replace H := H.p8
          replace H := H.p8
          replace H := H.p8
          replace H := H.p8
          replace H := H.p8
          replace H := H.p9
          replace H := H.k9
          replace H : Hd _ _ _ [blk b42 (redC (.slice A43 J34.us.length c44) vM36 vC37 vR38 vK39 J34 C.w C.t C.o p ep (({ R with sets := R.sets ++ [se57] } : Red).g) hv b41 (.slice A116 ((us ++ [((.slice A110 se57.length c111 : Value), se57)]).length) c117)) 185, osl (kHd kPair) (.slice A43 J34.us.length c44) J34.us, osl kIns vM36 J34.map, osl kIns vC37 J34.comb, osl kIns vR38 J34.red, osl (kInt .i64) vK39 J34.marks, prsS (({ R with sets := R.sets ++ [se57] } : Red).g) hv, osl (kHd (kInt .i64)) (.slice A116 ((us ++ [((.slice A110 se57.length c111 : Value), se57)]).length) c117) (us ++ [((.slice A110 se57.length c111 : Value), se57)]), stgI 253 b41 []] [rsl (kHd kPair) (.slice A1 C.J.us.length c2) C.J.us, rsl kIns (.slice A6 C.J.map.length c7) C.J.map, rsl kIns (.slice A11 C.J.comb.length c12) C.J.comb, rsl kIns (.slice A16 C.J.red.length c17) C.J.red, rsl (kInt .i64) (.slice A21 C.J.marks.length c22) C.J.marks, rsl kRec (.slice A26 recs.length c27) recs] := H
          replace H := H.p8
          replace H := H.p8
          replace H := H.p8
          replace H := H.p8
          replace H := H.p8
          replace H := H.p8
          replace H := H.p8
          replace H := H.p8
          replace H := H.p8
          exact q_round (s := (k, R, hv, undef, us)) (k + 1, ({ R with sets := R.sets ++ [se57] } : Red), hv, .slice A116 ((us ++ [((.slice A110 se57.length c111 : Value), se57)]).length) c117, us ++ [((.slice A110 se57.length c111 : Value), se57)]) ⟨rfl, rfl, rfl, rfl, rfl, rfl, rfl, trivial⟩ ⟨H, hR2, hRp, by (try dsimp only); rw [List.map_append, hus]; rfl, by (try dsimp only); omega, by (try dsimp only); rw [List.length_append]; simp only [List.length_cons, List.length_nil]; omega⟩ (by (try dsimp only); omega)
       ·refine c_skip (q_blockN (q_then (c_reg (s_val rfl rfl (r_add (z := ((k + 1 : Nat) : Int)) rfl rfl rfl (by rw [w64 (by omega) (by omega)]; omega)) (s_1 rfl (s_nil ?_))))))
        have hpart : (Rec.p (⟨a51, a52, a53, a54, a55, .slice A60 se57.length c61, se57, .slice A62 pr59.length c63, pr59⟩ : Rec)).part = R.part := by rw [hRp]; exact Classical.not_not.1 h70
        have hR2 := newR_take hR hx50 (recIn_no hpart (fun h => h72 h.1) h82)
        replace H := H.p9
        replace H := H.p9
        replace H := H.p9
        replace H := H.p9
        replace H := H.p9
        replace H := H.p9
        replace H := H.p9
        replace H := H.p9
        replace H := H.p9
        replace H := H.k9
        replace H := H.p8
        replace H := H.p8
        replace H := H.p8
        replace H := H.p8
        replace H := H.p8
        replace H := H.p8
        replace H := H.p8
        replace H := H.p8
        replace H := H.p8
        exact q_round (s := (k, R, hv, undef, us)) (k + 1, R, hv, vs, us) ⟨rfl, rfl, rfl, rfl, rfl, rfl, rfl, trivial⟩ ⟨H, hR2, hRp, by (try dsimp only); exact hus, by (try dsimp only); omega, by (try dsimp only); omega⟩ (by (try dsimp only); omega)
     ·refine c_reg (s_1 rfl (s_val rfl rfl (r_fa rfl fo37_2 rfl) (s_val rfl rfl (r_ld rfl ty3 rfl (H.cellI 0 rfl rfl)) (sc (at_no b42 A43 J34.us.length c44 vM36 vC37 vR38 vK39 J34 C.w C.t C.o p ep R.g hv b41 vs a53 (by first | assumption | omega)) H (lA 1 rfl (fun _ h => h) l0) rfl rfl (e_fn kn118 rfl rfl) ?_))))
      rintro _ _ w ⟨rfl, rfl⟩ H
      refine s_1 rfl (s_nil (q_then (c_seq (c_reg (s_val rfl rfl (r_fa rfl fo37_0 rfl) (s_val rfl rfl (r_ld rfl ty3 rfl (H.cellI 0 rfl rfl)) (s_val rfl rfl (r_eq rfl rfl rfl) (s_1 rfl ?_))))))))
      refine s_dec (d := 46) (p := a51 = 4) rfl (fun h121 => ?_) (fun h121 => ?_)
      ·refine s_1 rfl (s_val rfl rfl (r_pne rfl un178 rfl rfl) (s_k 8 rfl (s_nil (q_then (c_no rfl (c_skip (q_then (c_seq (c_reg (s_val rfl rfl (r_fa rfl fo37_0 rfl) (s_val rfl rfl (r_ld rfl ty3 rfl (H.cellI 0 rfl rfl)) (s_val rfl rfl (r_eq rfl rfl rfl) (s_nil (q_then ?_))))))))))))))
       refine c_dec (p := a51 = 5) rfl (fun h122 => ?_) (fun h122 => ?_)
       ·exfalso; omega
       ·refine c_skip (q_blockN (q_then (c_reg (s_val rfl rfl (r_add (z := ((k + 1 : Nat) : Int)) rfl rfl rfl (by rw [w64 (by omega) (by omega)]; omega)) (s_1 rfl (s_nil ?_))))))
        have hpart : (Rec.p (⟨a51, a52, a53, a54, a55, .slice A60 se57.length c61, se57, .slice A62 pr59.length c63, pr59⟩ : Rec)).part = R.part := by rw [hRp]; exact Classical.not_not.1 h70
        have hR2 := newR_take hR hx50 (recIn_no hpart (fun h => hin71 h.2.1) h122)
        replace H := H.p9
        replace H := H.p9
        replace H := H.p9
        replace H := H.p9
        replace H := H.p9
        replace H := H.p9
        replace H := H.p9
        replace H := H.p9
        replace H := H.p9
        replace H := H.k9
        replace H := H.p8
        replace H := H.p8
        replace H := H.p8
        replace H := H.p8
        replace H := H.p8
        replace H := H.p8
        replace H := H.p8
        replace H := H.p8
        replace H := H.p8
        exact q_round (s := (k, R, hv, undef, us)) (k + 1, R, hv, vs, us) ⟨rfl, rfl, rfl, rfl, rfl, rfl, rfl, trivial⟩ ⟨H, hR2, hRp, by (try dsimp only); exact hus, by (try dsimp only); omega, by (try dsimp only); omega⟩ (by (try dsimp only); omega)
      ·refine s_k 10 rfl (s_nil (q_then (c_no rfl (c_skip (q_then (c_seq (c_reg (s_val rfl rfl (r_fa rfl fo37_0 rfl) (s_val rfl rfl (r_ld rfl ty3 rfl (H.cellI 0 rfl rfl)) (s_val rfl rfl (r_eq rfl rfl rfl) (s_nil (q_then ?_))))))))))))
       refine c_dec (p := a51 = 5) rfl (fun h123 => ?_) (fun h123 => ?_)
       ·replace H := H.p9
        replace H := H.p8
        replace H := H.p8
        replace H := H.p8
        replace H := H.p8
        replace H := H.p8
        replace H := H.p8
        replace H := H.p7
        refine c_ord (.e 0 (.e 1 (.e 2 (.e 3 (.e 5 (.e 6 (.b 4 7 (.m 7 (.m 8 (.m 9 (.e 10 (.e 11 (.m 12 .z)))))) (.b 4 8 (.m 8 (.m 9 (.e 10 (.e 11 (.m 12 .z))))) (.m 4 (.m 9 (.e 10 (.e 11 (.m 12 .z))))))))))))) (fun w => ∃ Ar, Hd w0 F0 w (blk b69 [.int .i64 a51, .int .i64 a52, .int .i64 a53, .int .i64 a54, .int .i64 a55, .slice A60 se57.length c61, .slice A62 pr59.length c63] 37 :: osl (kHd kPair) (.slice A43 J34.us.length c44) J34.us :: osl kIns vM36 J34.map :: osl kIns vC37 J34.comb :: osl kIns vR38 J34.red :: osl (kInt .i64) vK39 J34.marks :: prsS (R.g) hv :: stgI 253 b41 [] :: Ar) [rsl (kHd kPair) (.slice A1 C.J.us.length c2) C.J.us, rsl kIns (.slice A6 C.J.map.length c7) C.J.map, rsl kIns (.slice A11 C.J.comb.length c12) C.J.comb, rsl kIns (.slice A16 C.J.red.length c17) C.J.red, rsl (kInt .i64) (.slice A21 C.J.marks.length c22) C.J.marks, rsl kRec (.slice A26 recs.length c27) recs]) mo (by kernel_rfl) (fun w H => ⟨_, H⟩) H (fun w H => ?_)
        refine d_1 rfl (d_1 rfl (d_val rfl rfl rfl (fun w ⟨Ar, H⟩ => r_nilP rfl rfl) (d_val rfl rfl rfl (fun w ⟨Ar, H⟩ => r_fa rfl fo185_5 rfl) (d_val rfl rfl rfl (fun w ⟨Ar, H⟩ => r_fa rfl fo37_5 rfl) (d_val rfl rfl rfl (fun w ⟨Ar, H⟩ => r_ld rfl ty24 rfl (H.cellI 0 rfl rfl)) ?_)))))
        refine d_both rfl rfl ?_ ?_
        ·refine s_val rfl rfl (r_ld rfl ty144 rfl (H.cellI 8 rfl rfl)) ?_
         replace H := H.p7
         replace H := H.p7
         replace H := H.p7
         replace H := H.p7
         replace H := H.p7
         replace H := H.p7
         replace H := H.p7
         replace H := H.p7
         refine d_back ⟨_, H⟩ (d_main rfl (sc (cloneInt_ok (.slice A60 se57.length c61) se57 (by first | assumption | omega)) H (lX (fun F hA hR => rec_set (hR _ (List.mem_of_getElem? (i := 5) rfl)) hx50) l0) rfl rfl (e_fn kn129 rfl rfl) ?_))
         rintro v124 _ w rfl H
         replace H := H.p8
         replace H := H.p8
         replace H := H.p8
         replace H := H.p8
         replace H := H.p8
         replace H := H.p8
         replace H := H.p8
         replace H := H.p8
         replace H : Hd _ _ _ [blk b69 [.int .i64 a51, .int .i64 a52, .int .i64 a53, .int .i64 a54, .int .i64 a55, .slice A60 se57.length c61, .slice A62 pr59.length c63] 37, osl (kHd kPair) (.slice A43 J34.us.length c44) J34.us, osl kIns vM36 J34.map, osl kIns vC37 J34.comb, osl kIns vR38 J34.red, osl (kInt .i64) vK39 J34.marks, prsS (R.g) hv, stgI 253 b41 [], osl (kInt .i64) v124 se57, blk b42 (redC (.slice A43 J34.us.length c44) vM36 vC37 vR38 vK39 J34 C.w C.t C.o p ep R.g hv b41 vs) 185, osl (kHd (kInt .i64)) vs us] [rsl (kHd kPair) (.slice A1 C.J.us.length c2) C.J.us, rsl kIns (.slice A6 C.J.map.length c7) C.J.map, rsl kIns (.slice A11 C.J.comb.length c12) C.J.comb, rsl kIns (.slice A16 C.J.red.length c17) C.J.red, rsl (kInt .i64) (.slice A21 C.J.marks.length c22) C.J.marks, rsl kRec (.slice A26 recs.length c27) recs] := H
         refine d_back ⟨_, H⟩ (d_main rfl ?_)
         obtain ⟨A126, c127, rfl, hc128, hm129, hp130⟩ := H.fA 8 rfl
         refine s_bsl (parts := [(0, .tmp 76)]) (vs := [.slice A126 se57.length c127]) (cs := [.slice A126 se57.length c127]) rfl rfl rfl sl144 zr24 rfl (by decide) (by decide) rfl rfl H (fun b125 w H => ?_)
         replace H := H.p8
         replace H := H.p8
         replace H := H.p8
         replace H := H.p8
         replace H := H.p8
         replace H := H.p8
         replace H := H.p8
         replace H := H.p8
         replace H : Hd _ _ _ [blk b69 [.int .i64 a51, .int .i64 a52, .int .i64 a53, .int .i64 a54, .int .i64 a55, .slice A60 se57.length c61, .slice A62 pr59.length c63] 37, osl (kHd kPair) (.slice A43 J34.us.length c44) J34.us, osl kIns vM36 J34.map, osl kIns vC37 J34.comb, osl kIns vR38 J34.red, osl (kInt .i64) vK39 J34.marks, prsS (R.g) hv, stgI 253 b41 [], blk b125 [.slice A126 se57.length c127] 24, osl (kInt .i64) (.slice A126 se57.length c127) se57, blk b42 (redC (.slice A43 J34.us.length c44) vM36 vC37 vR38 vK39 J34 C.w C.t C.o p ep R.g hv b41 vs) 185, osl (kHd (kInt .i64)) vs us] [rsl (kHd kPair) (.slice A1 C.J.us.length c2) C.J.us, rsl kIns (.slice A6 C.J.map.length c7) C.J.map, rsl kIns (.slice A11 C.J.comb.length c12) C.J.comb, rsl kIns (.slice A16 C.J.red.length c17) C.J.red, rsl (kInt .i64) (.slice A21 C.J.marks.length c22) C.J.marks, rsl kRec (.slice A26 recs.length c27) recs] := H
         refine d_back ⟨_, H⟩ (d_main rfl ?_)
         replace H := H.pick 11 rfl
         replace H := H.pick 10 rfl
         replace H := H.pick 10 rfl
         replace H := H.p2
         refine s_appH rfl rfl rfl sl144 zr24 rfl (by decide) rfl rfl H (by first | omega | (simp only [List.length_append, List.length_cons, List.length_nil]; omega)) (fun v131 w H => ?_)
         replace H := H.p8
         replace H := H.p8
         replace H := H.p8
         replace H := H.p8
         replace H := H.p8
         replace H := H.p8
         replace H := H.p8
         replace H := H.p8
         replace H : Hd _ _ _ [blk b69 [.int .i64 a51, .int .i64 a52, .int .i64 a53, .int .i64 a54, .int .i64 a55, .slice A60 se57.length c61, .slice A62 pr59.length c63] 37, osl (kHd kPair) (.slice A43 J34.us.length c44) J34.us, osl kIns vM36 J34.map, osl kIns vC37 J34.comb, osl kIns vR38 J34.red, osl (kInt .i64) vK39 J34.marks, prsS (R.g) hv, stgI 253 b41 [], osl (kHd (kInt .i64)) v131 (us ++ [((.slice A126 se57.length c127 : Value), se57)]), blk b42 (redC (.slice A43 J34.us.length c44) vM36 vC37 vR38 vK39 J34 C.w C.t C.o p ep R.g hv b41 vs) 185] [rsl (kHd kPair) (.slice A1 C.J.us.length c2) C.J.us, rsl kIns (.slice A6 C.J.map.length c7) C.J.map, rsl kIns (.slice A11 C.J.comb.length c12) C.J.comb, rsl kIns (.slice A16 C.J.red.length c17) C.J.red, rsl (kInt .i64) (.slice A21 C.J.marks.length c22) C.J.marks, rsl kRec (.slice A26 recs.length c27) recs] := H
         refine d_back ⟨_, H⟩ (d_val rfl rfl rfl (fun w ⟨Ar, H⟩ => r_nilP rfl rfl) (d_val rfl rfl rfl (fun w ⟨Ar, H⟩ => r_fa rfl fo185_5 rfl) (d_main rfl ?_)))
         obtain ⟨A132, c133, rfl, hc134, hm135, hp136⟩ := H.fA 8 rfl
         replace H := H.p9
         refine s_st rfl rfl rfl ty144 rfl rfl H rfl (Nat.le_of_ble_eq_true rfl) (fun u hu => by simp [Value.cells] at hu; subst hu; rfl) (fun w H => ?_)
         replace H : Hd _ _ _ [blk b42 (redC (.slice A43 J34.us.length c44) vM36 vC37 vR38 vK39 J34 C.w C.t C.o p ep R.g hv b41 (.slice A132 ((us ++ [((.slice A126 se57.length c127 : Value), se57)]).length) c133)) 185, blk b69 [.int .i64 a51, .int .i64 a52, .int .i64 a53, .int .i64 a54, .int .i64 a55, .slice A60 se57.length c61, .slice A62 pr59.length c63] 37, osl (kHd kPair) (.slice A43 J34.us.length c44) J34.us, osl kIns vM36 J34.map, osl kIns vC37 J34.comb, osl kIns vR38 J34.red, osl (kInt .i64) vK39 J34.marks, prsS (R.g) hv, stgI 253 b41 [], osl (kHd (kInt .i64)) (.slice A132 ((us ++ [((.slice A126 se57.length c127 : Value), se57)]).length) c133) (us ++ [((.slice A126 se57.length c127 : Value), se57)])] [rsl (kHd kPair) (.slice A1 C.J.us.length c2) C.J.us, rsl kIns (.slice A6 C.J.map.length c7) C.J.map, rsl kIns (.slice A11 C.J.comb.length c12) C.J.comb, rsl kIns (.slice A16 C.J.red.length c17) C.J.red, rsl (kInt .i64) (.slice A21 C.J.marks.length c22) C.J.marks, rsl kRec (.slice A26 recs.length c27) recs] := H
         replace H := H.p8
         replace H := H.p8
         replace H := H.p8
         replace H := H.p8
         replace H := H.p8
         replace H := H.p8
         replace H := H.p8
         replace H := H.p8
         refine d_back ⟨_, H⟩ (d_nil (q_blockN (q_then (c_reg (s_val rfl rfl (r_add (z := ((k + 1 : Nat) : Int)) rfl rfl rfl (by rw [w64 (by omega) (by omega)]; omega)) (s_1 rfl (s_nil ?_)))))))
         have hpart : (Rec.p (⟨a51, a52, a53, a54, a55, .slice A60 se57.length c61, se57, .slice A62 pr59.length c63, pr59⟩ : Rec)).part = R.part := by rw [hRp]; exact Classical.not_not.1 h70
         have hR2 := newR_take hR hx50 (recIn_s hpart h123)
         replace H := H.p7
         replace H := H.p9
         replace H := H.p8
         replace H := H.p8
         replace H := H.p8
         replace H := H.p8
         replace H := H.p8
         replace H := H.p8
         replace H := H.p9
         replace H := H.k9
         replace H : Hd _ _ _ [blk b42 (redC (.slice A43 J34.us.length c44) vM36 vC37 vR38 vK39 J34 C.w C.t C.o p ep (({ R with sets := R.sets ++ [se57] } : Red).g) hv b41 (.slice A132 ((us ++ [((.slice A126 se57.length c127 : Value), se57)]).length) c133)) 185, osl (kHd kPair) (.slice A43 J34.us.length c44) J34.us, osl kIns vM36 J34.map, osl kIns vC37 J34.comb, osl kIns vR38 J34.red, osl (kInt .i64) vK39 J34.marks, prsS (({ R with sets := R.sets ++ [se57] } : Red).g) hv, osl (kHd (kInt .i64)) (.slice A132 ((us ++ [((.slice A126 se57.length c127 : Value), se57)]).length) c133) (us ++ [((.slice A126 se57.length c127 : Value), se57)]), stgI 253 b41 []] [rsl (kHd kPair) (.slice A1 C.J.us.length c2) C.J.us, rsl kIns (.slice A6 C.J.map.length c7) C.J.map, rsl kIns (.slice A11 C.J.comb.length c12) C.J.comb, rsl kIns (.slice A16 C.J.red.length c17) C.J.red, rsl (kInt .i64) (.slice A21 C.J.marks.length c22) C.J.marks, rsl kRec (.slice A26 recs.length c27) recs] := H
         replace H := H.p8
         replace H := H.p8
         replace H := H.p8
         replace H := H.p8
         replace H := H.p8
         replace H := H.p8
         replace H := H.p8
         replace H := H.p8
         replace H := H.p8
         exact q_round (s := (k, R, hv, undef, us)) (k + 1, ({ R with sets := R.sets ++ [se57] } : Red), hv, .slice A132 ((us ++ [((.slice A126 se57.length c127 : Value), se57)]).length) c133, us ++ [((.slice A126 se57.length c127 : Value), se57)]) ⟨rfl, rfl, rfl, rfl, rfl, rfl, rfl, trivial⟩ ⟨H, hR2, hRp, by (try dsimp only); rw [List.map_append, hus]; rfl, by (try dsimp only); omega, by (try dsimp only); rw [List.length_append]; simp only [List.length_cons, List.length_nil]; omega⟩ (by (try dsimp only); omega)
        ·refine sc (cloneInt_ok (.slice A60 se57.length c61) se57 (by first | assumption | omega)) H (lX (fun F hA hR => rec_set (hR _ (List.mem_of_getElem? (i := 5) rfl)) hx50) l0) rfl rfl (e_fn kn129 rfl rfl) ?_
         rintro v137 _ w rfl H
         replace H := H.p8
         replace H := H.p8
         replace H := H.p8
         replace H := H.p8
         replace H := H.p8
         replace H := H.p8
         replace H := H.p8
         replace H := H.p8
         replace H : Hd _ _ _ [blk b69 [.int .i64 a51, .int .i64 a52, .int .i64 a53, .int .i64 a54, .int .i64 a55, .slice A60 se57.length c61, .slice A62 pr59.length c63] 37, osl (kHd kPair) (.slice A43 J34.us.length c44) J34.us, osl kIns vM36 J34.map, osl kIns vC37 J34.comb, osl kIns vR38 J34.red, osl (kInt .i64) vK39 J34.marks, prsS (R.g) hv, stgI 253 b41 [], osl (kInt .i64) v137 se57, blk b42 (redC (.slice A43 J34.us.length c44) vM36 vC37 vR38 vK39 J34 C.w C.t C.o p ep R.g hv b41 vs) 185, osl (kHd (kInt .i64)) vs us] [rsl (kHd kPair) (.slice A1 C.J.us.length c2) C.J.us, rsl kIns (.slice A6 C.J.map.length c7) C.J.map, rsl kIns (.slice A11 C.J.comb.length c12) C.J.comb, rsl kIns (.slice A16 C.J.red.length c17) C.J.red, rsl (kInt .i64) (.slice A21 C.J.marks.length c22) C.J.marks, rsl kRec (.slice A26 recs.length c27) recs] := H
         refine d_back ⟨_, H⟩ ?_
         refine d_both rfl rfl ?_ ?_
         ·refine s_val rfl rfl (r_ld rfl ty144 rfl (H.cellI 9 rfl rfl)) ?_
          replace H := H.p7
          replace H := H.p7
          replace H := H.p7
          replace H := H.p7
          replace H := H.p7
          replace H := H.p7
          replace H := H.p7
          replace H := H.p7
          refine d_back ⟨_, H⟩ (d_main rfl ?_)
          obtain ⟨A139, c140, rfl, hc141, hm142, hp143⟩ := H.fA 8 rfl
          refine s_bsl (parts := [(0, .tmp 76)]) (vs := [.slice A139 se57.length c140]) (cs := [.slice A139 se57.length c140]) rfl rfl rfl sl144 zr24 rfl (by decide) (by decide) rfl rfl H (fun b138 w H => ?_)
          replace H := H.p8
          replace H := H.p8
          replace H := H.p8
          replace H := H.p8
          replace H := H.p8
          replace H := H.p8
          replace H := H.p8
          replace H := H.p8
          replace H : Hd _ _ _ [blk b69 [.int .i64 a51, .int .i64 a52, .int .i64 a53, .int .i64 a54, .int .i64 a55, .slice A60 se57.length c61, .slice A62 pr59.length c63] 37, osl (kHd kPair) (.slice A43 J34.us.length c44) J34.us, osl kIns vM36 J34.map, osl kIns vC37 J34.comb, osl kIns vR38 J34.red, osl (kInt .i64) vK39 J34.marks, prsS (R.g) hv, stgI 253 b41 [], blk b138 [.slice A139 se57.length c140] 24, osl (kInt .i64) (.slice A139 se57.length c140) se57, blk b42 (redC (.slice A43 J34.us.length c44) vM36 vC37 vR38 vK39 J34 C.w C.t C.o p ep R.g hv b41 vs) 185, osl (kHd (kInt .i64)) vs us] [rsl (kHd kPair) (.slice A1 C.J.us.length c2) C.J.us, rsl kIns (.slice A6 C.J.map.length c7) C.J.map, rsl kIns (.slice A11 C.J.comb.length c12) C.J.comb, rsl kIns (.slice A16 C.J.red.length c17) C.J.red, rsl (kInt .i64) (.slice A21 C.J.marks.length c22) C.J.marks, rsl kRec (.slice A26 recs.length c27) recs] := H
          refine d_back ⟨_, H⟩ (d_main rfl ?_)
          replace H := H.pick 11 rfl
          replace H := H.pick 10 rfl
          replace H := H.pick 10 rfl
          replace H := H.p2
          refine s_appH rfl rfl rfl sl144 zr24 rfl (by decide) rfl rfl H (by first | omega | (simp only [List.length_append, List.length_cons, List.length_nil]; omega)) (fun v144 w H => ?_)
          replace H := H.p8
          replace H := H.p8
          replace H := H.p8
          replace H := H.p8
          replace H := H.p8
          replace H := H.p8
          replace H := H.p8
          replace H := H.p8
          replace H : Hd _ _ _ [blk b69 [.int .i64 a51, .int .i64 a52, .int .i64 a53, .int .i64 a54, .int .i64 a55, .slice A60 se57.length c61, .slice A62 pr59.length c63] 37, osl (kHd kPair) (.slice A43 J34.us.length c44) J34.us, osl kIns vM36 J34.map, osl kIns vC37 J34.comb, osl kIns vR38 J34.red, osl (kInt .i64) vK39 J34.marks, prsS (R.g) hv, stgI 253 b41 [], osl (kHd (kInt .i64)) v144 (us ++ [((.slice A139 se57.length c140 : Value), se57)]), blk b42 (redC (.slice A43 J34.us.length c44) vM36 vC37 vR38 vK39 J34 C.w C.t C.o p ep R.g hv b41 vs) 185] [rsl (kHd kPair) (.slice A1 C.J.us.length c2) C.J.us, rsl kIns (.slice A6 C.J.map.length c7) C.J.map, rsl kIns (.slice A11 C.J.comb.length c12) C.J.comb, rsl kIns (.slice A16 C.J.red.length c17) C.J.red, rsl (kInt .i64) (.slice A21 C.J.marks.length c22) C.J.marks, rsl kRec (.slice A26 recs.length c27) recs] := H
          refine d_back ⟨_, H⟩ (d_val rfl rfl rfl (fun w ⟨Ar, H⟩ => r_nilP rfl rfl) (d_val rfl rfl rfl (fun w ⟨Ar, H⟩ => r_fa rfl fo185_5 rfl) (d_main rfl ?_)))
          obtain ⟨A145, c146, rfl, hc147, hm148, hp149⟩ := H.fA 8 rfl
          replace H := H.p9
          refine s_st rfl rfl rfl ty144 rfl rfl H rfl (Nat.le_of_ble_eq_true rfl) (fun u hu => by simp [Value.cells] at hu; subst hu; rfl) (fun w H => ?_)
          replace H : Hd _ _ _ [blk b42 (redC (.slice A43 J34.us.length c44) vM36 vC37 vR38 vK39 J34 C.w C.t C.o p ep R.g hv b41 (.slice A145 ((us ++ [((.slice A139 se57.length c140 : Value), se57)]).length) c146)) 185, blk b69 [.int .i64 a51, .int .i64 a52, .int .i64 a53, .int .i64 a54, .int .i64 a55, .slice A60 se57.length c61, .slice A62 pr59.length c63] 37, osl (kHd kPair) (.slice A43 J34.us.length c44) J34.us, osl kIns vM36 J34.map, osl kIns vC37 J34.comb, osl kIns vR38 J34.red, osl (kInt .i64) vK39 J34.marks, prsS (R.g) hv, stgI 253 b41 [], osl (kHd (kInt .i64)) (.slice A145 ((us ++ [((.slice A139 se57.length c140 : Value), se57)]).length) c146) (us ++ [((.slice A139 se57.length c140 : Value), se57)])] [rsl (kHd kPair) (.slice A1 C.J.us.length c2) C.J.us, rsl kIns (.slice A6 C.J.map.length c7) C.J.map, rsl kIns (.slice A11 C.J.comb.length c12) C.J.comb, rsl kIns (.slice A16 C.J.red.length c17) C.J.red, rsl (kInt .i64) (.slice A21 C.J.marks.length c22) C.J.marks, rsl kRec (.slice A26 recs.length c27) recs] := H
          replace H := H.p8
          replace H := H.p8
          replace H := H.p8
          replace H := H.p8
          replace H := H.p8
          replace H := H.p8
          replace H := H.p8
          replace H := H.p8
          refine d_back ⟨_, H⟩ (d_nil (q_blockN (q_then (c_reg (s_val rfl rfl (r_add (z := ((k + 1 : Nat) : Int)) rfl rfl rfl (by rw [w64 (by omega) (by omega)]; omega)) (s_1 rfl (s_nil ?_)))))))
          have hpart : (Rec.p (⟨a51, a52, a53, a54, a55, .slice A60 se57.length c61, se57, .slice A62 pr59.length c63, pr59⟩ : Rec)).part = R.part := by rw [hRp]; exact Classical.not_not.1 h70
          have hR2 := newR_take hR hx50 (recIn_s hpart h123)
          replace H := H.p7
          replace H := H.p9
          replace H := H.p8
          replace H := H.p8
          replace H := H.p8
          replace H := H.p8
          replace H := H.p8
          replace H := H.p8
          replace H := H.p9
          replace H := H.k9
          replace H : Hd _ _ _ [blk b42 (redC (.slice A43 J34.us.length c44) vM36 vC37 vR38 vK39 J34 C.w C.t C.o p ep (({ R with sets := R.sets ++ [se57] } : Red).g) hv b41 (.slice A145 ((us ++ [((.slice A139 se57.length c140 : Value), se57)]).length) c146)) 185, osl (kHd kPair) (.slice A43 J34.us.length c44) J34.us, osl kIns vM36 J34.map, osl kIns vC37 J34.comb, osl kIns vR38 J34.red, osl (kInt .i64) vK39 J34.marks, prsS (({ R with sets := R.sets ++ [se57] } : Red).g) hv, osl (kHd (kInt .i64)) (.slice A145 ((us ++ [((.slice A139 se57.length c140 : Value), se57)]).length) c146) (us ++ [((.slice A139 se57.length c140 : Value), se57)]), stgI 253 b41 []] [rsl (kHd kPair) (.slice A1 C.J.us.length c2) C.J.us, rsl kIns (.slice A6 C.J.map.length c7) C.J.map, rsl kIns (.slice A11 C.J.comb.length c12) C.J.comb, rsl kIns (.slice A16 C.J.red.length c17) C.J.red, rsl (kInt .i64) (.slice A21 C.J.marks.length c22) C.J.marks, rsl kRec (.slice A26 recs.length c27) recs] := H
          replace H := H.p8
          replace H := H.p8
          replace H := H.p8
          replace H := H.p8
          replace H := H.p8
          replace H := H.p8
          replace H := H.p8
          replace H := H.p8
          replace H := H.p8
          exact q_round (s := (k, R, hv, undef, us)) (k + 1, ({ R with sets := R.sets ++ [se57] } : Red), hv, .slice A145 ((us ++ [((.slice A139 se57.length c140 : Value), se57)]).length) c146, us ++ [((.slice A139 se57.length c140 : Value), se57)]) ⟨rfl, rfl, rfl, rfl, rfl, rfl, rfl, trivial⟩ ⟨H, hR2, hRp, by (try dsimp only); rw [List.map_append, hus]; rfl, by (try dsimp only); omega, by (try dsimp only); rw [List.length_append]; simp only [List.length_cons, List.length_nil]; omega⟩ (by (try dsimp only); omega)
         ·obtain ⟨A151, c152, rfl, hc153, hm154, hp155⟩ := H.fA 8 rfl
          refine s_bsl (parts := [(0, .tmp 76)]) (vs := [.slice A151 se57.length c152]) (cs := [.slice A151 se57.length c152]) rfl rfl rfl sl144 zr24 rfl (by decide) (by decide) rfl rfl H (fun b150 w H => ?_)
          replace H := H.p8
          replace H := H.p8
          replace H := H.p8
          replace H := H.p8
          replace H := H.p8
          replace H := H.p8
          replace H := H.p8
          replace H := H.p8
          replace H : Hd _ _ _ [blk b69 [.int .i64 a51, .int .i64 a52, .int .i64 a53, .int .i64 a54, .int .i64 a55, .slice A60 se57.length c61, .slice A62 pr59.length c63] 37, osl (kHd kPair) (.slice A43 J34.us.length c44) J34.us, osl kIns vM36 J34.map, osl kIns vC37 J34.comb, osl kIns vR38 J34.red, osl (kInt .i64) vK39 J34.marks, prsS (R.g) hv, stgI 253 b41 [], blk b150 [.slice A151 se57.length c152] 24, osl (kInt .i64) (.slice A151 se57.length c152) se57, blk b42 (redC (.slice A43 J34.us.length c44) vM36 vC37 vR38 vK39 J34 C.w C.t C.o p ep R.g hv b41 vs) 185, osl (kHd (kInt .i64)) vs us] [rsl (kHd kPair) (.slice A1 C.J.us.length c2) C.J.us, rsl kIns (.slice A6 C.J.map.length c7) C.J.map, rsl kIns (.slice A11 C.J.comb.length c12) C.J.comb, rsl kIns (.slice A16 C.J.red.length c17) C.J.red, rsl (kInt .i64) (.slice A21 C.J.marks.length c22) C.J.marks, rsl kRec (.slice A26 recs.length c27) recs] := H
          refine d_back ⟨_, H⟩ (d_main rfl (s_val rfl rfl (r_ld rfl ty144 rfl (H.cellI 10 rfl rfl)) ?_))
          replace H := H.p7
          replace H := H.p7
          replace H := H.p7
          replace H := H.p7
          replace H := H.p7
          replace H := H.p7
          replace H := H.p7
          replace H := H.p7
          refine d_back ⟨_, H⟩ (d_main rfl ?_)
          replace H := H.pick 11 rfl
          replace H := H.pick 10 rfl
          replace H := H.pick 10 rfl
          replace H := H.p2
          refine s_appH rfl rfl rfl sl144 zr24 rfl (by decide) rfl rfl H (by first | omega | (simp only [List.length_append, List.length_cons, List.length_nil]; omega)) (fun v156 w H => ?_)
          replace H := H.p8
          replace H := H.p8
          replace H := H.p8
          replace H := H.p8
          replace H := H.p8
          replace H := H.p8
          replace H := H.p8
          replace H := H.p8
          replace H : Hd _ _ _ [blk b69 [.int .i64 a51, .int .i64 a52, .int .i64 a53, .int .i64 a54, .int .i64 a55, .slice A60 se57.length c61, .slice A62 pr59.length c63] 37, osl (kHd kPair) (.slice A43 J34.us.length c44) J34.us, osl kIns vM36 J34.map, osl kIns vC37 J34.comb, osl kIns vR38 J34.red, osl (kInt .i64) vK39 J34.marks, prsS (R.g) hv, stgI 253 b41 [], osl (kHd (kInt .i64)) v156 (us ++ [((.slice A151 se57.length c152 : Value), se57)]), blk b42 (redC (.slice A43 J34.us.length c44) vM36 vC37 vR38 vK39 J34 C.w C.t C.o p ep R.g hv b41 vs) 185] [rsl (kHd kPair) (.slice A1 C.J.us.length c2) C.J.us, rsl kIns (.slice A6 C.J.map.length c7) C.J.map, rsl kIns (.slice A11 C.J.comb.length c12) C.J.comb, rsl kIns (.slice A16 C.J.red.length c17) C.J.red, rsl (kInt .i64) (.slice A21 C.J.marks.length c22) C.J.marks, rsl kRec (.slice A26 recs.length c27) recs] := H
          refine d_back ⟨_, H⟩ (d_val rfl rfl rfl (fun w ⟨Ar, H⟩ => r_nilP rfl rfl) (d_val rfl rfl rfl (fun w ⟨Ar, H⟩ => r_fa rfl fo185_5 rfl) (d_main rfl ?_)))
          obtain ⟨A157, c158, rfl, hc159, hm160, hp161⟩ := H.fA 8 rfl
          replace H := H.p9
          refine s_st rfl rfl rfl ty144 rfl rfl H rfl (Nat.le_of_ble_eq_true rfl) (fun u hu => by simp [Value.cells] at hu; subst hu; rfl) (fun w H => ?_)
          replace H : Hd _ _ _ [blk b42 (redC (.slice A43 J34.us.length c44) vM36 vC37 vR38 vK39 J34 C.w C.t C.o p ep R.g hv b41 (.slice A157 ((us ++ [((.slice A151 se57.length c152 : Value), se57)]).length) c158)) 185, blk b69 [.int .i64 a51, .int .i64 a52, .int .i64 a53, .int .i64 a54, .int .i64 a55, .slice A60 se57.length c61, .slice A62 pr59.length c63] 37, osl (kHd kPair) (.slice A43 J34.us.length c44) J34.us, osl kIns vM36 J34.map, osl kIns vC37 J34.comb, osl kIns vR38 J34.red, osl (kInt .i64) vK39 J34.marks, prsS (R.g) hv, stgI 253 b41 [], osl (kHd (kInt .i64)) (.slice A157 ((us ++ [((.slice A151 se57.length c152 : Value), se57)]).length) c158) (us ++ [((.slice A151 se57.length c152 : Value), se57)])] [rsl (kHd kPair) (.slice A1 C.J.us.length c2) C.J.us, rsl kIns (.slice A6 C.J.map.length c7) C.J.map, rsl kIns (.slice A11 C.J.comb.length c12) C.J.comb, rsl kIns (.slice A16 C.J.red.length c17) C.J.red, rsl (kInt .i64) (.slice A21 C.J.marks.length c22) C.J.marks, rsl kRec (.slice A26 recs.length c27) recs] := H
          replace H := H.p8
          replace H := H.p8
          replace H := H.p8
          replace H := H.p8
          replace H := H.p8
          replace H := H.p8
          replace H := H.p8
          replace H := H.p8
          refine d_back ⟨_, H⟩ (d_nil (q_blockN (q_then (c_reg (s_val rfl rfl (r_add (z := ((k + 1 : Nat) : Int)) rfl rfl rfl (by rw [w64 (by omega) (by omega)]; omega)) (s_1 rfl (s_nil ?_)))))))
          have hpart : (Rec.p (⟨a51, a52, a53, a54, a55, .slice A60 se57.length c61, se57, .slice A62 pr59.length c63, pr59⟩ : Rec)).part = R.part := by rw [hRp]; exact Classical.not_not.1 h70
          have hR2 := newR_take hR hx50 (recIn_s hpart h123)
          replace H := H.p7
          replace H := H.p9
          replace H := H.p8
          replace H := H.p8
          replace H := H.p8
          replace H := H.p8
          replace H := H.p8
          replace H := H.p8
          replace H := H.p9
          replace H := H.k9
          replace H : Hd _ _ _ [blk b42 (redC (.slice A43 J34.us.length c44) vM36 vC37 vR38 vK39 J34 C.w C.t C.o p ep (({ R with sets := R.sets ++ [se57] } : Red).g) hv b41 (.slice A157 ((us ++ [((.slice A151 se57.length c152 : Value), se57)]).length) c158)) 185, osl (kHd kPair) (.slice A43 J34.us.length c44) J34.us, osl kIns vM36 J34.map, osl kIns vC37 J34.comb, osl kIns vR38 J34.red, osl (kInt .i64) vK39 J34.marks, prsS (({ R with sets := R.sets ++ [se57] } : Red).g) hv, osl (kHd (kInt .i64)) (.slice A157 ((us ++ [((.slice A151 se57.length c152 : Value), se57)]).length) c158) (us ++ [((.slice A151 se57.length c152 : Value), se57)]), stgI 253 b41 []] [rsl (kHd kPair) (.slice A1 C.J.us.length c2) C.J.us, rsl kIns (.slice A6 C.J.map.length c7) C.J.map, rsl kIns (.slice A11 C.J.comb.length c12) C.J.comb, rsl kIns (.slice A16 C.J.red.length c17) C.J.red, rsl (kInt .i64) (.slice A21 C.J.marks.length c22) C.J.marks, rsl kRec (.slice A26 recs.length c27) recs] := H
          replace H := H.p8
          replace H := H.p8
          replace H := H.p8
          replace H := H.p8
          replace H := H.p8
          replace H := H.p8
          replace H := H.p8
          replace H := H.p8
          replace H := H.p8
          exact q_round (s := (k, R, hv, undef, us)) (k + 1, ({ R with sets := R.sets ++ [se57] } : Red), hv, .slice A157 ((us ++ [((.slice A151 se57.length c152 : Value), se57)]).length) c158, us ++ [((.slice A151 se57.length c152 : Value), se57)]) ⟨rfl, rfl, rfl, rfl, rfl, rfl, rfl, trivial⟩ ⟨H, hR2, hRp, by (try dsimp only); rw [List.map_append, hus]; rfl, by (try dsimp only); omega, by (try dsimp only); rw [List.length_append]; simp only [List.length_cons, List.length_nil]; omega⟩ (by (try dsimp only); omega)
       ·refine c_skip (q_blockN (q_then (c_reg (s_val rfl rfl (r_add (z := ((k + 1 : Nat) : Int)) rfl rfl rfl (by rw [w64 (by omega) (by omega)]; omega)) (s_1 rfl (s_nil ?_))))))
        have hpart : (Rec.p (⟨a51, a52, a53, a54, a55, .slice A60 se57.length c61, se57, .slice A62 pr59.length c63, pr59⟩ : Rec)).part = R.part := by rw [hRp]; exact Classical.not_not.1 h70
        have hR2 := newR_take hR hx50 (recIn_no hpart (fun h => h121 h.1) h123)
        replace H := H.p9
        replace H := H.p9
        replace H := H.p9
        replace H := H.p9
        replace H := H.p9
        replace H := H.p9
        replace H := H.p9
        replace H := H.p9
        replace H := H.p9
        replace H := H.k9
        replace H := H.p8
        replace H := H.p8
        replace H := H.p8
        replace H := H.p8
        replace H := H.p8
        replace H := H.p8
        replace H := H.p8
        replace H := H.p8
        replace H := H.p8
        exact q_round (s := (k, R, hv, undef, us)) (k + 1, R, hv, vs, us) ⟨rfl, rfl, rfl, rfl, rfl, rfl, rfl, trivial⟩ ⟨H, hR2, hRp, by (try dsimp only); exact hus, by (try dsimp only); omega, by (try dsimp only); omega⟩ (by (try dsimp only); omega)
   ·refine c_exit (q_thenE (q_thenE (q_blockE (q_then (c_seq (c_reg (s_k 3 rfl (s_nil (q_then (c_ret (q_ret2 rfl rfl rfl ?_)))))))))))
    have hkk : R = newR J34.us.length p ep (recs.map Rec.p) := by rw [hR, List.take_of_length_le (by omega)]
    clear hR
    subst hkk
    replace H := H.p8
    replace H := H.p8
    replace H := H.p8
    replace H := H.p8
    replace H := H.p8
    replace H := H.p8
    replace H := H.p8
    replace H := H.p8
    replace H := H.p8
    replace H : Hd _ _ _ [blk b42 (redC (.slice A43 J34.us.length c44) vM36 vC37 vR38 vK39 J34 C.w C.t C.o p ep ((newR J34.us.length p ep (recs.map Rec.p)).g) hv b41 vs) 185, osl (kHd kPair) (.slice A43 J34.us.length c44) J34.us, osl kIns vM36 J34.map, osl kIns vC37 J34.comb, osl kIns vR38 J34.red, osl (kInt .i64) vK39 J34.marks, prsS ((newR J34.us.length p ep (recs.map Rec.p)).g) hv, osl (kHd (kInt .i64)) vs us, stgI 253 b41 []] [rsl (kHd kPair) (.slice A1 C.J.us.length c2) C.J.us, rsl kIns (.slice A6 C.J.map.length c7) C.J.map, rsl kIns (.slice A11 C.J.comb.length c12) C.J.comb, rsl kIns (.slice A16 C.J.red.length c17) C.J.red, rsl (kInt .i64) (.slice A21 C.J.marks.length c22) C.J.marks, rsl kRec (.slice A26 recs.length c27) recs] := H
    replace H := H.p8
    replace H := H.p8
    replace H := H.p8
    replace H := H.p8
    replace H := H.p8
    replace H := H.p8
    replace H := H.p8
    replace H := H.p8
    replace H := H.p8
    replace H := H.p8
    replace H := H.p8
    replace H := H.p8
    replace H := H.p8
    replace H := H.p8
    replace H := H.p8
    replace H := H.p8
    replace H := H.p8
    replace H := H.p8
    exact fin ⟨b42, (.slice A43 J34.us.length c44), vM36, vC37, vR38, vK39, J34, hv, b41, vs, us, rfl, rfl, hsj, hus⟩ H
end Go.Proofs.YthgehekecfpikaaGreatDoor.X

set_option linter.unusedVariables false
namespace Go.Proofs.YthgehekecfpikaaGreatDoor.X
open Go
section
variable {w : World} {F : Foot}
/-- Cells of records, and their slices read: the records read. -/
theorem rec_of_flat {v : Value} {us : List Rec} (h : (rsl kRecF v (us.map toF)).P w F) (hu : ∀ r ∈ us, (rsl (kInt .i64) r.sv r.set).P w F ∧ (rsl kPair r.pv r.pairs).P w F) : (rsl kRec v us).P w F := by
  obtain ⟨A, m, c, e, h1, h2, h3, cs, h4, h5⟩ := h
  refine ⟨A, m, c, e, by simpa using h1, h2, h3, cs, h4, ?_⟩
  have hcs : cs = (us.map toF).flatMap encRecF := RepsR.flat_eq.1 h5
  subst hcs
  clear h5 h4 h1 e
  induction us with
  | nil => rfl
  | cons r us ih =>
    obtain ⟨g1, g2⟩ := hu r (List.mem_cons_self ..)
    obtain ⟨A1, c1, e1, _⟩ := rsl_form g1
    obtain ⟨A2, c2, e2, _⟩ := rsl_form g2
    refine ⟨encRecF (toF r), (us.map toF).flatMap encRecF, rfl, ⟨?_, g1, g2⟩, ih fun q hq => hu q (List.mem_cons_of_mem _ hq)⟩
    simp [encRec, encRecF, toF, hdrOf, e1, e2]
def nilV : Value := .slice none 0 0
/-- The record of a split's merged pairs. -/
def ordAt (p : Int) (ps : List (Value × List Pair)) (s : Nat) : Rec :=
  match ps[s]? with
  | some x => ⟨4, p, (s : Int), 1, 0, nilV, [], x.1, x.2⟩
  | none => ⟨4, p, (s : Int), 1, 0, nilV, [], nilV, []⟩
def ordR (p : Int) (ps : List (Value × List Pair)) (n : Nat) : List Rec := (List.range n).map (ordAt p ps)
def ordP (ps : List (Value × List Pair)) (s : Nat) : List Pair := match ps[s]? with
  | some x => x.2
  | none => []
theorem ordR_succ (p : Int) (ps : List (Value × List Pair)) (n : Nat) : ordR p ps (n + 1) = ordR p ps n ++ [ordAt p ps n] := by
  unfold ordR; rw [List.range_succ, List.map_append]; rfl
theorem ordR_len (p : Int) (ps : List (Value × List Pair)) (n : Nat) : (ordR p ps n).length = n := by simp [ordR]
theorem ordAt_F {p : Int} {ps : List (Value × List Pair)} {s : Nat} {v : Value} {x : List Pair} (h : ps[s]? = some (v, x)) : toF (ordAt p ps s) = ⟨4, p, (s : Int), 1, 0, ⟨none, 0, 0⟩, hdrOf v⟩ := by
  unfold ordAt; rw [h]; rfl
theorem ordAt_F0 {p : Int} {ps : List (Value × List Pair)} {s : Nat} (h : ¬ s < ps.length) : toF (ordAt p ps s) = ⟨4, p, (s : Int), 1, 0, ⟨none, 0, 0⟩, ⟨none, 0, 0⟩⟩ := by
  unfold ordAt; rw [List.getElem?_eq_none (by omega)]; rfl
theorem ordF_succ {p : Int} {ps : List (Value × List Pair)} {n : Nat} {f : RecF} (h : toF (ordAt p ps n) = f) : (ordR p ps (n + 1)).map toF = (ordR p ps n).map toF ++ [f] := by
  rw [ordR_succ, List.map_append, ← h]; rfl
theorem ordB_succ {p : Int} {ps : List (Value × List Pair)} {n : Nat} {f : RecF} (h : toF (ordAt p ps n) = f) : ((ordR p ps (n + 1)).reverse).map toF = [f] ++ ((ordR p ps n).reverse).map toF := by
  rw [ordR_succ, List.reverse_append, ← h]; rfl
theorem ordR_p (p : Int) (ps : List (Value × List Pair)) (n : Nat) : (ordR p ps n).map Rec.p = allR p (ordP ps) n := by
  unfold ordR allR
  rw [List.map_map]
  refine List.map_congr_left fun s _ => ?_
  simp only [Function.comp, ordAt, ordP, Rec.p]
  cases ps[s]? <;> rfl
theorem ord_rd {p : Int} {ps : List (Value × List Pair)} {n : Nat} {v : Value} (h : (rsl (kHd kPair) v ps).P w F) : ∀ r ∈ ordR p ps n, (rsl (kInt .i64) r.sv r.set).P w F ∧ (rsl kPair r.pv r.pairs).P w F := by
  intro r hr
  obtain ⟨s, _, rfl⟩ := List.mem_map.1 hr
  obtain ⟨_, _, _, _, _, _, _, _, _, h5⟩ := h
  unfold ordAt
  cases e : ps[s]? with
  | none => exact ⟨rsl_nil _ _ _ trivial (by decide), rsl_nil _ _ _ trivial (by decide)⟩
  | some x => exact ⟨rsl_nil _ _ _ trivial (by decide), hd_all h5 _ (at_mem e)⟩
theorem ord_small {p : Int} {ps : List (Value × List Pair)} {n : Nat} {b : Nat} (hn : n ≤ 100) (hp : ∀ s v x, s < n → ps[s]? = some (v, x) → x.length ≤ b) : ∀ r ∈ ordR p ps n, (In64 r.sp ∧ r.set.length ≤ 1000) ∧ r.pairs.length ≤ b := by
  intro r hr
  obtain ⟨s, hs, rfl⟩ := List.mem_map.1 hr
  have hs := List.mem_range.1 hs
  unfold ordAt
  cases e : ps[s]? with
  | none => exact ⟨⟨⟨by show (-9223372036854775808 : Int) ≤ (s : Int); omega, by show (s : Int) ≤ 9223372036854775807; omega⟩, by simp⟩, by simp⟩
  | some x => exact ⟨⟨⟨by show (-9223372036854775808 : Int) ≤ (s : Int); omega, by show (s : Int) ≤ 9223372036854775807; omega⟩, by simp⟩, hp s x.1 x.2 hs e⟩
theorem ord_next {ps : List (Value × List Pair)} {s b : Nat} {v : Value} {x : List Pair} (h : ∀ i v x, i < s → ps[i]? = some (v, x) → x.length ≤ b) (hx : ps[s]? = some (v, x)) (hb : x.length ≤ b) : ∀ i v x, i < s + 1 → ps[i]? = some (v, x) → x.length ≤ b := by
  intro i v' x' hi e
  rcases Nat.lt_or_ge i s with h1 | h1
  · exact h i v' x' h1 e
  · obtain rfl : i = s := by omega
    rw [hx] at e
    cases e
    exact hb
theorem ord_next0 {ps : List (Value × List Pair)} {s b : Nat} (h : ∀ i v x, i < s → ps[i]? = some (v, x) → x.length ≤ b) (hs : ¬ s < ps.length) : ∀ i v x, i < s + 1 → ps[i]? = some (v, x) → x.length ≤ b := by
  intro i v' x' hi e
  have := lt_of_some e
  exact h i v' x' (by omega) e
/-- Records, of which some are left out. -/
def moreR (p : Int) (rs : List Rec) : List Rec := rs.filter fun r => decide (r.part ≠ p ∨ r.kind ≠ 4)
theorem moreR_yes {p : Int} {rs : List Rec} {k : Nat} {x : Rec} (hx : rs[k]? = some x) (h : x.part ≠ p ∨ x.kind ≠ 4) : moreR p (rs.take (k + 1)) = moreR p (rs.take k) ++ [x] := by
  unfold moreR
  rw [take_snoc hx, List.filter_append]
  congr 1
  exact List.filter_cons_of_pos (p := fun r : Rec => decide (r.part ≠ p ∨ r.kind ≠ 4)) (decide_eq_true h)
theorem moreR_no {p : Int} {rs : List Rec} {k : Nat} {x : Rec} (hx : rs[k]? = some x) (h : ¬ (x.part ≠ p ∨ x.kind ≠ 4)) : moreR p (rs.take (k + 1)) = moreR p (rs.take k) := by
  unfold moreR
  rw [take_snoc hx, List.filter_append]
  have e : [x].filter (fun r : Rec => decide (r.part ≠ p ∨ r.kind ≠ 4)) = [] := List.filter_cons_of_neg (p := fun r : Rec => decide (r.part ≠ p ∨ r.kind ≠ 4)) (by rw [decide_eq_false h]; decide)
  rw [e, List.append_nil]
theorem moreR_len (p : Int) (rs : List Rec) : (moreR p rs).length ≤ rs.length := List.length_filter_le _ _
theorem more_rd {p : Int} {rs : List Rec} {v : Value} (h : (rsl kRec v rs).P w F) : ∀ r ∈ moreR p rs, (rsl (kInt .i64) r.sv r.set).P w F ∧ (rsl kPair r.pv r.pairs).P w F := by
  intro r hr
  obtain ⟨i, hi⟩ := List.getElem?_of_mem (List.mem_filter.1 hr).1
  obtain ⟨A, c, rfl, _⟩ := rsl_form h
  exact (rec_at h hi).2.2
theorem more_not {p : Int} {rs : List Rec} : ∀ x ∈ (moreR p rs).map Rec.p, x.part ≠ p ∨ x.kind ≠ 4 := by
  intro x hx
  obtain ⟨r, hr, rfl⟩ := List.mem_map.1 hx
  exact of_decide_eq_true (List.mem_filter.1 hr).2
end
theorem SameJ.out {A B : Job} (h : SameJ A B) (D : Dig) (R : Red) : outR D A R = outR D B R := by
  unfold outR ofR
  rw [h.len, h.red, h.fuel]
theorem home_pos {C : Cf} {p : Int} (hC : mayC C) (h0 : 0 ≤ p) (h1 : p < C.J.parts) : homeC C p ≠ 0 := by
  have e : homeC C p = 1 + p.tmod C.w := if_neg (fun h => h.elim (fun h => h hC) (fun h => by omega))
  have := Int.tmod_nonneg C.w h0
  omega
theorem opens_config {P : Program} {t j i : TypeId}
    (hs : stOf P t = some [(j, 0, 9), (i, 9, 1), (i, 10, 1), (i, 11, 1)]) (hc : P.cellsOf t = 12) (hi : P.underlying i = some (.int .i64))
    {H : Type} (enc : TypeId × Value → H) (w : World) (fuel : Nat) (cs : List Value) (x : DataW H × List MemPlace) (h : DataW.trod enc P w 0 (fun _ => true) true fuel t cs = some x) :
    ∃ (js : List Value) (m : Nat) (y : DataW H × List MemPlace) (n1 n2 n3 : Int), cs = js ++ [.int .i64 n1, .int .i64 n2, .int .i64 n3] ∧ DataW.trod enc P w 0 (fun _ => true) true m j js = some y ∧ js.length = 9 ∧ (In64 n1 ∧ In64 n2 ∧ In64 n3) := by
  obtain ⟨hl, n, hf⟩ := open_st hs h
  rw [hc] at hl
  match cs, hl with
  | [c0, c1, c2, c3, c4, c5, c6, c7, c8, c9, c10, c11], _ =>
    obtain ⟨y0, g0⟩ := hf 0 _ _ _ rfl
    obtain ⟨y1, g1⟩ := hf 1 _ _ _ rfl
    obtain ⟨y2, g2⟩ := hf 2 _ _ _ rfl
    obtain ⟨y3, g3⟩ := hf 3 _ _ _ rfl
    obtain ⟨a1, r1, w1⟩ := opens_int hi enc w n _ _ g1
    obtain ⟨a2, r2, w2⟩ := opens_int hi enc w n _ _ g2
    obtain ⟨a3, r3, w3⟩ := opens_int hi enc w n _ _ g3
    have q1 : [c9] = [Value.int .i64 a1] := r1
    have q2 : [c10] = [Value.int .i64 a2] := r2
    have q3 : [c11] = [Value.int .i64 a3] := r3
    simp only [List.cons.injEq, and_true] at q1 q2 q3
    subst q1 q2 q3
    exact ⟨[c0, c1, c2, c3, c4, c5, c6, c7, c8], n, y0, a1, a2, a3, rfl, g0, rfl, w1, w2, w3⟩
end Go.Proofs.YthgehekecfpikaaGreatDoor.X

set_option linter.unusedVariables false
set_option linter.unusedSimpArgs false
namespace Go.Proofs.YthgehekecfpikaaGreatDoor.X
open Go
set_option maxHeartbeats 1000000 in
theorem sameInts_ok (v1 v2 : Value) (xs ys : List Int) :
    Cn Tryz.prog 33 [v1, v2] [] [rsl (kInt .i64) v1 xs, rsl (kInt .i64) v2 ys] (fun v Bs => v = .bool (decide (xs = ys)) ∧ Bs = []) := by
 intro w0 F0 H
 obtain ⟨A1, c2, rfl, hc3, hm4, hp5⟩ := H.fR 0 rfl
 obtain ⟨A6, c7, rfl, hc8, hm9, hp10⟩ := H.fR 1 rfl
 refine enter (args := [.slice A1 xs.length c2, .slice A6 ys.length c7]) Tryz.func33 rfl rfl (Nat.le_of_ble_eq_true rfl) (c_seq (c_reg (s_1 rfl (s_nil (q_then ?_)))))
 replace H : Hd _ _ _ [] [rsl (kInt .i64) (.slice A1 xs.length c2) xs, rsl (kInt .i64) (.slice A6 ys.length c7) ys] := H
 refine c_seq (c_seq (c_reg (s_1 rfl (s_val rfl rfl (r_lenL rfl un24 rfl) (s_1 rfl (s_val rfl rfl (r_lenL rfl un24 rfl) (s_val rfl rfl (r_ne rfl rfl rfl) (s_nil (q_then ?_)))))))))
 refine c_dec (p := ((xs.length : Nat) : Int) ≠ ((ys.length : Nat) : Int)) rfl (fun h11 => ?_) (fun h11 => ?_)
 ·refine c_seq (c_reg (s_1 rfl (s_nil (q_then (c_ret (q_thenR (q_ret1 rfl rfl ?_)))))))
  have e : ¬ xs = ys := fun e => h11 (by rw [e])
  exact fin ⟨by rw [decide_eq_false e], rfl⟩ H
 ·refine c_skip (q_then (c_seq (c_seq (c_reg (s_1 rfl (s_nil (q_then (c_block ?_))))))))
  have hle : xs.length = ys.length := by omega
  refine c_loop (σ := Nat) (fun k => [(0, .slice A1 xs.length c2), (1, .slice A6 ys.length c7), (5, .int .i64 ((k : Nat) : Int))]) (fun k w => (Hd w0 F0 w [] [rsl (kInt .i64) (.slice A1 xs.length c2) xs, rsl (kInt .i64) (.slice A6 ys.length c7) ys]) ∧ (k ≤ xs.length) ∧ (xs.length = ys.length) ∧ (xs.take k = ys.take k)) (fun k => xs.length - k) 0 ⟨rfl, rfl, rfl, trivial⟩ ⟨H, by omega, hle, rfl⟩ ?_
  rintro k w ⟨H, hk, hle, ht⟩
  refine c_seq (c_seq (c_reg (s_k 2 rfl (s_val rfl rfl (r_lenL rfl un24 rfl) (s_val rfl rfl (r_lt rfl rfl rfl) (s_nil (q_then ?_)))))))
  refine c_dec (p := ((k : Nat) : Int) < ((xs.length : Nat) : Int)) rfl (fun h12 => ?_) (fun h12 => ?_)
  ·refine c_skip (q_then (c_seq (c_block (c_seq (c_draw mo (by kernel_rfl) H (u_k 2 rfl ?_))))))
   obtain ⟨x13, hx14⟩ : ∃ z9, xs[k]? = some z9 := ⟨_, List.getElem?_eq_getElem (show k < xs.length by omega)⟩
   have th15 := H.thR 0 rfl hx14
   refine u_val rfl rfl (fun w H => r_iaE (p := oOf A1 + k * 1) rfl sl24 rfl rfl (by omega) (by omega) th15 rfl) (u_val rfl rfl (fun w H => r_ld rfl ty3 rfl (H.elR 0 rfl hx14 (q := 0) rfl rfl)) (u_k 2 rfl ?_))
   obtain ⟨x16, hx17⟩ : ∃ z9, ys[k]? = some z9 := ⟨_, List.getElem?_eq_getElem (show k < ys.length by omega)⟩
   have th18 := H.thR 1 rfl hx17
   refine u_val rfl rfl (fun w H => r_iaE (p := oOf A6 + k * 1) rfl sl24 rfl rfl (by omega) (by omega) th18 rfl) (u_val rfl rfl (fun w H => r_ld rfl ty3 rfl (H.elR 1 rfl hx17 (q := 0) rfl rfl)) (u_val rfl rfl (fun w H => r_ne rfl rfl rfl) (u_end (fun w H => (q_then ?_)))))
   refine c_dec (p := x13 ≠ x16) rfl (fun h19 => ?_) (fun h19 => ?_)
   ·refine c_seq (c_reg (s_1 rfl (s_nil (q_then (c_ret (q_blockR (q_thenR (q_thenR (q_blockR (q_thenR (q_ret1 rfl rfl ?_)))))))))))
    have e : ¬ xs = ys := fun e => h19 (by rw [e, hx17] at hx14; exact (Option.some.inj hx14).symm)
    exact fin ⟨by rw [decide_eq_false e], rfl⟩ H
   ·refine c_skip (q_blockN (q_then (c_reg (s_1 rfl (s_val rfl rfl (r_add (z := ((k + 1 : Nat) : Int)) rfl rfl rfl (by rw [w64 (by omega) (by omega)]; omega)) (s_1 rfl (s_nil ?_)))))))
    have e : x13 = x16 := Classical.not_not.1 h19
    subst e
    exact q_round (s := k) (k + 1) ⟨rfl, rfl, rfl, trivial⟩ ⟨H, by omega, hle, take_more hx14 hx17 ht⟩ (by (try dsimp only); omega)
  ·refine c_exit (q_thenE (q_thenE (q_blockE (q_then (c_seq (c_reg (s_1 rfl (s_nil (q_then (c_ret (q_ret1 rfl rfl ?_)))))))))))
   have e : xs = ys := by rw [← take_all (xs := xs) (k := k) (by omega), ← take_all (xs := ys) (k := k) (by omega)]; exact ht
   exact fin ⟨by rw [decide_eq_true e], rfl⟩ H
set_option maxHeartbeats 1000000 in
theorem greatRecords_ok (vrs : Value) (rs : List Rec) (n : Int) :
    Cn Tryz.prog 20 [vrs, .int .i64 n] [] [rsl kRec vrs rs] (fun v Bs => v = .bool (greatR rs n) ∧ Bs = []) := by
 intro w0 F0 H
 obtain ⟨A1, c2, rfl, hc3, hm4, hp5⟩ := H.fR 0 rfl
 refine enter (args := [.slice A1 rs.length c2, .int .i64 n]) Tryz.func20 rfl rfl (Nat.le_of_ble_eq_true rfl) (c_seq (c_reg (s_1 rfl (s_nil (q_then ?_)))))
 replace H : Hd _ _ _ [] [rsl kRec (.slice A1 rs.length c2) rs] := H
 refine c_seq (c_seq (c_reg (s_1 rfl (s_nil (q_then (c_block (c_loop (σ := Nat) (fun k => [(0, .slice A1 rs.length c2), (1, .int .i64 n), (5, .int .i64 ((k : Nat) : Int))]) (fun k w => (Hd w0 F0 w [] [rsl kRec (.slice A1 rs.length c2) rs]) ∧ (k ≤ rs.length) ∧ (∀ r ∈ rs.take k, r.set.length ≤ 20 ∧ greatP r.pairs 50 = false)) (fun k => rs.length - k) 0 ⟨rfl, rfl, rfl, trivial⟩ ⟨H, by omega, by simp⟩ ?_)))))))
 rintro k w ⟨H, hk, hn⟩
 refine c_seq (c_seq (c_reg (s_k 2 rfl (s_val rfl rfl (r_lenL rfl un29 rfl) (s_val rfl rfl (r_lt rfl rfl rfl) (s_1 rfl ?_))))))
 refine s_dec (d := 10) (p := ((k : Nat) : Int) < ((rs.length : Nat) : Int)) rfl (fun h6 => ?_) (fun h6 => ?_)
 ·refine s_1 rfl (s_val rfl rfl (r_lenL rfl un29 rfl) (s_1 rfl (s_val rfl rfl (r_le rfl rfl rfl) (s_1 rfl (s_nil (q_then ?_))))))
  refine c_dec (p := ((rs.length : Nat) : Int) ≤ n) rfl (fun h7 => ?_) (fun h7 => ?_)
  ·refine c_skip (q_then (c_seq (c_block (c_seq (c_reg (s_k 2 rfl ?_))))))
   obtain ⟨⟨a10, a11, a12, a13, a14, sv15, se16, pv17, pr18⟩, hx9⟩ : ∃ z9, rs[k]? = some z9 := ⟨_, List.getElem?_eq_getElem (show k < rs.length by omega)⟩
   obtain ⟨A19, c20, A21, c22, rfl, rfl, m23, m24, m25, m26⟩ := H.nestRr 0 rfl hx9
   have th27 := H.thRr 0 rfl hx9
   refine s_val rfl rfl (r_iaE (p := oOf A1 + k * 7) rfl sl29 rfl rfl (by omega) (by omega) th27 rfl) (s_val rfl rfl (r_fa rfl fo37_5 rfl) (s_val rfl rfl (r_ld rfl ty24 rfl (H.elRr 0 rfl hx9 (q := 5) rfl rfl)) (s_val rfl rfl (r_lenL rfl un24 rfl) (s_val rfl rfl (r_gt rfl rfl rfl) (s_1 rfl ?_)))))
   refine s_dec (d := 25) (p := (20 : Int) < ((se16.length : Nat) : Int)) rfl (fun h28 => ?_) (fun h28 => ?_)
   ·exact s_k 7 rfl (s_nil (q_then (c_yes rfl (c_seq (c_reg (s_1 rfl (s_nil (q_then (c_ret (q_blockR (q_thenR (q_thenR (q_blockR (q_thenR (q_ret1 rfl rfl (fin ⟨congrArg Value.bool (greatR_hit hx9 (.inl (by (try dsimp only); omega))), rfl⟩ H))))))))))))))))
   ·refine s_k 2 rfl ?_
    have th29 := H.thRr 0 rfl hx9
    refine s_val rfl rfl (r_iaE (p := oOf A1 + k * 7) rfl sl29 rfl rfl (by omega) (by omega) th29 rfl) (s_val rfl rfl (r_fa rfl fo37_6 rfl) (s_val rfl rfl (r_ld rfl ty35 rfl (H.elRr 0 rfl hx9 (q := 6) rfl rfl)) (sc (greatPairs_ok (.slice A21 pr18.length c22) pr18 50) H (lX (fun F hA hR => rec_pairs (hR _ (List.mem_of_getElem? (i := 0) rfl)) hx9) l0) rfl rfl (e_fn kn23 rfl rfl) ?_)))
    rintro _ _ w ⟨rfl, rfl⟩ H
    refine s_1 rfl (s_nil (q_then ?_))
    refine c_cond (b := greatP pr18 50) rfl (fun h30 => ?_) (fun h30 => ?_)
    ·exact c_seq (c_reg (s_1 rfl (s_nil (q_then (c_ret (q_blockR (q_thenR (q_thenR (q_blockR (q_thenR (q_ret1 rfl rfl (fin ⟨congrArg Value.bool (greatR_hit hx9 (.inr h30)), rfl⟩ H))))))))))))
    ·exact c_skip (q_blockN (q_then (c_reg (s_1 rfl (s_val rfl rfl (r_add (z := ((k + 1 : Nat) : Int)) rfl rfl rfl (by rw [w64 (by omega) (by omega)]; omega)) (s_1 rfl (s_nil (q_round (s := k) (k + 1) ⟨rfl, rfl, rfl, trivial⟩ ⟨H, by (try dsimp only); omega, take_prop hn hx9 ⟨by (try dsimp only); omega, h30⟩⟩ (by (try dsimp only); omega)))))))))
  ·exact c_exit (q_thenE (q_thenE (q_blockE (q_then (c_seq (c_reg (s_1 rfl (s_val rfl rfl (r_lenL rfl un29 rfl) (s_1 rfl (s_val rfl rfl (r_gt rfl rfl rfl) (s_1 rfl (s_nil (q_then (c_ret (q_ret1 rfl rfl (fin ⟨congrArg Value.bool (greatR_end hn (by omega)), rfl⟩ H))))))))))))))))
 ·exact s_k 5 rfl (s_nil (q_then (c_no rfl (c_exit (q_thenE (q_thenE (q_blockE (q_then (c_seq (c_reg (s_1 rfl (s_val rfl rfl (r_lenL rfl un29 rfl) (s_1 rfl (s_val rfl rfl (r_gt rfl rfl rfl) (s_1 rfl (s_nil (q_then (c_ret (q_ret1 rfl rfl (fin ⟨congrArg Value.bool (greatR_end hn (by omega)), rfl⟩ H))))))))))))))))))))
set_option maxHeartbeats 1000000 in
theorem ended_ok (vxs : Value) (xs : List RecF) :
    Cn Tryz.prog 90 [vxs] [] [rsl kRecF vxs xs] (fun v Bs => v = .tuple #[.int .i64 ((endedL xs).1), .int .i64 ((endedL xs).2.1), .int .i64 ((endedL xs).2.2.1), .bool ((endedL xs).2.2.2)] ∧ Bs = []) := by
 intro w0 F0 H
 obtain ⟨A1, c2, rfl, hc3, hm4, hp5⟩ := H.fR 0 rfl
 refine enter (args := [.slice A1 xs.length c2]) Tryz.func90 rfl rfl (Nat.le_of_ble_eq_true rfl) (c_seq (c_reg (s_k 4 rfl (s_nil (q_then ?_)))))
 replace H : Hd _ _ _ [] [rsl kRecF (.slice A1 xs.length c2) xs] := H
 refine c_seq (c_seq (c_reg (s_1 rfl (s_val rfl rfl (r_lenL rfl un29 rfl) (s_1 rfl (s_nil (q_then (c_block (c_loop (σ := Nat) (fun k => [(8, .slice A1 xs.length c2), (9, .int .i64 ((xs.length : Nat) : Int)), (10, .int .i64 ((k : Nat) : Int))]) (fun k w => (Hd w0 F0 w [] [rsl kRecF (.slice A1 xs.length c2) xs]) ∧ (k ≤ xs.length) ∧ (endedL (xs.drop k) = endedL xs)) (fun k => xs.length - k) 0 ⟨rfl, rfl, rfl, trivial⟩ ⟨H, by (try dsimp only); omega, rfl⟩ ?_)))))))))
 rintro k w ⟨H, hk, hd⟩
 refine c_seq (c_reg (s_val rfl rfl (r_lt rfl rfl rfl) (s_nil (q_then (c_seq ?_)))))
 refine c_dec (p := ((k : Nat) : Int) < ((xs.length : Nat) : Int)) rfl (fun h6 => ?_) (fun h6 => ?_)
 ·refine c_skip (q_then (c_seq (c_block (c_seq (c_reg ?_)))))
  obtain ⟨x7, hx8⟩ : ∃ z9, xs[k]? = some z9 := ⟨_, List.getElem?_eq_getElem (show k < xs.length by omega)⟩
  have th9 := H.thR 0 rfl hx8
  refine s_val rfl rfl (r_iaE (p := oOf A1 + k * 7) rfl sl29 rfl rfl (by omega) (by omega) th9 rfl) (s_val rfl rfl (r_ldA (cs := [.int .i64 x7.kind, .int .i64 x7.part, .int .i64 x7.sp, .int .i64 x7.att, .int .i64 x7.why, .slice x7.hs.A x7.hs.n x7.hs.c, .slice x7.hp.A x7.hp.n x7.hp.c]) rfl ty37 rfl rfl (H.elsR 0 rfl hx8 rfl)) (s_alloc rfl rfl rfl zr37 H (fun b10 w H => (s_st rfl rfl rfl ty37 rfl rfl H rfl (Nat.le_of_ble_eq_true rfl) (fun u hu => by simp [Value.cells] at hu; rcases hu with rfl | rfl | rfl | rfl | rfl | rfl | rfl <;> rfl) (fun w H => ?_)))))
  replace H := H.h1 (A := blk b10 [.int .i64 x7.kind, .int .i64 x7.part, .int .i64 x7.sp, .int .i64 x7.att, .int .i64 x7.why, .slice x7.hs.A x7.hs.n x7.hs.c, .slice x7.hp.A x7.hp.n x7.hp.c] 37)
  refine s_nil (q_then (c_block (c_seq (c_reg (s_val rfl rfl (r_fa rfl fo37_0 rfl) (s_val rfl rfl (r_ld rfl ty3 rfl (H.cellI 0 rfl rfl)) (s_val rfl rfl (r_eq rfl rfl rfl) (s_1 rfl (s_nil (q_then ?_))))))))))
  refine c_dec (p := x7.kind = 2) rfl (fun h11 => ?_) (fun h11 => ?_)
  ·refine c_seq (c_reg (s_k 4 rfl (s_nil (q_then (c_ret (q_blockR (q_blockR (q_thenR (q_thenR (q_blockR (q_thenR (q_ret4 rfl rfl rfl rfl rfl ?_))))))))))))
   have e : endedL xs = (1, 0, 0, false) := by rw [← hd, drop_at hx8, endedL, if_pos h11]
   replace H := H.keep 0
   exact fin ⟨by rw [e], rfl⟩ H
  ·refine c_seq (c_reg (s_val rfl rfl (r_fa rfl fo37_0 rfl) (s_val rfl rfl (r_ld rfl ty3 rfl (H.cellI 0 rfl rfl)) (s_val rfl rfl (r_eq rfl rfl rfl) (s_1 rfl ?_)))))
   refine s_dec (d := 22) (p := x7.kind = 3) rfl (fun h12 => ?_) (fun h12 => ?_)
   ·refine s_val rfl rfl (r_fa rfl fo37_3 rfl) (s_val rfl rfl (r_ld rfl ty3 rfl (H.cellI 0 rfl rfl)) (s_val rfl rfl (r_eq rfl rfl rfl) (s_k 2 rfl (s_nil (q_then ?_)))))
    refine c_dec (p := x7.att = 1) rfl (fun h13 => ?_) (fun h13 => ?_)
    ·refine c_seq (c_draw mo (by kernel_rfl) H (u_val rfl rfl (fun w H => r_fa rfl fo37_4 rfl) (u_val rfl rfl (fun w H => r_ld rfl ty3 rfl (H.cellI 0 rfl rfl)) (u_val rfl rfl (fun w H => r_fa rfl fo37_1 rfl) (u_val rfl rfl (fun w H => r_ld rfl ty3 rfl (H.cellI 0 rfl rfl)) (u_k 4 rfl (u_end (fun w H => (q_then (c_ret (q_blockR (q_blockR (q_thenR (q_thenR (q_blockR (q_thenR (q_ret4 rfl rfl rfl rfl rfl ?_)))))))))))))))))
     have e : endedL xs = (2, x7.why, x7.part, true) := by rw [← hd, drop_at hx8, endedL, if_neg h11, if_pos h12, if_pos h13]
     replace H := H.keep 0
     exact fin ⟨by rw [e], rfl⟩ H
    ·refine c_seq (c_reg (s_val rfl rfl (r_fa rfl fo37_0 rfl) (s_val rfl rfl (r_ld rfl ty3 rfl (H.cellI 0 rfl rfl)) (s_val rfl rfl (r_eq rfl rfl rfl) (s_1 rfl (s_nil (q_then ?_)))))))
     refine c_dec (p := x7.kind = 3) rfl (fun h14 => ?_) (fun h14 => ?_)
     ·refine c_seq (c_draw mo (by kernel_rfl) H (u_val rfl rfl (fun w H => r_fa rfl fo37_4 rfl) (u_val rfl rfl (fun w H => r_ld rfl ty3 rfl (H.cellI 0 rfl rfl)) (u_val rfl rfl (fun w H => r_fa rfl fo37_2 rfl) (u_val rfl rfl (fun w H => r_ld rfl ty3 rfl (H.cellI 0 rfl rfl)) (u_k 4 rfl (u_end (fun w H => (q_then (c_ret (q_blockR (q_blockR (q_thenR (q_thenR (q_blockR (q_thenR (q_ret4 rfl rfl rfl rfl rfl ?_)))))))))))))))))
      have e : endedL xs = (2, x7.why, x7.sp, false) := by rw [← hd, drop_at hx8, endedL, if_neg h11, if_pos h14, if_neg h13]
      replace H := H.keep 0
      exact fin ⟨by rw [e], rfl⟩ H
     ·exact absurd h12 h14
   ·refine s_k 5 rfl (s_nil (q_then (c_no rfl (c_seq (c_reg (s_val rfl rfl (r_fa rfl fo37_0 rfl) (s_val rfl rfl (r_ld rfl ty3 rfl (H.cellI 0 rfl rfl)) (s_val rfl rfl (r_eq rfl rfl rfl) (s_1 rfl (s_nil (q_then ?_)))))))))))
    refine c_dec (p := x7.kind = 3) rfl (fun h15 => ?_) (fun h15 => ?_)
    ·exact absurd h15 h12
    ·refine c_skip (q_blockN (q_blockN (q_then (c_reg (s_val rfl rfl (r_add (z := ((k + 1 : Nat) : Int)) rfl rfl rfl (by rw [w64 (by omega) (by omega)]; omega)) (s_1 rfl (s_nil ?_)))))))
     have hd2 : endedL (xs.drop (k + 1)) = endedL xs := by rw [← hd, drop_at hx8, endedL, if_neg h11, if_neg h15]
     replace H := H.keep 0
     exact q_round (s := k) (k + 1) ⟨rfl, rfl, rfl, trivial⟩ ⟨H, by (try dsimp only); omega, hd2⟩ (by (try dsimp only); omega)
 ·refine c_exit (q_thenE (q_thenE (q_blockE (q_then (c_seq (c_reg (s_k 4 rfl (s_nil (q_then (c_ret (q_ret4 rfl rfl rfl rfl rfl ?_)))))))))))
  have e : endedL xs = (0, 0, 0, false) := by rw [← hd, List.drop_eq_nil_of_le (by omega)]; rfl
  exact fin ⟨by rw [e], rfl⟩ H
set_option maxHeartbeats 1000000 in
theorem won_ok (vxs : Value) (xs : List RecF) (s : Int) :
    Cn Tryz.prog 91 [vxs, .int .i64 s] [] [rsl kRecF vxs xs] (fun v Bs => v = .tuple #[.int .i64 ((wonL s xs).1), .bool ((wonL s xs).2)] ∧ Bs = []) := by
 intro w0 F0 H
 obtain ⟨A1, c2, rfl, hc3, hm4, hp5⟩ := H.fR 0 rfl
 refine enter (args := [.slice A1 xs.length c2, .int .i64 s]) Tryz.func91 rfl rfl (Nat.le_of_ble_eq_true rfl) (c_seq (c_reg (s_k 2 rfl (s_nil (q_then ?_)))))
 replace H : Hd _ _ _ [] [rsl kRecF (.slice A1 xs.length c2) xs] := H
 refine c_seq (c_seq (c_reg (s_1 rfl (s_val rfl rfl (r_lenL rfl un29 rfl) (s_1 rfl (s_nil (q_then (c_block (c_loop (σ := Nat) (fun k => [(1, .int .i64 s), (8, .slice A1 xs.length c2), (9, .int .i64 ((xs.length : Nat) : Int)), (10, .int .i64 ((k : Nat) : Int))]) (fun k w => (Hd w0 F0 w [] [rsl kRecF (.slice A1 xs.length c2) xs]) ∧ (k ≤ xs.length) ∧ (wonL s (xs.drop k) = wonL s xs)) (fun k => xs.length - k) 0 ⟨rfl, rfl, rfl, rfl, trivial⟩ ⟨H, by (try dsimp only); omega, rfl⟩ ?_)))))))))
 rintro k w ⟨H, hk, hd⟩
 refine c_seq (c_reg (s_val rfl rfl (r_lt rfl rfl rfl) (s_nil (q_then (c_seq ?_)))))
 refine c_dec (p := ((k : Nat) : Int) < ((xs.length : Nat) : Int)) rfl (fun h6 => ?_) (fun h6 => ?_)
 ·refine c_skip (q_then (c_seq (c_block (c_seq (c_reg ?_)))))
  obtain ⟨x7, hx8⟩ : ∃ z9, xs[k]? = some z9 := ⟨_, List.getElem?_eq_getElem (show k < xs.length by omega)⟩
  have th9 := H.thR 0 rfl hx8
  refine s_val rfl rfl (r_iaE (p := oOf A1 + k * 7) rfl sl29 rfl rfl (by omega) (by omega) th9 rfl) (s_val rfl rfl (r_ldA (cs := [.int .i64 x7.kind, .int .i64 x7.part, .int .i64 x7.sp, .int .i64 x7.att, .int .i64 x7.why, .slice x7.hs.A x7.hs.n x7.hs.c, .slice x7.hp.A x7.hp.n x7.hp.c]) rfl ty37 rfl rfl (H.elsR 0 rfl hx8 rfl)) (s_alloc rfl rfl rfl zr37 H (fun b10 w H => (s_st rfl rfl rfl ty37 rfl rfl H rfl (Nat.le_of_ble_eq_true rfl) (fun u hu => by simp [Value.cells] at hu; rcases hu with rfl | rfl | rfl | rfl | rfl | rfl | rfl <;> rfl) (fun w H => ?_)))))
  replace H := H.h1 (A := blk b10 [.int .i64 x7.kind, .int .i64 x7.part, .int .i64 x7.sp, .int .i64 x7.att, .int .i64 x7.why, .slice x7.hs.A x7.hs.n x7.hs.c, .slice x7.hp.A x7.hp.n x7.hp.c] 37)
  refine s_nil (q_then (c_seq (c_reg (s_val rfl rfl (r_fa rfl fo37_0 rfl) (s_val rfl rfl (r_ld rfl ty3 rfl (H.cellI 0 rfl rfl)) (s_val rfl rfl (r_eq rfl rfl rfl) (s_1 rfl ?_)))))))
  refine s_dec (d := 17) (p := x7.kind = 1) rfl (fun h11 => ?_) (fun h11 => ?_)
  ·refine s_val rfl rfl (r_fa rfl fo37_2 rfl) (s_val rfl rfl (r_ld rfl ty3 rfl (H.cellI 0 rfl rfl)) (s_1 rfl (s_val rfl rfl (r_eq rfl rfl rfl) (s_1 rfl (s_nil (q_then ?_))))))
   refine c_dec (p := x7.sp = s) rfl (fun h12 => ?_) (fun h12 => ?_)
   ·refine c_seq (c_reg (s_val rfl rfl (r_fa rfl fo37_3 rfl) (s_val rfl rfl (r_ld rfl ty3 rfl (H.cellI 0 rfl rfl)) (s_k 2 rfl (s_nil (q_then (c_ret (q_blockR (q_thenR (q_thenR (q_blockR (q_thenR (q_ret2 rfl rfl rfl ?_)))))))))))))
    have e : wonL s xs = (x7.att, true) := by rw [← hd, drop_at hx8, wonL, if_pos ⟨h11, h12⟩]
    replace H := H.keep 0
    exact fin ⟨by rw [e], rfl⟩ H
   ·refine c_skip (q_blockN (q_then (c_reg (s_val rfl rfl (r_add (z := ((k + 1 : Nat) : Int)) rfl rfl rfl (by rw [w64 (by omega) (by omega)]; omega)) (s_1 rfl (s_nil ?_))))))
    have hd2 : wonL s (xs.drop (k + 1)) = wonL s xs := by rw [← hd, drop_at hx8, wonL, if_neg (fun h => h12 h.2)]
    replace H := H.keep 0
    exact q_round (s := k) (k + 1) ⟨rfl, rfl, rfl, rfl, trivial⟩ ⟨H, by (try dsimp only); omega, hd2⟩ (by (try dsimp only); omega)
  ·refine s_k 5 rfl (s_nil (q_then (c_no rfl (c_skip (q_blockN (q_then (c_reg (s_val rfl rfl (r_add (z := ((k + 1 : Nat) : Int)) rfl rfl rfl (by rw [w64 (by omega) (by omega)]; omega)) (s_1 rfl (s_nil ?_))))))))))
   have hd2 : wonL s (xs.drop (k + 1)) = wonL s xs := by rw [← hd, drop_at hx8, wonL, if_neg (fun h => h11 h.1)]
   replace H := H.keep 0
   exact q_round (s := k) (k + 1) ⟨rfl, rfl, rfl, rfl, trivial⟩ ⟨H, by (try dsimp only); omega, hd2⟩ (by (try dsimp only); omega)
 ·refine c_exit (q_thenE (q_thenE (q_blockE (q_then (c_seq (c_reg (s_k 2 rfl (s_nil (q_then (c_ret (q_ret2 rfl rfl rfl ?_)))))))))))
  have e : wonL s xs = (0, false) := by rw [← hd, List.drop_eq_nil_of_le (by omega)]; rfl
  exact fin ⟨by rw [e], rfl⟩ H
set_option maxHeartbeats 1000000 in
theorem winners_ok (vxs : Value) (xs : List RecF) (hb : xs.length ≤ 1000000) :
    Cn Tryz.prog 92 [vxs] [] [rsl kRecF vxs xs] (fun v Bs => Bs = [osl (kInt .i64) v (winL xs)]) := by
 intro w0 F0 H
 obtain ⟨A1, c2, rfl, hc3, hm4, hp5⟩ := H.fR 0 rfl
 refine enter (args := [.slice A1 xs.length c2]) Tryz.func92 rfl rfl (Nat.le_of_ble_eq_true rfl) (c_seq (c_reg (s_1 rfl (s_nil (q_then ?_)))))
 replace H : Hd _ _ _ [] [rsl kRecF (.slice A1 xs.length c2) xs] := H
 refine c_seq (c_reg (s_1 rfl (s_nil (q_then (c_seq (c_seq (c_reg (s_1 rfl (s_val rfl rfl (r_lenL rfl un29 rfl) (s_1 rfl (s_nil (q_then (c_block ?_)))))))))))))
 replace H := H.newnil (kInt .i64)
 refine c_loop (σ := Nat × Value) (fun (k, l) => [(2, .slice none 0 0), (3, l), (6, .slice A1 xs.length c2), (7, .int .i64 ((xs.length : Nat) : Int)), (8, .int .i64 ((k : Nat) : Int))]) (fun (k, l) w => (Hd w0 F0 w [osl (kInt .i64) l (wlF (xs.take k))] [rsl kRecF (.slice A1 xs.length c2) xs]) ∧ (k ≤ xs.length)) (fun (k, l) => xs.length - k) (0, .slice none 0 0) ⟨rfl, rfl, rfl, rfl, rfl, trivial⟩ ⟨H, by (try dsimp only); omega⟩ ?_
 rintro ⟨k, l⟩ w ⟨H, hk⟩
 have hwl := wl_len (xs.take k)
 have hjt : (xs.take k).length ≤ xs.length := by simp; omega
 refine c_seq (c_reg (s_val rfl rfl (r_lt rfl rfl rfl) (s_nil (q_then (c_seq ?_)))))
 refine c_dec (p := ((k : Nat) : Int) < ((xs.length : Nat) : Int)) rfl (fun h6 => ?_) (fun h6 => ?_)
 ·refine c_skip (q_then (c_seq (c_block (c_seq (c_reg ?_)))))
  obtain ⟨x7, hx8⟩ : ∃ z9, xs[k]? = some z9 := ⟨_, List.getElem?_eq_getElem (show k < xs.length by omega)⟩
  have th9 := H.thR 0 rfl hx8
  refine s_val rfl rfl (r_iaE (p := oOf A1 + k * 7) rfl sl29 rfl rfl (by omega) (by omega) th9 rfl) (s_val rfl rfl (r_ldA (cs := [.int .i64 x7.kind, .int .i64 x7.part, .int .i64 x7.sp, .int .i64 x7.att, .int .i64 x7.why, .slice x7.hs.A x7.hs.n x7.hs.c, .slice x7.hp.A x7.hp.n x7.hp.c]) rfl ty37 rfl rfl (H.elsR 0 rfl hx8 rfl)) (s_alloc rfl rfl rfl zr37 H (fun b10 w H => (s_st rfl rfl rfl ty37 rfl rfl H rfl (Nat.le_of_ble_eq_true rfl) (fun u hu => by simp [Value.cells] at hu; rcases hu with rfl | rfl | rfl | rfl | rfl | rfl | rfl <;> rfl) (fun w H => ?_)))))
  replace H : Hd _ _ _ [blk b10 [.int .i64 x7.kind, .int .i64 x7.part, .int .i64 x7.sp, .int .i64 x7.att, .int .i64 x7.why, .slice x7.hs.A x7.hs.n x7.hs.c, .slice x7.hp.A x7.hp.n x7.hp.c] 37, osl (kInt .i64) l (wlF (xs.take k))] [rsl kRecF (.slice A1 xs.length c2) xs] := H
  refine s_nil (q_then (c_seq (c_reg (s_val rfl rfl (r_fa rfl fo37_0 rfl) (s_val rfl rfl (r_ld rfl ty3 rfl (H.cellI 0 rfl rfl)) (s_val rfl rfl (r_eq rfl rfl rfl) (s_nil (q_then ?_))))))))
  refine c_dec (p := x7.kind = 1) rfl (fun h11 => ?_) (fun h11 => ?_)
  ·refine c_reg (s_1 rfl (s_val rfl rfl (r_fa rfl fo37_2 rfl) (s_val rfl rfl (r_ld rfl ty3 rfl (H.cellI 0 rfl rfl)) (s_bsl (parts := [(0, .tmp 17)]) (vs := [.int .i64 x7.sp]) (cs := [.int .i64 x7.sp]) rfl rfl rfl sl24 zr3 rfl (by decide) (by decide) rfl rfl H (fun b12 w H => ?_)))))
   replace H := H.p2
   refine s_appF (xs := wlF (xs.take k)) (ys := [x7.sp]) rfl rfl rfl sl24 zr3 rfl (by decide) rfl rfl H (by first | omega | (simp only [List.length_append, List.length_cons, List.length_nil]; omega)) (fun F hA hR => blk_rsl (hA _ (List.mem_of_getElem? (i := 0) rfl)) rfl (by decide) (RepsR.flat_eq.2 rfl)) (fun v13 w H => (s_1 rfl (s_nil (q_blockN (q_then ?_)))))
   replace H : Hd _ _ _ [osl (kInt .i64) v13 ((wlF (xs.take k)) ++ [x7.sp]), blk b12 [.int .i64 x7.sp] 3, blk b10 [.int .i64 x7.kind, .int .i64 x7.part, .int .i64 x7.sp, .int .i64 x7.att, .int .i64 x7.why, .slice x7.hs.A x7.hs.n x7.hs.c, .slice x7.hp.A x7.hp.n x7.hp.c] 37] [rsl kRecF (.slice A1 xs.length c2) xs] := H
   refine c_reg (s_val rfl rfl (r_add (z := ((k + 1 : Nat) : Int)) rfl rfl rfl (by rw [w64 (by omega) (by omega)]; omega)) (s_1 rfl (s_nil ?_)))
   rw [← wl_yes hx8 h11] at H
   replace H := H.k1
   exact q_round (s := (k, undef)) (k + 1, v13) ⟨rfl, rfl, rfl, rfl, rfl, trivial⟩ ⟨H, by (try dsimp only); omega⟩ (by (try dsimp only); omega)
  ·refine c_skip (q_blockN (q_then (c_reg (s_val rfl rfl (r_add (z := ((k + 1 : Nat) : Int)) rfl rfl rfl (by rw [w64 (by omega) (by omega)]; omega)) (s_1 rfl (s_nil ?_))))))
   rw [← wl_no hx8 h11] at H
   replace H := H.p1
   replace H := H.k1
   exact q_round (s := (k, undef)) (k + 1, l) ⟨rfl, rfl, rfl, rfl, rfl, trivial⟩ ⟨H, by (try dsimp only); omega⟩ (by (try dsimp only); omega)
 ·refine c_exit (q_thenE (q_thenE (q_blockE (q_then (c_seq (c_reg (s_1 rfl (sc (sortInt_ok l (wlF (xs.take k)) (by first | omega | (rw [sortI_len]; omega))) H l0 rfl rfl (e_fn kn155 rfl rfl) ?_))))))))
  rintro v14 _ w rfl H
  refine s_nil (q_then ?_)
  replace H : Hd _ _ _ [osl (kInt .i64) l (sortI (wlF (xs.take k)))] [rsl kRecF (.slice A1 xs.length c2) xs] := H
  refine c_seq (c_reg (s_1 rfl (sc (compInt_ok l (sortI (wlF (xs.take k))) (by first | omega | (rw [sortI_len]; omega))) H l0 rfl rfl (e_fn kn156 rfl rfl) ?_)))
  rintro v15 _ w rfl H
  refine s_1 rfl (s_nil (q_then ?_))
  replace H := H.h1 (A := osl (kInt .i64) v15 (Lib.compact (sortI (wlF (xs.take k)))))
  refine c_ret (q_ret1 rfl rfl ?_)
  replace H : Hd w0 F0 w [osl (kInt .i64) v15 (winL xs)] [rsl kRecF (.slice A1 xs.length c2) xs] := by rw [List.take_of_length_le (show xs.length ≤ k by omega)] at H; exact H
  exact fin rfl H
set_option maxHeartbeats 1000000 in
theorem awake26_ok  :
    Cn Tryz.prog 21 [] [] [] (fun v Bs => v = .bool true ∧ Bs = []) := by
 intro w0 F0 H
 refine enter (args := []) Tryz.func21 rfl rfl (Nat.le_of_ble_eq_true rfl) (c_seq (c_reg (s_1 rfl (s_nil (q_then (c_seq (c_reg (s_val rfl rfl (r_bd (parts := [(0, .const (.int .i64 1)), (3, .const (.int .i64 2))]) (vs := [.int .i64 1, .int .i64 2]) (cs := [.int .i64 1, .int .i64 0, .int .i64 0, .int .i64 2, .int .i64 0, .slice none 0 0, .slice none 0 0]) rfl bd37 rfl rfl) (s_val rfl rfl (r_bd (parts := [(0, .const (.int .i64 3)), (4, .const (.int .i64 3)), (1, .const (.int .i64 1)), (3, .const (.int .i64 1))]) (vs := [.int .i64 3, .int .i64 3, .int .i64 1, .int .i64 1]) (cs := [.int .i64 3, .int .i64 1, .int .i64 0, .int .i64 1, .int .i64 3, .slice none 0 0, .slice none 0 0]) rfl bd37 rfl rfl) (s_bsl (parts := [(0, .tmp 8), (1, .tmp 9)]) (vs := [.agg #[.int .i64 1, .int .i64 0, .int .i64 0, .int .i64 2, .int .i64 0, .slice none 0 0, .slice none 0 0], .agg #[.int .i64 3, .int .i64 1, .int .i64 0, .int .i64 1, .int .i64 3, .slice none 0 0, .slice none 0 0]]) (cs := [.int .i64 1, .int .i64 0, .int .i64 0, .int .i64 2, .int .i64 0, .slice none 0 0, .slice none 0 0, .int .i64 3, .int .i64 1, .int .i64 0, .int .i64 1, .int .i64 3, .slice none 0 0, .slice none 0 0]) rfl rfl rfl sl29 zr37 rfl (by decide) (by decide) rfl rfl H (fun b1 w H => ?_)))))))))))
 refine sc (ended_ok (.slice (some ⟨b1, 0, none⟩) 2 2) [(⟨1, 0, 0, 2, 0, ⟨none, 0, 0⟩, ⟨none, 0, 0⟩⟩ : RecF), (⟨3, 1, 0, 1, 3, ⟨none, 0, 0⟩, ⟨none, 0, 0⟩⟩ : RecF)]) H (lA 0 rfl (fun F h => blk_rsl h rfl (by decide) (RepsR.flat_eq.2 rfl)) l0) rfl rfl (e_fn kn90 rfl rfl) ?_
 rintro _ _ w ⟨rfl, rfl⟩ H
 refine s_k 9 rfl (s_nil (q_then ?_))
 replace H : Hd _ _ _ [blk b1 [.int .i64 1, .int .i64 0, .int .i64 0, .int .i64 2, .int .i64 0, .slice none 0 0, .slice none 0 0, .int .i64 3, .int .i64 1, .int .i64 0, .int .i64 1, .int .i64 3, .slice none 0 0, .slice none 0 0] 37] [] := H
 refine c_seq (c_reg (s_val rfl rfl (r_bd (parts := [(0, .const (.int .i64 1)), (2, .const (.int .i64 3)), (3, .const (.int .i64 2))]) (vs := [.int .i64 1, .int .i64 3, .int .i64 2]) (cs := [.int .i64 1, .int .i64 0, .int .i64 3, .int .i64 2, .int .i64 0, .slice none 0 0, .slice none 0 0]) rfl bd37 rfl rfl) (s_bsl (parts := [(0, .tmp 17)]) (vs := [.agg #[.int .i64 1, .int .i64 0, .int .i64 3, .int .i64 2, .int .i64 0, .slice none 0 0, .slice none 0 0]]) (cs := [.int .i64 1, .int .i64 0, .int .i64 3, .int .i64 2, .int .i64 0, .slice none 0 0, .slice none 0 0]) rfl rfl rfl sl29 zr37 rfl (by decide) (by decide) rfl rfl H (fun b2 w H => (sc (won_ok (.slice (some ⟨b2, 0, none⟩) 1 1) [(⟨1, 0, 3, 2, 0, ⟨none, 0, 0⟩, ⟨none, 0, 0⟩⟩ : RecF)] 3) H (lA 0 rfl (fun F h => blk_rsl h rfl (by decide) (RepsR.flat_eq.2 rfl)) l0) rfl rfl (e_fn kn91 rfl rfl) ?_)))))
 rintro _ _ w ⟨rfl, rfl⟩ H
 refine s_k 5 rfl (s_nil (q_then ?_))
 replace H := H.h1 (A := blk b2 [.int .i64 1, .int .i64 0, .int .i64 3, .int .i64 2, .int .i64 0, .slice none 0 0, .slice none 0 0] 37)
 refine c_seq (c_reg (s_1 rfl (s_val rfl rfl (r_eq rfl rfl rfl) (s_1 rfl ?_))))
 refine s_dec (d := 24) (p := ((endedL [(⟨1, 0, 0, 2, 0, ⟨none, 0, 0⟩, ⟨none, 0, 0⟩⟩ : RecF), (⟨3, 1, 0, 1, 3, ⟨none, 0, 0⟩, ⟨none, 0, 0⟩⟩ : RecF)]).1) = 2) rfl (fun h3 => ?_) (fun h3 => ?_)
 ·refine s_1 rfl (s_val rfl rfl (r_eq rfl rfl rfl) (s_k 2 rfl ?_))
  refine s_dec (d := 28) (p := ((endedL [(⟨1, 0, 0, 2, 0, ⟨none, 0, 0⟩, ⟨none, 0, 0⟩⟩ : RecF), (⟨3, 1, 0, 1, 3, ⟨none, 0, 0⟩, ⟨none, 0, 0⟩⟩ : RecF)]).2.1) = 3) rfl (fun h4 => ?_) (fun h4 => ?_)
  ·refine s_1 rfl (s_val rfl rfl (r_eq rfl rfl rfl) (s_k 2 rfl ?_))
   refine s_dec (d := 32) (p := ((endedL [(⟨1, 0, 0, 2, 0, ⟨none, 0, 0⟩, ⟨none, 0, 0⟩⟩ : RecF), (⟨3, 1, 0, 1, 3, ⟨none, 0, 0⟩, ⟨none, 0, 0⟩⟩ : RecF)]).2.2.1) = 1) rfl (fun h5 => ?_) (fun h5 => ?_)
   ·refine s_k 3 rfl ?_
    refine s_boo (d := 35) (b := (endedL [(⟨1, 0, 0, 2, 0, ⟨none, 0, 0⟩, ⟨none, 0, 0⟩⟩ : RecF), (⟨3, 1, 0, 1, 3, ⟨none, 0, 0⟩, ⟨none, 0, 0⟩⟩ : RecF)]).2.2.2) rfl (fun h6 => ?_) (fun h6 => ?_)
    ·refine s_1 rfl (s_val rfl rfl (r_eq rfl rfl rfl) (s_k 2 rfl ?_))
     refine s_dec (d := 39) (p := ((wonL 3 [(⟨1, 0, 3, 2, 0, ⟨none, 0, 0⟩, ⟨none, 0, 0⟩⟩ : RecF)]).1) = 2) rfl (fun h7 => ?_) (fun h7 => ?_)
     ·refine s_k 3 rfl ?_
      refine s_boo (d := 42) (b := (wonL 3 [(⟨1, 0, 3, 2, 0, ⟨none, 0, 0⟩, ⟨none, 0, 0⟩⟩ : RecF)]).2) rfl (fun h8 => ?_) (fun h8 => ?_)
      ·refine s_val rfl rfl (r_bd (parts := [(0, .const (.int .i64 1)), (2, .const (.int .i64 3))]) (vs := [.int .i64 1, .int .i64 3]) (cs := [.int .i64 1, .int .i64 0, .int .i64 3, .int .i64 0, .int .i64 0, .slice none 0 0, .slice none 0 0]) rfl bd37 rfl rfl) (s_val rfl rfl (r_bd (parts := [(0, .const (.int .i64 1)), (2, .const (.int .i64 1))]) (vs := [.int .i64 1, .int .i64 1]) (cs := [.int .i64 1, .int .i64 0, .int .i64 1, .int .i64 0, .int .i64 0, .slice none 0 0, .slice none 0 0]) rfl bd37 rfl rfl) (s_bsl (parts := [(0, .tmp 43), (1, .tmp 44)]) (vs := [.agg #[.int .i64 1, .int .i64 0, .int .i64 3, .int .i64 0, .int .i64 0, .slice none 0 0, .slice none 0 0], .agg #[.int .i64 1, .int .i64 0, .int .i64 1, .int .i64 0, .int .i64 0, .slice none 0 0, .slice none 0 0]]) (cs := [.int .i64 1, .int .i64 0, .int .i64 3, .int .i64 0, .int .i64 0, .slice none 0 0, .slice none 0 0, .int .i64 1, .int .i64 0, .int .i64 1, .int .i64 0, .int .i64 0, .slice none 0 0, .slice none 0 0]) rfl rfl rfl sl29 zr37 rfl (by decide) (by decide) rfl rfl H (fun b9 w H => ?_)))
       replace H := H.h1 (A := blk b9 [.int .i64 1, .int .i64 0, .int .i64 3, .int .i64 0, .int .i64 0, .slice none 0 0, .slice none 0 0, .int .i64 1, .int .i64 0, .int .i64 1, .int .i64 0, .int .i64 0, .slice none 0 0, .slice none 0 0] 37)
       refine sc (winners_ok (.slice (some ⟨b9, 0, none⟩) 2 2) [(⟨1, 0, 3, 0, 0, ⟨none, 0, 0⟩, ⟨none, 0, 0⟩⟩ : RecF), (⟨1, 0, 1, 0, 0, ⟨none, 0, 0⟩, ⟨none, 0, 0⟩⟩ : RecF)] (by first | omega | decide | (simp only [List.length_append, List.length_cons, List.length_nil]; omega))) H (lA 0 rfl (fun F h => blk_rsl h rfl (by decide) (RepsR.flat_eq.2 rfl)) l0) rfl rfl (e_fn kn92 rfl rfl) ?_
       rintro v10 _ w rfl H
       refine s_bsl (parts := [(0, .const (.int .i64 1)), (1, .const (.int .i64 3))]) (vs := [.int .i64 1, .int .i64 3]) (cs := [.int .i64 1, .int .i64 3]) rfl rfl rfl sl24 zr3 rfl (by decide) (by decide) rfl rfl H (fun b11 w H => (sc (sameInts_ok v10 (.slice (some ⟨b11, 0, none⟩) 2 2) (winL [(⟨1, 0, 3, 0, 0, ⟨none, 0, 0⟩, ⟨none, 0, 0⟩⟩ : RecF), (⟨1, 0, 1, 0, 0, ⟨none, 0, 0⟩, ⟨none, 0, 0⟩⟩ : RecF)]) [1, 3]) H (lA 1 rfl own_rd (lA 0 rfl (fun F h => blk_rsl h rfl (by decide) (RepsR.flat_eq.2 rfl)) l0)) rfl rfl (e_fn kn33 rfl rfl) ?_))
       rintro _ _ w ⟨rfl, rfl⟩ H
       refine s_k 2 rfl (s_nil (q_then ?_))
       replace H := H.h2 (A := blk b11 [.int .i64 1, .int .i64 3] 3) (B := osl (kInt .i64) v10 (winL [(⟨1, 0, 3, 0, 0, ⟨none, 0, 0⟩, ⟨none, 0, 0⟩⟩ : RecF), (⟨1, 0, 1, 0, 0, ⟨none, 0, 0⟩, ⟨none, 0, 0⟩⟩ : RecF)]))
       refine c_ret (q_ret1 rfl rfl ?_)
       replace H := H.keep 0
       exact fin ⟨congrArg Value.bool (decide_eq_true win_two), rfl⟩ H
      ·exact absurd h8 (by decide)
     ·exact (h7 (by decide)).elim
    ·exact absurd h6 (by decide)
   ·exact (h5 (by decide)).elim
  ·exact (h4 (by decide)).elim
 ·exact (h3 (by decide)).elim
set_option maxHeartbeats 1000000 in
theorem low_ok (x : Int) (n : Int) (hx : In64 x) (h0 : 0 < n) (hn : n ≤ 9223372036854775807) :
    Cn Tryz.prog 22 [.int .i64 x, .int .i64 n] [] [] (fun v Bs => v = .int .i64 (IntKind.u64.wrap x % n) ∧ Bs = []) := by
 intro w0 F0 H
 exact enter (args := [.int .i64 x, .int .i64 n]) Tryz.func22 rfl rfl (Nat.le_of_ble_eq_true rfl) (c_seq (c_reg (s_1 rfl (s_nil (q_then (c_seq (c_reg (s_1 rfl (s_val rfl rfl (r_i2i (z := IntKind.u64.wrap x) rfl rfl un3 un158 rfl) (s_1 rfl (s_val rfl rfl (r_i2i (z := n) rfl rfl un3 un158 (wu64 (by omega) (by omega))) (s_val rfl rfl (r_rem (z := (IntKind.u64.wrap x) % n) rfl rfl rfl (by omega) (Int.tmod_eq_emod_of_nonneg (wrapU x).1)) (s_val rfl rfl (r_i2i (z := (IntKind.u64.wrap x) % n) rfl rfl un158 un3 (w64 (by have := Int.emod_nonneg (IntKind.u64.wrap x) (show n ≠ 0 by omega); omega) (by have := Int.emod_lt_of_pos (IntKind.u64.wrap x) h0; omega))) (s_1 rfl (s_nil (q_then (c_ret (q_ret1 rfl rfl (fin ⟨rfl, rfl⟩ H)))))))))))))))))))
set_option maxHeartbeats 4000000 in
theorem ckOutput_ok (vS : Value) (vM : Value) (vC : Value) (vR : Value) (vK : Value) (C : Cf) (p : Int) (vr : Value) (recs : List Rec) (hC : mayC C) (hp : In64 p) (hh : homeC C p ≠ 0) (hred : ∀ i ∈ C.J.red, In64 i.a) (hrs : ∀ r ∈ recs, (In64 r.sp ∧ r.set.length ≤ 1000) ∧ r.pairs.length ≤ 1000) (hrl : recs.length ≤ 100000) :
    Cn Tryz.prog 24 [.agg #[vS, .int .i64 C.J.parts, vM, vC, vR, .int .i64 C.J.chunk, .int .i64 C.J.window, .int .i64 C.J.fuel, vK, .int .i64 C.w, .int .i64 C.t, .int .i64 C.o], .int .i64 p, vr] [] [rsl (kHd kPair) vS C.J.us, rsl kIns vM C.J.map, rsl kIns vC C.J.comb, rsl kIns vR C.J.red, rsl (kInt .i64) vK C.J.marks, rsl kRec vr recs, gl] (fun v Bs => ∃ u : Value, v = .tuple #[u, .int .i64 ((outR dg C.J (newR C.J.us.length p 1 (recs.map Rec.p))).2.1), .bool ((outR dg C.J (newR C.J.us.length p 1 (recs.map Rec.p))).2.2)] ∧ Bs = [osl kPair u ((outR dg C.J (newR C.J.us.length p 1 (recs.map Rec.p))).1)]) := by
 intro w0 F0 H
 obtain ⟨A1, c2, rfl, hc3, hm4, hp5⟩ := H.fR 0 rfl
 obtain ⟨A6, c7, rfl, hc8, hm9, hp10⟩ := H.fR 1 rfl
 obtain ⟨A11, c12, rfl, hc13, hm14, hp15⟩ := H.fR 2 rfl
 obtain ⟨A16, c17, rfl, hc18, hm19, hp20⟩ := H.fR 3 rfl
 obtain ⟨A21, c22, rfl, hc23, hm24, hp25⟩ := H.fR 4 rfl
 obtain ⟨A26, c27, rfl, hc28, hm29, hp30⟩ := H.fR 5 rfl
 refine enter (args := [.agg #[.slice A1 C.J.us.length c2, .int .i64 C.J.parts, .slice A6 C.J.map.length c7, .slice A11 C.J.comb.length c12, .slice A16 C.J.red.length c17, .int .i64 C.J.chunk, .int .i64 C.J.window, .int .i64 C.J.fuel, .slice A21 C.J.marks.length c22, .int .i64 C.w, .int .i64 C.t, .int .i64 C.o], .int .i64 p, .slice A26 recs.length c27]) Tryz.func24 rfl rfl (Nat.le_of_ble_eq_true rfl) (c_seq (c_reg (s_box rfl rfl rfl rfl H (fun b31 w H => (s_k 3 rfl (s_nil (q_then ?_)))))))
 replace H : Hd _ _ _ [blk b31 [.slice A1 C.J.us.length c2, .int .i64 C.J.parts, .slice A6 C.J.map.length c7, .slice A11 C.J.comb.length c12, .slice A16 C.J.red.length c17, .int .i64 C.J.chunk, .int .i64 C.J.window, .int .i64 C.J.fuel, .slice A21 C.J.marks.length c22, .int .i64 C.w, .int .i64 C.t, .int .i64 C.o] 28] [rsl (kHd kPair) (.slice A1 C.J.us.length c2) C.J.us, rsl kIns (.slice A6 C.J.map.length c7) C.J.map, rsl kIns (.slice A11 C.J.comb.length c12) C.J.comb, rsl kIns (.slice A16 C.J.red.length c17) C.J.red, rsl (kInt .i64) (.slice A21 C.J.marks.length c22) C.J.marks, rsl kRec (.slice A26 recs.length c27) recs, gl] := H
 refine c_seq (c_reg (s_val rfl rfl (r_ldA (cs := [.slice A1 C.J.us.length c2, .int .i64 C.J.parts, .slice A6 C.J.map.length c7, .slice A11 C.J.comb.length c12, .slice A16 C.J.red.length c17, .int .i64 C.J.chunk, .int .i64 C.J.window, .int .i64 C.J.fuel, .slice A21 C.J.marks.length c22, .int .i64 C.w, .int .i64 C.t, .int .i64 C.o]) rfl ty28 rfl rfl (H.cellsI 0 rfl rfl)) (s_k 2 rfl (sc (redNew_ok (.slice A1 C.J.us.length c2) (.slice A6 C.J.map.length c7) (.slice A11 C.J.comb.length c12) (.slice A16 C.J.red.length c17) (.slice A21 C.J.marks.length c22) C p 1 (.slice A26 recs.length c27) recs (by first | assumption | omega | exact ⟨hh, by decide⟩ | (unfold In64; omega)) (by first | assumption | omega | exact ⟨hh, by decide⟩ | (unfold In64; omega)) (by first | assumption | omega | exact ⟨hh, by decide⟩ | (unfold In64; omega)) (by first | assumption | omega | exact ⟨hh, by decide⟩ | (unfold In64; omega)) (by first | assumption | omega | exact ⟨hh, by decide⟩ | (unfold In64; omega)) (by first | assumption | omega | exact ⟨hh, by decide⟩ | (unfold In64; omega))) H (lR 0 rfl (lR 1 rfl (lR 2 rfl (lR 3 rfl (lR 4 rfl (lR 5 rfl l0)))))) rfl rfl (e_fn kn56 rfl rfl) ?_))))
 rintro _ _ w ⟨r32, vS33, vM34, vC35, vR36, vK37, J38, hv39, sb40, vs41, us42, rfl, rfl, hf43, hf44⟩ H
 have hsj := hf43
 refine s_k 5 rfl (s_nil (q_then ?_))
 replace H : Hd _ _ _ [blk r32 (redC vS33 vM34 vC35 vR36 vK37 J38 C.w C.t C.o p 1 ((newR J38.us.length p 1 (recs.map Rec.p)).g) hv39 sb40 vs41) 185, osl (kHd kPair) vS33 J38.us, osl kIns vM34 J38.map, osl kIns vC35 J38.comb, osl kIns vR36 J38.red, osl (kInt .i64) vK37 J38.marks, prsS ((newR J38.us.length p 1 (recs.map Rec.p)).g) hv39, osl (kHd (kInt .i64)) vs41 us42, stgI 253 sb40 [], blk b31 [.slice A1 C.J.us.length c2, .int .i64 C.J.parts, .slice A6 C.J.map.length c7, .slice A11 C.J.comb.length c12, .slice A16 C.J.red.length c17, .int .i64 C.J.chunk, .int .i64 C.J.window, .int .i64 C.J.fuel, .slice A21 C.J.marks.length c22, .int .i64 C.w, .int .i64 C.t, .int .i64 C.o] 28] [rsl (kHd kPair) (.slice A1 C.J.us.length c2) C.J.us, rsl kIns (.slice A6 C.J.map.length c7) C.J.map, rsl kIns (.slice A11 C.J.comb.length c12) C.J.comb, rsl kIns (.slice A16 C.J.red.length c17) C.J.red, rsl (kInt .i64) (.slice A21 C.J.marks.length c22) C.J.marks, rsl kRec (.slice A26 recs.length c27) recs, gl] := H
 refine c_seq (c_seq (c_reg (s_1 rfl (s_val rfl rfl (r_ne rfl rfl rfl) (s_nil (q_then (c_no rfl (c_skip (q_then (c_seq ?_))))))))))
 obtain ⟨A45, c46, rfl, hc47, hm48, hp49⟩ := H.fA 1 rfl
 have hr2 : ∀ i ∈ J38.red, In64 i.a := by rw [hsj.red]; exact hred
 have hf2 : In64 J38.fuel := by rw [hsj.fuel]; have := hC.1.2.2.2.2.2.2.2.2.2.2; unfold In64; omega
 have h6 : J38.us.length ≤ 6 := by have := hC.1.1; have := hsj.len; omega
 have hbp : ∀ i, ((newR J38.us.length p 1 (recs.map Rec.p)).g i).pairs.length ≤ 1000 := newR_pairs fun r hr => by obtain ⟨x, hx, rfl⟩ := List.mem_map.1 hr; exact (hrs x hx).2
 refine c_reg (s_1 rfl ?_)
 replace H := H.h2 (A := blk r32 (redC (.slice A45 J38.us.length c46) vM34 vC35 vR36 vK37 J38 C.w C.t C.o p 1 ((newR J38.us.length p 1 (recs.map Rec.p)).g) hv39 sb40 vs41) 185) (B := osl (kHd kPair) (.slice A45 J38.us.length c46) J38.us)
 refine sc (output_ok r32 A45 c46 vM34 vC35 vR36 vK37 J38 C.w C.t C.o p 1 (newR J38.us.length p 1 (recs.map Rec.p)) hv39 sb40 vs41 (by first | assumption | omega | exact ⟨hh, by decide⟩ | (unfold In64; omega)) (by first | assumption | omega | exact ⟨hh, by decide⟩ | (unfold In64; omega)) (by first | assumption | omega | exact ⟨hh, by decide⟩ | (unfold In64; omega)) (by first | assumption | omega | exact ⟨hh, by decide⟩ | (unfold In64; omega))) H (lA 0 rfl (fun _ h => h) (lA 6 rfl (fun _ h => h) (lA 4 rfl own_rd (lR 6 rfl l0)))) rfl rfl (e_fn kn60 rfl rfl) ?_
 rintro _ _ w ⟨u50, rfl, rfl⟩ H
 refine s_k 6 rfl (s_nil (q_then ?_))
 replace H := H.h1 (A := osl kPair u50 ((outR dg J38 (newR J38.us.length p 1 (recs.map Rec.p))).1))
 refine c_ret (q_ret3 rfl rfl rfl rfl ?_)
 have e : outR dg J38 (newR J38.us.length p 1 (recs.map Rec.p)) = outR dg C.J (newR C.J.us.length p 1 (recs.map Rec.p)) := by rw [hsj.out, hsj.len]
 replace H := H.k1
 exact fin ⟨u50, by rw [e] <;> rfl, by rw [e] <;> rfl⟩ H
end Go.Proofs.YthgehekecfpikaaGreatDoor.X

