/- ReducerOnce: texts N8, N9, N10, L2, L3, L5, L6, G1, joined by a program of ours; what nothing names is left out. -/
import Derived.Test.YthgehekecfpikaaGreatDoorReducerOnceQ5
import Derived.Test.YthgehekecfpikaaGreatDoorRows
import Derived.LaidSub
import Derived.Lib.LaidTab
import Derived.Stop.LaidErr
set_option linter.unusedVariables false
set_option linter.unusedSimpArgs false
set_option maxHeartbeats 8000000
namespace Go.Proofs.YthgehekecfpikaaGreatDoor.X
open Go
theorem rwon_ok (r : Nat) (vS : Value) (vM : Value) (vC : Value) (vR : Value) (vK : Value) (J : Job) (cw : Int) (ct : Int) (co : Int) (sb : Nat) (R : Red) (sp : Int) (att : Int) (cnt : Int) (h6 : J.us.length ≤ 6) (hB : OkR 100000 R) (hmk : J.marks.length ≤ 1000) :
    Cn Tryz.prog 49 [.pointer (some ⟨r, 0, none⟩), .int .i64 sp, .int .i64 att, .int .i64 cnt] [redI r vS vM vC vR vK J cw ct co sb R] [] (fun v Bs => ∃ rs : List Rec, Bs = [osl kRec v rs, redI r vS vM vC vR vK J cw ct co sb ((wonR J ct R sp att cnt).1)] ∧ (rs.map Rec.p = (wonR J ct R sp att cnt).2)) := by
 intro w0 F0 H
 obtain ⟨hv1, vs2, us3, hsets4, H⟩ := redI_open r vS vM vC vR vK J cw ct co sb R H
 replace H : Hd _ _ _ [blk r (redC vS vM vC vR vK J cw ct co R.part R.ep R.g hv1 sb vs2) 185, osl (kHd kPair) vS J.us, osl kIns vM J.map, osl kIns vC J.comb, osl kIns vR J.red, osl (kInt .i64) vK J.marks, prsS (R.g) hv1, osl (kHd (kInt .i64)) vs2 us3, stgI 253 sb (R.st)] [] := H
 obtain ⟨A5, c6, rfl, hc7, hm8, hp9⟩ := H.fA 1 rfl
 refine enter Tryz.func49 rfl rfl (Nat.le_of_ble_eq_true rfl) (c_seq (c_reg (s_1 rfl (s_nil (q_then (c_seq ?_))))))
 by_cases hin10 : 0 ≤ sp ∧ sp < ((J.us.length : Nat) : Int)
 ·refine c_reg (s_k 2 rfl (sc (at_ok r A5 J.us.length c6 vM vC vR vK J cw ct co R.part R.ep R.g hv1 sb vs2 sp (by first | assumption | omega) (by first | assumption | omega)) H (lA 0 rfl (fun _ h => h) l0) rfl rfl (e_fn kn118 rfl rfl) ?_))
  rintro _ _ w ⟨rfl, rfl⟩ H
  refine s_1 rfl (s_nil (q_then (c_seq (c_seq (c_reg (s_1 rfl (s_val rfl rfl (r_peq rfl un178 rfl rfl) (s_k 2 rfl (s_val rfl rfl (r_nilP rfl rfl) (s_val rfl rfl (r_fa rfl fo181_0 rfl) (s_val rfl rfl (r_ld rfl ty4 rfl (H.cellI 0 rfl (redC_at0 (by omega)))) (s_k 2 rfl ?_))))))))))))
  refine s_boo (d := 21) (b := (R.g ((sp).toNat)).merged) rfl (fun h11 => ?_) (fun h11 => ?_)
  ·refine s_k 12 rfl (s_k 6 rfl (s_nil (q_then (c_yes rfl (c_seq (c_reg (s_1 rfl (s_nil (q_then (c_ret (q_thenR (q_ret1 rfl rfl ?_))))))))))))
   have e : wonR J ct R sp att cnt = (R, []) := if_pos (.inr (.inl (by simpa using h11)))
   replace H := H.newnil kRec |>.p9 |>.p9 |>.p9 |>.p9 |>.p9 |>.p9 |>.p9 |>.p9 |>.p9
   replace H := redI_shut r (.slice A5 J.us.length c6) vM vC vR vK J cw ct co sb R hv1 vs2 us3 hsets4 H
   replace H := H.h1 (A := redI r (.slice A5 J.us.length c6) vM vC vR vK J cw ct co sb R) |>.p1
   exact fin ⟨[], by rw [e] <;> rfl, by rw [e]; rfl⟩ H
  refine s_1 rfl (s_val rfl rfl (r_nilP rfl rfl) (s_val rfl rfl (r_fa rfl fo181_2 rfl) (s_val rfl rfl (r_ld rfl ty4 rfl (H.cellI 0 rfl (redC_at2 (by omega)))) (s_k 2 rfl ?_))))
  refine s_boo (d := 27) (b := (R.g ((sp).toNat)).told) rfl (fun h12 => ?_) (fun h12 => ?_)
  ·refine s_k 12 rfl (s_nil (q_then (c_yes rfl (c_seq (c_reg (s_1 rfl (s_nil (q_then (c_ret (q_thenR (q_ret1 rfl rfl ?_)))))))))))
   have e : wonR J ct R sp att cnt = (R, []) := if_pos (.inr (.inr (.inl (by simpa using h12))))
   replace H := H.newnil kRec |>.p9 |>.p9 |>.p9 |>.p9 |>.p9 |>.p9 |>.p9 |>.p9 |>.p9
   replace H := redI_shut r (.slice A5 J.us.length c6) vM vC vR vK J cw ct co sb R hv1 vs2 us3 hsets4 H
   replace H := H.h1 (A := redI r (.slice A5 J.us.length c6) vM vC vR vK J cw ct co sb R) |>.p1
   exact fin ⟨[], by rw [e] <;> rfl, by rw [e]; rfl⟩ H
  refine s_1 rfl (s_val rfl rfl (r_lt rfl rfl rfl) (s_k 2 rfl ?_))
  refine s_dec (d := 31) rfl (fun h13 => ?_) (fun h13 => ?_)
  ·refine s_k 8 rfl (s_nil (q_then (c_yes rfl (c_seq (c_reg (s_1 rfl (s_nil (q_then (c_ret (q_thenR (q_ret1 rfl rfl ?_)))))))))))
   have e : wonR J ct R sp att cnt = (R, []) := if_pos (.inr (.inr (.inr (.inl h13))))
   replace H := H.newnil kRec |>.p9 |>.p9 |>.p9 |>.p9 |>.p9 |>.p9 |>.p9 |>.p9 |>.p9
   replace H := redI_shut r (.slice A5 J.us.length c6) vM vC vR vK J cw ct co sb R hv1 vs2 us3 hsets4 H
   replace H := H.h1 (A := redI r (.slice A5 J.us.length c6) vM vC vR vK J cw ct co sb R) |>.p1
   exact fin ⟨[], by rw [e] <;> rfl, by rw [e]; rfl⟩ H
  refine s_k 2 rfl (s_val rfl rfl (r_nilP rfl rfl) (s_val rfl rfl (r_fa rfl fo185_0 rfl) (s_val rfl rfl (r_fa rfl fo28_2 rfl) (s_val rfl rfl (r_ld rfl ty3 rfl (H.cellI 0 rfl rfl)) (s_val rfl rfl (r_gt rfl rfl rfl) (s_1 rfl (s_nil (q_then ?_))))))))
  refine c_dec rfl (fun h14 => ?_) (fun h14 => ?_)
  ·refine c_seq (c_reg (s_1 rfl (s_nil (q_then (c_ret (q_thenR (q_ret1 rfl rfl ?_)))))))
   have e : wonR J ct R sp att cnt = (R, []) := if_pos (.inr (.inr (.inr (.inr (by omega)))))
   replace H := H.newnil kRec |>.p9 |>.p9 |>.p9 |>.p9 |>.p9 |>.p9 |>.p9 |>.p9 |>.p9
   replace H := redI_shut r (.slice A5 J.us.length c6) vM vC vR vK J cw ct co sb R hv1 vs2 us3 hsets4 H
   replace H := H.h1 (A := redI r (.slice A5 J.us.length c6) vM vC vR vK J cw ct co sb R) |>.p1
   exact fin ⟨[], by rw [e] <;> rfl, by rw [e]; rfl⟩ H
  refine c_skip (q_then (c_seq (c_reg (s_k 5 rfl (s_val rfl rfl (r_nilP rfl rfl) (s_val rfl rfl (r_fa rfl fo181_2 rfl) (s_st rfl rfl rfl ty4 rfl rfl H rfl (by show 14 + ((sp).toNat) * 5 + 2 + 1 ≤ 46; omega) (fun u hu => by simp [Value.cells] at hu; subst hu; rfl) (fun w H => ?_))))))))
  replace H : Hd w0 F0 w [blk r (redC (.slice A5 J.us.length c6) vM vC vR vK J cw ct co R.part R.ep (setD R.g ((sp).toNat) { R.g ((sp).toNat) with told := true }) hv1 sb vs2) 185, osl (kHd kPair) (.slice A5 J.us.length c6) J.us, osl kIns vM J.map, osl kIns vC J.comb, osl kIns vR J.red, osl (kInt .i64) vK J.marks, prsS (R.g) hv1, osl (kHd (kInt .i64)) vs2 us3, stgI 253 sb (R.st)] [] := by rw [← redC_put2 (show (sp).toNat < 6 by omega) true]; exact H
  refine s_val rfl rfl (r_nilP rfl rfl) (s_val rfl rfl (r_fa rfl fo181_3 rfl) (s_st rfl rfl rfl ty3 rfl rfl H rfl (by show 14 + ((sp).toNat) * 5 + 3 + 1 ≤ 46; omega) (fun u hu => by simp [Value.cells] at hu; subst hu; rfl) (fun w H => ?_)))
  replace H : Hd w0 F0 w [blk r (redC (.slice A5 J.us.length c6) vM vC vR vK J cw ct co R.part R.ep (setD (setD R.g ((sp).toNat) { R.g ((sp).toNat) with told := true }) ((sp).toNat) { (setD R.g ((sp).toNat) { R.g ((sp).toNat) with told := true }) ((sp).toNat) with att := att }) hv1 sb vs2) 185, osl (kHd kPair) (.slice A5 J.us.length c6) J.us, osl kIns vM J.map, osl kIns vC J.comb, osl kIns vR J.red, osl (kInt .i64) vK J.marks, prsS (R.g) hv1, osl (kHd (kInt .i64)) vs2 us3, stgI 253 sb (R.st)] [] := by rw [← redC_put3 (show (sp).toNat < 6 by omega) att]; exact H
  refine s_val rfl rfl (r_nilP rfl rfl) (s_val rfl rfl (r_fa rfl fo181_4 rfl) (s_st rfl rfl rfl ty3 rfl rfl H rfl (by show 14 + ((sp).toNat) * 5 + 4 + 1 ≤ 46; omega) (fun u hu => by simp [Value.cells] at hu; subst hu; rfl) (fun w H => ?_)))
  replace H : Hd w0 F0 w [blk r (redC (.slice A5 J.us.length c6) vM vC vR vK J cw ct co R.part R.ep (setD (setD (setD R.g ((sp).toNat) { R.g ((sp).toNat) with told := true }) ((sp).toNat) { (setD R.g ((sp).toNat) { R.g ((sp).toNat) with told := true }) ((sp).toNat) with att := att }) ((sp).toNat) { (setD (setD R.g ((sp).toNat) { R.g ((sp).toNat) with told := true }) ((sp).toNat) { (setD R.g ((sp).toNat) { R.g ((sp).toNat) with told := true }) ((sp).toNat) with att := att }) ((sp).toNat) with cnt := cnt }) hv1 sb vs2) 185, osl (kHd kPair) (.slice A5 J.us.length c6) J.us, osl kIns vM J.map, osl kIns vC J.comb, osl kIns vR J.red, osl (kInt .i64) vK J.marks, prsS (R.g) hv1, osl (kHd (kInt .i64)) vs2 us3, stgI 253 sb (R.st)] [] := by rw [← redC_put4 (show (sp).toNat < 6 by omega) cnt]; exact H
  refine s_nil (q_then (c_seq ?_))
  rw [show setD (setD (setD R.g ((sp).toNat) { R.g ((sp).toNat) with told := true }) ((sp).toNat) { (setD R.g ((sp).toNat) { R.g ((sp).toNat) with told := true }) ((sp).toNat) with att := att }) ((sp).toNat) { (setD (setD R.g ((sp).toNat) { R.g ((sp).toNat) with told := true }) ((sp).toNat) { (setD R.g ((sp).toNat) { R.g ((sp).toNat) with told := true }) ((sp).toNat) with att := att }) ((sp).toNat) with cnt := cnt } = setD R.g (sp).toNat { R.g (sp).toNat with told := true, att := att, cnt := cnt } from by simp only [setD_setD, setD_self]] at H
  replace H : Hd _ _ _ [blk r (redC (.slice A5 J.us.length c6) vM vC vR vK J cw ct co R.part R.ep (setD R.g (sp).toNat { R.g (sp).toNat with told := true, att := att, cnt := cnt }) hv1 sb vs2) 185, osl (kHd kPair) (.slice A5 J.us.length c6) J.us, osl kIns vM J.map, osl kIns vC J.comb, osl kIns vR J.red, osl (kInt .i64) vK J.marks, prsS (R.g) hv1, osl (kHd (kInt .i64)) vs2 us3, stgI 253 sb (R.st)] [] := H
  rw [prsS_congr (g := R.g) (g' := setD R.g (sp).toNat { R.g (sp).toNat with told := true, att := att, cnt := cnt }) (setD_pairs rfl)] at H
  replace H : Hd _ _ _ [blk r (redC (.slice A5 J.us.length c6) vM vC vR vK J cw ct co R.part R.ep (setD R.g (sp).toNat { R.g (sp).toNat with told := true, att := att, cnt := cnt }) hv1 sb vs2) 185, osl (kHd kPair) (.slice A5 J.us.length c6) J.us, osl kIns vM J.map, osl kIns vC J.comb, osl kIns vR J.red, osl (kInt .i64) vK J.marks, prsS (setD R.g (sp).toNat { R.g (sp).toNat with told := true, att := att, cnt := cnt }) hv1, osl (kHd (kInt .i64)) vs2 us3, stgI 253 sb (R.st)] [] := H
  have hB2 : OkR 100000 ({ R with g := setD R.g (sp).toNat { R.g (sp).toNat with told := true, att := att, cnt := cnt } } : Red) := ⟨fun i => by show (setD R.g (sp).toNat { R.g (sp).toNat with told := true, att := att, cnt := cnt } i).pairs.length ≤ 1000; rw [← setD_pairs (k := (sp).toNat) (x := { R.g (sp).toNat with told := true, att := att, cnt := cnt }) rfl]; exact hB.pairs i, hB.st, hB.sets, hB.setl⟩
  replace H := H.h9 (A := blk r (redC (.slice A5 J.us.length c6) vM vC vR vK J cw ct co (({ R with g := setD R.g (sp).toNat { R.g (sp).toNat with told := true, att := att, cnt := cnt } } : Red).part) (({ R with g := setD R.g (sp).toNat { R.g (sp).toNat with told := true, att := att, cnt := cnt } } : Red).ep) (({ R with g := setD R.g (sp).toNat { R.g (sp).toNat with told := true, att := att, cnt := cnt } } : Red).g) hv1 sb vs2) 185) (G := prsS (({ R with g := setD R.g (sp).toNat { R.g (sp).toNat with told := true, att := att, cnt := cnt } } : Red).g) hv1) (J := stgI 253 sb (({ R with g := setD R.g (sp).toNat { R.g (sp).toNat with told := true, att := att, cnt := cnt } } : Red).st))
  replace H := redI_shut r (.slice A5 J.us.length c6) vM vC vR vK J cw ct co sb ({ R with g := setD R.g (sp).toNat { R.g (sp).toNat with told := true, att := att, cnt := cnt } } : Red) hv1 vs2 us3 hsets4 H
  replace H := H.h1 (A := redI r (.slice A5 J.us.length c6) vM vC vR vK J cw ct co sb ({ R with g := setD R.g (sp).toNat { R.g (sp).toNat with told := true, att := att, cnt := cnt } } : Red))
  refine c_reg (s_k 3 rfl (sc (looks_ok r (.slice A5 J.us.length c6) vM vC vR vK J cw ct co sb ({ R with g := setD R.g (sp).toNat { R.g (sp).toNat with told := true, att := att, cnt := cnt } } : Red) sp (by first | assumption | omega) (by first | assumption | omega) (by first | assumption | omega) (by first | assumption | omega)) H l0 rfl rfl (e_fn kn119 rfl rfl) ?_))
  rintro v17 _ w ⟨rs15, rfl, hf16⟩ H
  replace H := H.h2 (A := osl kRec v17 rs15) (B := redI r (.slice A5 J.us.length c6) vM vC vR vK J cw ct co sb ((looksR J ({ R with g := setD R.g (sp).toNat { R.g (sp).toNat with told := true, att := att, cnt := cnt } } : Red) (sp).toNat).1))
  refine s_1 rfl (s_nil (q_then (c_ret (q_ret1 rfl rfl ?_))))
  have e : wonR J ct R sp att cnt = looksR J ({ R with g := setD R.g (sp).toNat { R.g (sp).toNat with told := true, att := att, cnt := cnt } } : Red) (sp).toNat := if_neg (fun h => by rcases h with h | h | h | h | h; exact h hin10; exact absurd h (by rw [h11]; decide); exact absurd h (by rw [h12]; decide); omega; omega)
  exact fin ⟨rs15, by rw [e] <;> rfl, by rw [e]; exact hf16⟩ H
 refine c_reg (s_k 2 rfl (sc (at_no r A5 J.us.length c6 vM vC vR vK J cw ct co R.part R.ep R.g hv1 sb vs2 sp (by first | assumption | omega)) H (lA 0 rfl (fun _ h => h) l0) rfl rfl (e_fn kn118 rfl rfl) ?_))
 rintro _ _ w ⟨rfl, rfl⟩ H
 refine s_1 rfl (s_nil (q_then (c_seq (c_seq (c_reg (s_1 rfl (s_val rfl rfl (r_peq rfl un178 rfl rfl) (s_k 12 rfl (s_k 12 rfl (s_1 rfl (s_nil (q_then (c_yes rfl (c_seq (c_reg (s_1 rfl (s_nil (q_then (c_ret (q_thenR (q_ret1 rfl rfl ?_)))))))))))))))))))))
 have e : wonR J ct R sp att cnt = (R, []) := if_pos (.inl hin10)
 replace H := H.newnil kRec |>.p9 |>.p9 |>.p9 |>.p9 |>.p9 |>.p9 |>.p9 |>.p9 |>.p9
 replace H := redI_shut r (.slice A5 J.us.length c6) vM vC vR vK J cw ct co sb R hv1 vs2 us3 hsets4 H
 replace H := H.h1 (A := redI r (.slice A5 J.us.length c6) vM vC vR vK J cw ct co sb R) |>.p1
 exact fin ⟨[], by rw [e] <;> rfl, by rw [e]; rfl⟩ H
theorem rpush_ok (r : Nat) (vS : Value) (vM : Value) (vC : Value) (vR : Value) (vK : Value) (J : Job) (cw : Int) (ct : Int) (co : Int) (sb : Nat) (R : Red) (m : Msg) (vset : Value) (vps : Value) (h6 : J.us.length ≤ 6) (hB : OkR 99999 R) (hmk : J.marks.length ≤ 1000) :
    Cn Tryz.prog 50 [.pointer (some ⟨r, 0, none⟩), .agg #[.int .i64 m.kind, .int .i64 m.sp, .int .i64 m.att, .int .i64 m.part, .int .i64 m.seq, .int .i64 m.next, .int .i64 m.ep, .int .i64 m.why, vset, vps]] [redI r vS vM vC vR vK J cw ct co sb R] [rsl (kInt .i64) vset m.set, rsl kPair vps m.pairs] (fun v Bs => ∃ u : Value, ∃ rs : List Rec, v = .tuple #[.agg #[.int .i64 (((pushR J R m).2.1).kind), .int .i64 (((pushR J R m).2.1).sp), .int .i64 (((pushR J R m).2.1).att), .int .i64 (((pushR J R m).2.1).part), .int .i64 (((pushR J R m).2.1).seq), .int .i64 (((pushR J R m).2.1).next), .int .i64 (((pushR J R m).2.1).ep), .int .i64 (((pushR J R m).2.1).why), .slice none 0 0, .slice none 0 0], u] ∧ Bs = [osl kRec u rs, redI r vS vM vC vR vK J cw ct co sb ((pushR J R m).1)] ∧ (rs.map Rec.p = (pushR J R m).2.2)) := by
 intro w0 F0 H
 obtain ⟨A1, c2, rfl, hc3, hm4, hp5⟩ := H.fR 0 rfl
 obtain ⟨A6, c7, rfl, hc8, hm9, hp10⟩ := H.fR 1 rfl
 replace H : Hd _ _ _ [redI r vS vM vC vR vK J cw ct co sb R] [rsl (kInt .i64) (.slice A1 m.set.length c2) m.set, rsl kPair (.slice A6 m.pairs.length c7) m.pairs] := H
 obtain ⟨hv11, vs12, us13, hsets14, H⟩ := redI_open r vS vM vC vR vK J cw ct co sb R H
 replace H := H.h9 (A := blk r (redC vS vM vC vR vK J cw ct co R.part R.ep R.g hv11 sb vs12) 185) (B := osl (kHd kPair) vS J.us) (C := osl kIns vM J.map) (D := osl kIns vC J.comb) (E := osl kIns vR J.red) (F := osl (kInt .i64) vK J.marks) (G := prsS (R.g) hv11) (I := osl (kHd (kInt .i64)) vs12 us13) (J := stgI 253 sb (R.st))
 obtain ⟨A15, c16, rfl, hc17, hm18, hp19⟩ := H.fA 1 rfl
 refine enter Tryz.func50 rfl rfl (Nat.le_of_ble_eq_true rfl) (c_seq (c_reg (s_box rfl rfl rfl rfl H (fun b20 w H => (s_alloc rfl rfl rfl zr64 H (fun b21 w H => ?_))))))
 replace H := H.h2 (A := blk b21 [.int .i64 0, .int .i64 0, .int .i64 0, .int .i64 0, .int .i64 0, .int .i64 0, .int .i64 0, .int .i64 0, .slice none 0 0, .slice none 0 0] 64) (B := blk b20 [.int .i64 m.kind, .int .i64 m.sp, .int .i64 m.att, .int .i64 m.part, .int .i64 m.seq, .int .i64 m.next, .int .i64 m.ep, .int .i64 m.why, .slice A1 m.set.length c2, .slice A6 m.pairs.length c7] 64)
 refine s_1 rfl (s_nil (q_then (c_seq ?_)))
 by_cases hin22 : 0 ≤ m.sp ∧ m.sp < ((J.us.length : Nat) : Int)
 ·refine c_reg (s_1 rfl (s_val rfl rfl (r_fa rfl fo64_1 rfl) (s_val rfl rfl (r_ld rfl ty3 rfl (H.cellI 1 rfl rfl)) (sc (at_ok r A15 J.us.length c16 vM vC vR vK J cw ct co R.part R.ep R.g hv11 sb vs12 m.sp (by first | assumption | omega) (by first | assumption | omega)) H (lA 2 rfl (fun _ h => h) l0) rfl rfl (e_fn kn118 rfl rfl) ?_))))
  rintro _ _ w ⟨rfl, rfl⟩ H
  refine s_1 rfl (s_nil (q_then (c_seq (c_seq (c_draw mo (by kernel_rfl) H (u_1 rfl (u_val rfl rfl (fun w H => r_peq rfl un178 rfl rfl) (u_1 rfl (u_val rfl rfl (fun w H => r_fa rfl fo64_0 rfl) (u_val rfl rfl (fun w H => r_ld rfl ty3 rfl (H.cellI 1 rfl rfl)) (u_val rfl rfl (fun w H => r_ne rfl rfl rfl) (u_k 2 rfl ?_))))))))))))
  refine u_dec (d := 20) rfl (fun h23 => ?_) (fun h23 => ?_)
  ·refine u_k 8 rfl (u_end (fun w H => (q_then (c_yes rfl (c_seq (c_reg (s_val rfl rfl (r_bd (parts := []) (vs := []) (cs := [.int .i64 0, .int .i64 0, .int .i64 0, .int .i64 0, .int .i64 0, .int .i64 0, .int .i64 0, .int .i64 0, .slice none 0 0, .slice none 0 0]) rfl bd64 rfl rfl) (s_st rfl rfl rfl ty64 rfl rfl H rfl (Nat.le_of_ble_eq_true rfl) (fun u hu => by simp [Value.cells] at hu; rcases hu with rfl | rfl | rfl | rfl | rfl | rfl | rfl | rfl | rfl | rfl <;> rfl) (fun w H => (s_1 rfl (s_nil (q_then (c_ret (q_thenR (q_retCT (cs := [.int .i64 0, .int .i64 0, .int .i64 0, .int .i64 0, .int .i64 0, .int .i64 0, .int .i64 0, .int .i64 0, .slice none 0 0, .slice none 0 0]) (v := .slice none 0 0) rfl rfl rfl ty64 rfl (H.cellsI 0 rfl rfl) ?_)))))))))))))))
   have e : pushR J R m = (R, msg0, []) := pushR_no (.inr (.inl (by omega)))
   replace H := H.newnil kRec |>.pick 11 rfl |>.pick 11 rfl |>.pick 11 rfl |>.pick 11 rfl |>.pick 11 rfl |>.pick 11 rfl |>.pick 11 rfl |>.pick 11 rfl |>.pick 11 rfl |>.k10
   replace H := redI_shut r (.slice A15 J.us.length c16) vM vC vR vK J cw ct co sb R hv11 vs12 us13 hsets14 H
   replace H := H.h1 (A := redI r (.slice A15 J.us.length c16) vM vC vR vK J cw ct co sb R) |>.p1
   exact fin ⟨(.slice none 0 0), [], by rw [e] <;> rfl, by rw [e] <;> rfl, by rw [e]; rfl⟩ H
  refine u_val rfl rfl (fun w H => r_fa rfl fo64_3 rfl) (u_val rfl rfl (fun w H => r_ld rfl ty3 rfl (H.cellI 1 rfl rfl)) (u_1 rfl (u_val rfl rfl (fun w H => r_nilP rfl rfl) (u_val rfl rfl (fun w H => r_fa rfl fo185_1 rfl) (u_val rfl rfl (fun w H => r_ld rfl ty3 rfl (H.cellI 2 rfl rfl)) (u_val rfl rfl (fun w H => r_ne rfl rfl rfl) (u_1 rfl (u_end (fun w H => (q_then ?_))))))))))
  refine c_dec rfl (fun h24 => ?_) (fun h24 => ?_)
  ·refine c_seq (c_reg (s_val rfl rfl (r_bd (parts := []) (vs := []) (cs := [.int .i64 0, .int .i64 0, .int .i64 0, .int .i64 0, .int .i64 0, .int .i64 0, .int .i64 0, .int .i64 0, .slice none 0 0, .slice none 0 0]) rfl bd64 rfl rfl) (s_st rfl rfl rfl ty64 rfl rfl H rfl (Nat.le_of_ble_eq_true rfl) (fun u hu => by simp [Value.cells] at hu; rcases hu with rfl | rfl | rfl | rfl | rfl | rfl | rfl | rfl | rfl | rfl <;> rfl) (fun w H => ?_))))
   replace H : Hd _ _ _ [blk b21 [.int .i64 0, .int .i64 0, .int .i64 0, .int .i64 0, .int .i64 0, .int .i64 0, .int .i64 0, .int .i64 0, .slice none 0 0, .slice none 0 0] 64, blk b20 [.int .i64 m.kind, .int .i64 m.sp, .int .i64 m.att, .int .i64 m.part, .int .i64 m.seq, .int .i64 m.next, .int .i64 m.ep, .int .i64 m.why, .slice A1 m.set.length c2, .slice A6 m.pairs.length c7] 64, blk r (redC (.slice A15 J.us.length c16) vM vC vR vK J cw ct co R.part R.ep R.g hv11 sb vs12) 185, osl (kHd kPair) (.slice A15 J.us.length c16) J.us, osl kIns vM J.map, osl kIns vC J.comb, osl kIns vR J.red, osl (kInt .i64) vK J.marks, prsS (R.g) hv11, osl (kHd (kInt .i64)) vs12 us13, stgI 253 sb (R.st)] [rsl (kInt .i64) (.slice A1 m.set.length c2) m.set, rsl kPair (.slice A6 m.pairs.length c7) m.pairs] := H
   refine s_1 rfl (s_nil (q_then (c_ret (q_thenR (q_retCT (cs := [.int .i64 0, .int .i64 0, .int .i64 0, .int .i64 0, .int .i64 0, .int .i64 0, .int .i64 0, .int .i64 0, .slice none 0 0, .slice none 0 0]) (v := .slice none 0 0) rfl rfl rfl ty64 rfl (H.cellsI 0 rfl rfl) ?_)))))
   have e : pushR J R m = (R, msg0, []) := pushR_no (.inr (.inr (by omega)))
   replace H := H.newnil kRec |>.pick 11 rfl |>.pick 11 rfl |>.pick 11 rfl |>.pick 11 rfl |>.pick 11 rfl |>.pick 11 rfl |>.pick 11 rfl |>.pick 11 rfl |>.pick 11 rfl |>.k10
   replace H := redI_shut r (.slice A15 J.us.length c16) vM vC vR vK J cw ct co sb R hv11 vs12 us13 hsets14 H
   replace H := H.h1 (A := redI r (.slice A15 J.us.length c16) vM vC vR vK J cw ct co sb R) |>.p1
   exact fin ⟨(.slice none 0 0), [], by rw [e] <;> rfl, by rw [e] <;> rfl, by rw [e]; rfl⟩ H
  refine c_skip (q_then (c_seq (c_ord (.e 0 (.e 1 (.e 2 (.e 3 (.e 4 (.e 5 (.e 6 (.e 7 (.e 8 (.e 9 (.e 10 (.e 11 (.e 12 (.m 13 (.m 14 .z))))))))))))))) (fun w => ∃ Ar, Hd w0 F0 w (blk b21 [.int .i64 0, .int .i64 0, .int .i64 0, .int .i64 0, .int .i64 0, .int .i64 0, .int .i64 0, .int .i64 0, .slice none 0 0, .slice none 0 0] 64 :: blk b20 [.int .i64 m.kind, .int .i64 m.sp, .int .i64 m.att, .int .i64 m.part, .int .i64 m.seq, .int .i64 m.next, .int .i64 m.ep, .int .i64 m.why, .slice A1 m.set.length c2, .slice A6 m.pairs.length c7] 64 :: blk r (redC (.slice A15 J.us.length c16) vM vC vR vK J cw ct co R.part R.ep R.g hv11 sb vs12) 185 :: osl (kHd kPair) (.slice A15 J.us.length c16) J.us :: osl kIns vM J.map :: osl kIns vC J.comb :: osl kIns vR J.red :: osl (kInt .i64) vK J.marks :: prsS (R.g) hv11 :: osl (kHd (kInt .i64)) vs12 us13 :: stgI 253 sb (R.st) :: Ar) [rsl (kInt .i64) (.slice A1 m.set.length c2) m.set, rsl kPair (.slice A6 m.pairs.length c7) m.pairs]) mo (by kernel_rfl) (fun w H => ⟨_, H⟩) H (fun w H => ?_))))
  refine d_val rfl rfl rfl (fun w ⟨Ar, H⟩ => r_fa rfl fo64_1 rfl) (d_val rfl rfl rfl (fun w ⟨Ar, H⟩ => r_ld rfl ty3 rfl (H.cellI 1 rfl rfl)) (d_val rfl rfl rfl (fun w ⟨Ar, H⟩ => r_fa rfl fo64_2 rfl) (d_val rfl rfl rfl (fun w ⟨Ar, H⟩ => r_ld rfl ty3 rfl (H.cellI 1 rfl rfl)) (d_1 rfl (d_val rfl rfl rfl (fun w ⟨Ar, H⟩ => r_nilP rfl rfl) (d_val rfl rfl rfl (fun w ⟨Ar, H⟩ => r_fa rfl fo185_1 rfl) (d_val rfl rfl rfl (fun w ⟨Ar, H⟩ => r_ld rfl ty3 rfl (H.cellI 2 rfl rfl)) (d_1 rfl (d_val rfl rfl rfl (fun w ⟨Ar, H⟩ => r_nilP rfl rfl) (d_val rfl rfl rfl (fun w ⟨Ar, H⟩ => r_fa rfl fo185_2 rfl) (d_val rfl rfl rfl (fun w ⟨Ar, H⟩ => r_ld rfl ty3 rfl (H.cellI 2 rfl rfl)) (d_val rfl rfl rfl (fun w ⟨Ar, H⟩ => r_bd (parts := [(0, .const (.int .i64 3)), (1, .tmp 31), (2, .tmp 33), (3, .tmp 37), (6, .tmp 41)]) (vs := [.int .i64 3, .int .i64 m.sp, .int .i64 m.att, .int .i64 R.part, .int .i64 R.ep]) (cs := [.int .i64 3, .int .i64 m.sp, .int .i64 m.att, .int .i64 R.part, .int .i64 0, .int .i64 0, .int .i64 R.ep, .int .i64 0, .slice none 0 0, .slice none 0 0]) rfl bd64 rfl rfl) ?_))))))))))))
  refine d_main rfl (s_alloc rfl rfl rfl zr64 H (fun b25 w H => ?_))
  replace H : Hd _ _ _ [blk b25 [.int .i64 0, .int .i64 0, .int .i64 0, .int .i64 0, .int .i64 0, .int .i64 0, .int .i64 0, .int .i64 0, .slice none 0 0, .slice none 0 0] 64, blk b21 [.int .i64 0, .int .i64 0, .int .i64 0, .int .i64 0, .int .i64 0, .int .i64 0, .int .i64 0, .int .i64 0, .slice none 0 0, .slice none 0 0] 64, blk b20 [.int .i64 m.kind, .int .i64 m.sp, .int .i64 m.att, .int .i64 m.part, .int .i64 m.seq, .int .i64 m.next, .int .i64 m.ep, .int .i64 m.why, .slice A1 m.set.length c2, .slice A6 m.pairs.length c7] 64, blk r (redC (.slice A15 J.us.length c16) vM vC vR vK J cw ct co R.part R.ep R.g hv11 sb vs12) 185, osl (kHd kPair) (.slice A15 J.us.length c16) J.us, osl kIns vM J.map, osl kIns vC J.comb, osl kIns vR J.red, osl (kInt .i64) vK J.marks, prsS (R.g) hv11, osl (kHd (kInt .i64)) vs12 us13, stgI 253 sb (R.st)] [rsl (kInt .i64) (.slice A1 m.set.length c2) m.set, rsl kPair (.slice A6 m.pairs.length c7) m.pairs] := H
  replace H := H.pick 11 rfl |>.pick 11 rfl |>.pick 11 rfl |>.pick 11 rfl |>.pick 11 rfl |>.pick 11 rfl |>.pick 11 rfl |>.pick 11 rfl |>.pick 11 rfl |>.pick 11 rfl |>.pick 11 rfl
  refine d_back ⟨_, H⟩ (d_main rfl ?_)
  replace H := H.pick 11 rfl
  refine s_st rfl rfl rfl ty64 rfl rfl H rfl (Nat.le_of_ble_eq_true rfl) (fun u hu => by simp [Value.cells] at hu; rcases hu with rfl | rfl | rfl | rfl | rfl | rfl | rfl | rfl | rfl | rfl <;> rfl) (fun w H => ?_)
  replace H := H.h1 (A := blk b25 [.int .i64 3, .int .i64 m.sp, .int .i64 m.att, .int .i64 R.part, .int .i64 0, .int .i64 0, .int .i64 R.ep, .int .i64 0, .slice none 0 0, .slice none 0 0] 64) |>.pick 11 rfl |>.pick 11 rfl |>.pick 11 rfl |>.pick 11 rfl |>.pick 11 rfl |>.pick 11 rfl |>.pick 11 rfl |>.pick 11 rfl |>.pick 11 rfl |>.pick 11 rfl |>.pick 11 rfl
  refine d_back ⟨_, H⟩ (d_nil (q_then (c_seq (c_reg (s_1 rfl (s_nil (q_then (c_seq (c_seq (c_reg (s_1 rfl (s_val rfl rfl (r_nilP rfl rfl) (s_val rfl rfl (r_fa rfl fo181_0 rfl) (s_val rfl rfl (r_ld rfl ty4 rfl (H.cellI 2 rfl (redC_at0 (by omega)))) (s_val rfl rfl (r_not rfl rfl rfl) (s_1 rfl ?_))))))))))))))))
  refine s_boo (d := 48) (b := !((R.g ((m.sp).toNat)).merged)) rfl (fun h26 => ?_) (fun h26 => ?_)
  ·refine s_val rfl rfl (r_fa rfl fo64_9 rfl) (s_val rfl rfl (r_ld rfl ty35 rfl (H.cellI 1 rfl rfl)) (s_val rfl rfl (r_lenL rfl un35 rfl) (s_val rfl rfl (r_le rfl rfl rfl) (s_k 2 rfl ?_))))
   refine s_dec (d := 54) rfl (fun h27 => ?_) (fun h27 => ?_)
   ·refine s_val rfl rfl (r_fa rfl fo64_9 rfl) (s_val rfl rfl (r_ld rfl ty35 rfl (H.cellI 1 rfl rfl)) (sc (pMayL_ok (.slice A6 m.pairs.length c7) m.pairs) H (lR 1 rfl l0) rfl rfl (e_fn kn120 rfl rfl) ?_))
    rintro _ _ w ⟨rfl, rfl⟩ H
    refine s_1 rfl (s_nil (q_then ?_))
    refine c_dec rfl (fun h28 => ?_) (fun h28 => ?_)
    ·refine c_seq ?_
     replace H := H.sel 12 [0, 1, 2, 3, 4, 5, 6, 7, 8, 9, 11, 10] [] rfl (by kernel_rfl)
     replace H : Hd _ _ _ [blk b21 [.int .i64 0, .int .i64 0, .int .i64 0, .int .i64 0, .int .i64 0, .int .i64 0, .int .i64 0, .int .i64 0, .slice none 0 0, .slice none 0 0] 64, blk b20 [.int .i64 m.kind, .int .i64 m.sp, .int .i64 m.att, .int .i64 m.part, .int .i64 m.seq, .int .i64 m.next, .int .i64 m.ep, .int .i64 m.why, .slice A1 m.set.length c2, .slice A6 m.pairs.length c7] 64, blk r (redC (.slice A15 J.us.length c16) vM vC vR vK J cw ct co R.part R.ep R.g hv11 sb vs12) 185, osl (kHd kPair) (.slice A15 J.us.length c16) J.us, osl kIns vM J.map, osl kIns vC J.comb, osl kIns vR J.red, osl (kInt .i64) vK J.marks, prsS (R.g) hv11, osl (kHd (kInt .i64)) vs12 us13, blk b25 [.int .i64 3, .int .i64 m.sp, .int .i64 m.att, .int .i64 R.part, .int .i64 0, .int .i64 0, .int .i64 R.ep, .int .i64 0, .slice none 0 0, .slice none 0 0] 64, stgI 253 sb (R.st)] [rsl (kInt .i64) (.slice A1 m.set.length c2) m.set, rsl kPair (.slice A6 m.pairs.length c7) m.pairs] := H
     refine c_ord (.e 0 (.e 1 (.e 2 (.e 3 (.e 4 (.e 5 (.e 6 (.e 7 (.e 8 (.e 9 (.e 10 (.e 11 (.m 12 .z))))))))))))) (fun w => ∃ Ar, Hd w0 F0 w (blk b21 [.int .i64 0, .int .i64 0, .int .i64 0, .int .i64 0, .int .i64 0, .int .i64 0, .int .i64 0, .int .i64 0, .slice none 0 0, .slice none 0 0] 64 :: blk b20 [.int .i64 m.kind, .int .i64 m.sp, .int .i64 m.att, .int .i64 m.part, .int .i64 m.seq, .int .i64 m.next, .int .i64 m.ep, .int .i64 m.why, .slice A1 m.set.length c2, .slice A6 m.pairs.length c7] 64 :: blk r (redC (.slice A15 J.us.length c16) vM vC vR vK J cw ct co R.part R.ep R.g hv11 sb vs12) 185 :: osl (kHd kPair) (.slice A15 J.us.length c16) J.us :: osl kIns vM J.map :: osl kIns vC J.comb :: osl kIns vR J.red :: osl (kInt .i64) vK J.marks :: prsS (R.g) hv11 :: osl (kHd (kInt .i64)) vs12 us13 :: blk b25 [.int .i64 3, .int .i64 m.sp, .int .i64 m.att, .int .i64 R.part, .int .i64 0, .int .i64 0, .int .i64 R.ep, .int .i64 0, .slice none 0 0, .slice none 0 0] 64 :: Ar) [rsl (kInt .i64) (.slice A1 m.set.length c2) m.set, rsl kPair (.slice A6 m.pairs.length c7) m.pairs]) mo (by kernel_rfl) (fun w H => ⟨_, H⟩) H (fun w H => ?_)
     refine d_1 rfl (d_val rfl rfl rfl (fun w ⟨Ar, H⟩ => r_nilP rfl rfl) (d_val rfl rfl rfl (fun w ⟨Ar, H⟩ => r_fa rfl fo185_4 rfl) (d_val rfl rfl rfl (fun w ⟨Ar, H⟩ => r_ld rfl ty183 rfl (H.cellI 2 rfl rfl)) (d_val rfl rfl rfl (fun w ⟨Ar, H⟩ => r_fa rfl fo64_1 rfl) (d_val rfl rfl rfl (fun w ⟨Ar, H⟩ => r_ld rfl ty3 rfl (H.cellI 1 rfl rfl)) (d_val rfl rfl rfl (fun w ⟨Ar, H⟩ => r_fa rfl fo64_2 rfl) (d_val rfl rfl rfl (fun w ⟨Ar, H⟩ => r_ld rfl ty3 rfl (H.cellI 1 rfl rfl)) (d_val rfl rfl rfl (fun w ⟨Ar, H⟩ => r_fa rfl fo64_4 rfl) (d_val rfl rfl rfl (fun w ⟨Ar, H⟩ => r_ld rfl ty3 rfl (H.cellI 1 rfl rfl)) (d_val rfl rfl rfl (fun w ⟨Ar, H⟩ => r_fa rfl fo64_9 rfl) (d_val rfl rfl rfl (fun w ⟨Ar, H⟩ => r_ld rfl ty35 rfl (H.cellI 1 rfl rfl)) (d_main rfl ?_))))))))))))
     replace H := H.pick 11 rfl
     refine sc (stPut_ok sb R.st m.sp m.att m.seq (.slice A6 m.pairs.length c7) m.pairs (by first | assumption | omega)) H (lR 1 rfl l0) rfl rfl (e_fn kn121 rfl rfl) ?_
     rintro _ _ w ⟨rfl, rfl⟩ H
     replace H := H.h1 (A := stgI 253 sb (sgPut R.st m.sp m.att m.seq m.pairs)) |>.pick 11 rfl |>.pick 11 rfl |>.pick 11 rfl |>.pick 11 rfl |>.pick 11 rfl |>.pick 11 rfl |>.pick 11 rfl |>.pick 11 rfl |>.pick 11 rfl |>.pick 11 rfl |>.pick 11 rfl
     refine d_back ⟨_, H⟩ (d_nil (q_then (c_reg (s_1 rfl (s_val rfl rfl (r_fa rfl fo64_1 rfl) (s_val rfl rfl (r_ld rfl ty3 rfl (H.cellI 1 rfl rfl)) (s_1 rfl ?_)))))))
     have hB2 : OkR 100000 ({ R with st := sgPut R.st m.sp m.att m.seq m.pairs } : Red) := ⟨hB.pairs, hB.st.put (by omega), Nat.le_succ_of_le hB.sets, hB.setl⟩
     replace H := H.pick 11 rfl |>.pick 10 rfl |>.pick 10 rfl |>.pick 10 rfl |>.pick 10 rfl |>.pick 10 rfl |>.pick 10 rfl |>.pick 10 rfl |>.pick 10 rfl |>.h9 (A := blk r (redC (.slice A15 J.us.length c16) vM vC vR vK J cw ct co (({ R with st := sgPut R.st m.sp m.att m.seq m.pairs } : Red).part) (({ R with st := sgPut R.st m.sp m.att m.seq m.pairs } : Red).ep) (({ R with st := sgPut R.st m.sp m.att m.seq m.pairs } : Red).g) hv11 sb vs12) 185) (G := prsS (({ R with st := sgPut R.st m.sp m.att m.seq m.pairs } : Red).g) hv11) (J := stgI 253 sb (({ R with st := sgPut R.st m.sp m.att m.seq m.pairs } : Red).st))
     replace H := redI_shut r (.slice A15 J.us.length c16) vM vC vR vK J cw ct co sb ({ R with st := sgPut R.st m.sp m.att m.seq m.pairs } : Red) hv11 vs12 us13 hsets14 H
     replace H := H.h1 (A := redI r (.slice A15 J.us.length c16) vM vC vR vK J cw ct co sb ({ R with st := sgPut R.st m.sp m.att m.seq m.pairs } : Red))
     refine sc (looks_ok r (.slice A15 J.us.length c16) vM vC vR vK J cw ct co sb ({ R with st := sgPut R.st m.sp m.att m.seq m.pairs } : Red) m.sp (by first | assumption | omega) (by first | assumption | omega) (by first | assumption | omega) (by first | assumption | omega)) H l0 rfl rfl (e_fn kn119 rfl rfl) ?_
     rintro v31 _ w ⟨rs29, rfl, hf30⟩ H
     obtain ⟨R32, hR33⟩ : ∃ z : Red, z = (looksR J ({ R with st := sgPut R.st m.sp m.att m.seq m.pairs } : Red) (m.sp).toNat).1 := ⟨_, rfl⟩
     rw [← hR33] at H
     replace H : Hd _ _ _ [osl kRec v31 rs29, redI r (.slice A15 J.us.length c16) vM vC vR vK J cw ct co sb R32, blk b21 [.int .i64 0, .int .i64 0, .int .i64 0, .int .i64 0, .int .i64 0, .int .i64 0, .int .i64 0, .int .i64 0, .slice none 0 0, .slice none 0 0] 64, blk b20 [.int .i64 m.kind, .int .i64 m.sp, .int .i64 m.att, .int .i64 m.part, .int .i64 m.seq, .int .i64 m.next, .int .i64 m.ep, .int .i64 m.why, .slice A1 m.set.length c2, .slice A6 m.pairs.length c7] 64, blk b25 [.int .i64 3, .int .i64 m.sp, .int .i64 m.att, .int .i64 R.part, .int .i64 0, .int .i64 0, .int .i64 R.ep, .int .i64 0, .slice none 0 0, .slice none 0 0] 64] [rsl (kInt .i64) (.slice A1 m.set.length c2) m.set, rsl kPair (.slice A6 m.pairs.length c7) m.pairs] := H
     replace H := H.p1
     obtain ⟨hv34, vs35, us36, hsets37, H⟩ := redI_open r (.slice A15 J.us.length c16) vM vC vR vK J cw ct co sb R32 H
     replace H := H.h9 (A := blk r (redC (.slice A15 J.us.length c16) vM vC vR vK J cw ct co R32.part R32.ep R32.g hv34 sb vs35) 185) (B := osl (kHd kPair) (.slice A15 J.us.length c16) J.us) (C := osl kIns vM J.map) (D := osl kIns vC J.comb) (E := osl kIns vR J.red) (F := osl (kInt .i64) vK J.marks) (G := prsS (R32.g) hv34) (I := osl (kHd (kInt .i64)) vs35 us36) (J := stgI 253 sb (R32.st))
     refine s_1 rfl (s_nil (q_then (c_seq (c_ord (.e 0 (.e 1 (.e 2 (.e 3 (.e 4 (.e 5 (.e 6 (.e 7 (.m 8 (.e 9 (.m 10 .z))))))))))) (fun w => ∃ Ar, Hd w0 F0 w (blk r (redC (.slice A15 J.us.length c16) vM vC vR vK J cw ct co R32.part R32.ep R32.g hv34 sb vs35) 185 :: osl (kHd kPair) (.slice A15 J.us.length c16) J.us :: osl kIns vM J.map :: osl kIns vC J.comb :: osl kIns vR J.red :: osl (kInt .i64) vK J.marks :: prsS (R32.g) hv34 :: osl (kHd (kInt .i64)) vs35 us36 :: stgI 253 sb (R32.st) :: osl kRec v31 rs29 :: blk b21 [.int .i64 0, .int .i64 0, .int .i64 0, .int .i64 0, .int .i64 0, .int .i64 0, .int .i64 0, .int .i64 0, .slice none 0 0, .slice none 0 0] 64 :: blk b20 [.int .i64 m.kind, .int .i64 m.sp, .int .i64 m.att, .int .i64 m.part, .int .i64 m.seq, .int .i64 m.next, .int .i64 m.ep, .int .i64 m.why, .slice A1 m.set.length c2, .slice A6 m.pairs.length c7] 64 :: Ar) [rsl (kInt .i64) (.slice A1 m.set.length c2) m.set, rsl kPair (.slice A6 m.pairs.length c7) m.pairs]) mo (by kernel_rfl) (fun w H => ⟨_, H⟩) H (fun w H => ?_)))))
     refine d_1 rfl (d_val rfl rfl rfl (fun w ⟨Ar, H⟩ => r_nilP rfl rfl) (d_val rfl rfl rfl (fun w ⟨Ar, H⟩ => r_fa rfl fo185_4 rfl) (d_val rfl rfl rfl (fun w ⟨Ar, H⟩ => r_ld rfl ty183 rfl (H.cellI 0 rfl rfl)) (d_val rfl rfl rfl (fun w ⟨Ar, H⟩ => r_fa rfl fo64_1 rfl) (d_val rfl rfl rfl (fun w ⟨Ar, H⟩ => r_ld rfl ty3 rfl (H.cellI 11 rfl rfl)) (d_val rfl rfl rfl (fun w ⟨Ar, H⟩ => r_fa rfl fo64_2 rfl) (d_val rfl rfl rfl (fun w ⟨Ar, H⟩ => r_ld rfl ty3 rfl (H.cellI 11 rfl rfl)) (d_main rfl ?_))))))))
     replace H := H.p8
     refine sc (stNext_ok sb R32.st m.sp m.att) H l0 rfl rfl (e_fn kn122 rfl rfl) ?_
     rintro _ _ w ⟨rfl, rfl⟩ H
     replace H := H.p8.p8.p8.p8.p8.p8.p8.p8
     refine d_back ⟨_, H⟩ (d_val rfl rfl rfl (fun w ⟨Ar, H⟩ => r_fa rfl fo64_5 rfl) (d_main rfl ?_))
     replace H := H.pick 12 rfl
     refine s_st rfl rfl rfl ty3 rfl rfl H rfl (Nat.le_of_ble_eq_true rfl) (fun u hu => by simp [Value.cells] at hu; subst hu; rfl) (fun w H => ?_)
     replace H := H.h1 (A := blk b25 [.int .i64 3, .int .i64 m.sp, .int .i64 m.att, .int .i64 R.part, .int .i64 0, .int .i64 (sgNext R32.st m.sp m.att), .int .i64 R.ep, .int .i64 0, .slice none 0 0, .slice none 0 0] 64) |>.pick 12 rfl |>.pick 12 rfl |>.pick 12 rfl |>.pick 12 rfl |>.pick 12 rfl |>.pick 12 rfl |>.pick 12 rfl |>.pick 12 rfl |>.pick 12 rfl |>.pick 12 rfl |>.pick 12 rfl |>.pick 12 rfl
     refine d_back ⟨_, H⟩ (d_nil (q_then (c_seq (c_seq (c_reg (s_1 rfl (s_val rfl rfl (r_nilP rfl rfl) (s_val rfl rfl (r_fa rfl fo181_0 rfl) (s_val rfl rfl (r_ld rfl ty4 rfl (H.cellI 0 rfl (redC_at0 (by omega)))) (s_nil (q_then ?_)))))))))))
     refine c_cond (b := (R32.g ((m.sp).toNat)).merged) rfl (fun h38 => ?_) (fun h38 => ?_)
     ·refine c_reg (s_val rfl rfl (r_fa rfl fo64_5 rfl) ?_)
      replace H := H.pick 12 rfl
      refine s_st rfl rfl rfl ty3 rfl rfl H rfl (Nat.le_of_ble_eq_true rfl) (fun u hu => by simp [Value.cells] at hu; subst hu; rfl) (fun w H => ?_)
      replace H := H.h1 (A := blk b25 [.int .i64 3, .int .i64 m.sp, .int .i64 m.att, .int .i64 R.part, .int .i64 0, .int .i64 40, .int .i64 R.ep, .int .i64 0, .slice none 0 0, .slice none 0 0] 64)
      refine s_nil (q_then (c_seq (c_reg (s_val rfl rfl (r_ldA (cs := [.int .i64 3, .int .i64 m.sp, .int .i64 m.att, .int .i64 R.part, .int .i64 0, .int .i64 40, .int .i64 R.ep, .int .i64 0, .slice none 0 0, .slice none 0 0]) rfl ty64 rfl rfl (H.cellsI 0 rfl rfl)) (s_1 rfl ?_)))))
      replace H := H.pick 11 rfl
      refine s_st rfl rfl rfl ty64 rfl rfl H rfl (Nat.le_of_ble_eq_true rfl) (fun u hu => by simp [Value.cells] at hu; rcases hu with rfl | rfl | rfl | rfl | rfl | rfl | rfl | rfl | rfl | rfl <;> rfl) (fun w H => ?_)
      replace H := H.h1 (A := blk b21 [.int .i64 3, .int .i64 m.sp, .int .i64 m.att, .int .i64 R.part, .int .i64 0, .int .i64 40, .int .i64 R.ep, .int .i64 0, .slice none 0 0, .slice none 0 0] 64)
      refine s_1 rfl (s_nil (q_then (c_ret (q_retCT (cs := [.int .i64 3, .int .i64 m.sp, .int .i64 m.att, .int .i64 R.part, .int .i64 0, .int .i64 40, .int .i64 R.ep, .int .i64 0, .slice none 0 0, .slice none 0 0]) (v := v31) rfl rfl rfl ty64 rfl (H.cellsI 0 rfl rfl) ?_))))
      have hno : ¬ pushNo J R m := fun h => by rcases h with h | h | h; exact h hin22; omega; omega
      have ht : pushTakes R m := ⟨by simpa using h26, by omega, by simpa using h28⟩
      have hp := looks_part J ({ R with st := sgPut R.st m.sp m.att m.seq m.pairs } : Red) (m.sp).toNat
      rw [← hR33] at hp
      have e : pushR J R m = (R32, ⟨3, m.sp, m.att, R.part, 0, 40, R.ep, 0, [], []⟩, (looksR J ({ R with st := sgPut R.st m.sp m.att m.seq m.pairs } : Red) (m.sp).toNat).2) := by rw [pushR_yes hno, pushS_yes ht, ← hR33, ackR_is hp.1 hp.2 (if_pos (by simpa using h38))]
      replace H := H.pick 11 rfl |>.pick 11 rfl |>.pick 11 rfl |>.pick 11 rfl |>.pick 11 rfl |>.pick 11 rfl |>.pick 11 rfl |>.pick 11 rfl |>.pick 11 rfl |>.pick 11 rfl |>.k10
      replace H := redI_shut r (.slice A15 J.us.length c16) vM vC vR vK J cw ct co sb R32 hv34 vs35 us36 hsets37 H
      replace H := H.h1 (A := redI r (.slice A15 J.us.length c16) vM vC vR vK J cw ct co sb R32) |>.p1
      exact fin ⟨v31, rs29, by rw [e] <;> rfl, by rw [e] <;> rfl, by rw [e]; exact hf30⟩ H
     refine c_skip (q_then (c_seq (c_reg (s_val rfl rfl (r_ldA (cs := [.int .i64 3, .int .i64 m.sp, .int .i64 m.att, .int .i64 R.part, .int .i64 0, .int .i64 (sgNext R32.st m.sp m.att), .int .i64 R.ep, .int .i64 0, .slice none 0 0, .slice none 0 0]) rfl ty64 rfl rfl (H.cellsI 12 rfl rfl)) (s_1 rfl ?_)))))
     replace H := H.pick 10 rfl
     refine s_st rfl rfl rfl ty64 rfl rfl H rfl (Nat.le_of_ble_eq_true rfl) (fun u hu => by simp [Value.cells] at hu; rcases hu with rfl | rfl | rfl | rfl | rfl | rfl | rfl | rfl | rfl | rfl <;> rfl) (fun w H => ?_)
     replace H := H.h1 (A := blk b21 [.int .i64 3, .int .i64 m.sp, .int .i64 m.att, .int .i64 R.part, .int .i64 0, .int .i64 (sgNext R32.st m.sp m.att), .int .i64 R.ep, .int .i64 0, .slice none 0 0, .slice none 0 0] 64)
     refine s_1 rfl (s_nil (q_then (c_ret (q_retCT (cs := [.int .i64 3, .int .i64 m.sp, .int .i64 m.att, .int .i64 R.part, .int .i64 0, .int .i64 (sgNext R32.st m.sp m.att), .int .i64 R.ep, .int .i64 0, .slice none 0 0, .slice none 0 0]) (v := v31) rfl rfl rfl ty64 rfl (H.cellsI 0 rfl rfl) ?_))))
     have hno : ¬ pushNo J R m := fun h => by rcases h with h | h | h; exact h hin22; omega; omega
     have ht : pushTakes R m := ⟨by simpa using h26, by omega, by simpa using h28⟩
     have hp := looks_part J ({ R with st := sgPut R.st m.sp m.att m.seq m.pairs } : Red) (m.sp).toNat
     rw [← hR33] at hp
     have e : pushR J R m = (R32, ⟨3, m.sp, m.att, R.part, 0, sgNext R32.st m.sp m.att, R.ep, 0, [], []⟩, (looksR J ({ R with st := sgPut R.st m.sp m.att m.seq m.pairs } : Red) (m.sp).toNat).2) := by rw [pushR_yes hno, pushS_yes ht, ← hR33, ackR_is hp.1 hp.2 (if_neg (by simpa using h38))]
     replace H := H.pick 10 rfl |>.pick 10 rfl |>.pick 10 rfl |>.pick 10 rfl |>.pick 10 rfl |>.pick 10 rfl |>.pick 10 rfl |>.pick 10 rfl |>.pick 10 rfl |>.pick 10 rfl |>.k10
     replace H := redI_shut r (.slice A15 J.us.length c16) vM vC vR vK J cw ct co sb R32 hv34 vs35 us36 hsets37 H
     replace H := H.h1 (A := redI r (.slice A15 J.us.length c16) vM vC vR vK J cw ct co sb R32) |>.p1
     exact fin ⟨v31, rs29, by rw [e] <;> rfl, by rw [e] <;> rfl, by rw [e]; exact hf30⟩ H
    refine c_skip (q_then (c_seq (c_ord (.e 0 (.e 1 (.e 2 (.e 3 (.e 4 (.e 5 (.e 6 (.e 7 (.m 8 (.e 9 (.m 10 .z))))))))))) (fun w => ∃ Ar, Hd w0 F0 w (blk b21 [.int .i64 0, .int .i64 0, .int .i64 0, .int .i64 0, .int .i64 0, .int .i64 0, .int .i64 0, .int .i64 0, .slice none 0 0, .slice none 0 0] 64 :: blk b20 [.int .i64 m.kind, .int .i64 m.sp, .int .i64 m.att, .int .i64 m.part, .int .i64 m.seq, .int .i64 m.next, .int .i64 m.ep, .int .i64 m.why, .slice A1 m.set.length c2, .slice A6 m.pairs.length c7] 64 :: blk r (redC (.slice A15 J.us.length c16) vM vC vR vK J cw ct co R.part R.ep R.g hv11 sb vs12) 185 :: osl (kHd kPair) (.slice A15 J.us.length c16) J.us :: osl kIns vM J.map :: osl kIns vC J.comb :: osl kIns vR J.red :: osl (kInt .i64) vK J.marks :: prsS (R.g) hv11 :: osl (kHd (kInt .i64)) vs12 us13 :: stgI 253 sb (R.st) :: Ar) [rsl (kInt .i64) (.slice A1 m.set.length c2) m.set, rsl kPair (.slice A6 m.pairs.length c7) m.pairs]) mo (by kernel_rfl) (fun w H => ⟨_, H⟩) H (fun w H => ?_))))
    refine d_1 rfl (d_val rfl rfl rfl (fun w ⟨Ar, H⟩ => r_nilP rfl rfl) (d_val rfl rfl rfl (fun w ⟨Ar, H⟩ => r_fa rfl fo185_4 rfl) (d_val rfl rfl rfl (fun w ⟨Ar, H⟩ => r_ld rfl ty183 rfl (H.cellI 2 rfl rfl)) (d_val rfl rfl rfl (fun w ⟨Ar, H⟩ => r_fa rfl fo64_1 rfl) (d_val rfl rfl rfl (fun w ⟨Ar, H⟩ => r_ld rfl ty3 rfl (H.cellI 1 rfl rfl)) (d_val rfl rfl rfl (fun w ⟨Ar, H⟩ => r_fa rfl fo64_2 rfl) (d_val rfl rfl rfl (fun w ⟨Ar, H⟩ => r_ld rfl ty3 rfl (H.cellI 1 rfl rfl)) (d_main rfl ?_))))))))
    replace H := H.pick 10 rfl
    replace H : Hd _ _ _ [stgI 253 sb (R.st), blk b21 [.int .i64 0, .int .i64 0, .int .i64 0, .int .i64 0, .int .i64 0, .int .i64 0, .int .i64 0, .int .i64 0, .slice none 0 0, .slice none 0 0] 64, blk b20 [.int .i64 m.kind, .int .i64 m.sp, .int .i64 m.att, .int .i64 m.part, .int .i64 m.seq, .int .i64 m.next, .int .i64 m.ep, .int .i64 m.why, .slice A1 m.set.length c2, .slice A6 m.pairs.length c7] 64, blk r (redC (.slice A15 J.us.length c16) vM vC vR vK J cw ct co R.part R.ep R.g hv11 sb vs12) 185, osl (kHd kPair) (.slice A15 J.us.length c16) J.us, osl kIns vM J.map, osl kIns vC J.comb, osl kIns vR J.red, osl (kInt .i64) vK J.marks, prsS (R.g) hv11, osl (kHd (kInt .i64)) vs12 us13, blk b25 [.int .i64 3, .int .i64 m.sp, .int .i64 m.att, .int .i64 R.part, .int .i64 0, .int .i64 0, .int .i64 R.ep, .int .i64 0, .slice none 0 0, .slice none 0 0] 64] [rsl (kInt .i64) (.slice A1 m.set.length c2) m.set, rsl kPair (.slice A6 m.pairs.length c7) m.pairs] := H
    refine sc (stNext_ok sb R.st m.sp m.att) H l0 rfl rfl (e_fn kn122 rfl rfl) ?_
    rintro _ _ w ⟨rfl, rfl⟩ H
    replace H := H.pick 10 rfl |>.pick 10 rfl |>.pick 10 rfl |>.pick 10 rfl |>.pick 10 rfl |>.pick 10 rfl |>.pick 10 rfl |>.pick 10 rfl |>.pick 10 rfl |>.pick 10 rfl
    refine d_back ⟨_, H⟩ (d_val rfl rfl rfl (fun w ⟨Ar, H⟩ => r_fa rfl fo64_5 rfl) (d_main rfl ?_))
    replace H := H.pick 11 rfl
    refine s_st rfl rfl rfl ty3 rfl rfl H rfl (Nat.le_of_ble_eq_true rfl) (fun u hu => by simp [Value.cells] at hu; subst hu; rfl) (fun w H => ?_)
    replace H := H.h1 (A := blk b25 [.int .i64 3, .int .i64 m.sp, .int .i64 m.att, .int .i64 R.part, .int .i64 0, .int .i64 (sgNext R.st m.sp m.att), .int .i64 R.ep, .int .i64 0, .slice none 0 0, .slice none 0 0] 64) |>.pick 11 rfl |>.pick 11 rfl |>.pick 11 rfl |>.pick 11 rfl |>.pick 11 rfl |>.pick 11 rfl |>.pick 11 rfl |>.pick 11 rfl |>.pick 11 rfl |>.pick 11 rfl |>.pick 11 rfl
    refine d_back ⟨_, H⟩ (d_nil (q_then (c_seq (c_seq (c_reg (s_1 rfl (s_val rfl rfl (r_nilP rfl rfl) (s_val rfl rfl (r_fa rfl fo181_0 rfl) (s_val rfl rfl (r_ld rfl ty4 rfl (H.cellI 2 rfl (redC_at0 (by omega)))) (s_nil (q_then ?_)))))))))))
    refine c_cond (b := (R.g ((m.sp).toNat)).merged) rfl (fun h39 => ?_) (fun h39 => ?_)
    ·refine c_reg (s_val rfl rfl (r_fa rfl fo64_5 rfl) ?_)
     replace H := H.pick 11 rfl
     refine s_st rfl rfl rfl ty3 rfl rfl H rfl (Nat.le_of_ble_eq_true rfl) (fun u hu => by simp [Value.cells] at hu; subst hu; rfl) (fun w H => ?_)
     replace H := H.h1 (A := blk b25 [.int .i64 3, .int .i64 m.sp, .int .i64 m.att, .int .i64 R.part, .int .i64 0, .int .i64 40, .int .i64 R.ep, .int .i64 0, .slice none 0 0, .slice none 0 0] 64)
     refine s_nil (q_then (c_seq (c_reg (s_val rfl rfl (r_ldA (cs := [.int .i64 3, .int .i64 m.sp, .int .i64 m.att, .int .i64 R.part, .int .i64 0, .int .i64 40, .int .i64 R.ep, .int .i64 0, .slice none 0 0, .slice none 0 0]) rfl ty64 rfl rfl (H.cellsI 0 rfl rfl)) (s_1 rfl ?_)))))
     replace H := H.p1
     refine s_st rfl rfl rfl ty64 rfl rfl H rfl (Nat.le_of_ble_eq_true rfl) (fun u hu => by simp [Value.cells] at hu; rcases hu with rfl | rfl | rfl | rfl | rfl | rfl | rfl | rfl | rfl | rfl <;> rfl) (fun w H => ?_)
     replace H := H.h1 (A := blk b21 [.int .i64 3, .int .i64 m.sp, .int .i64 m.att, .int .i64 R.part, .int .i64 0, .int .i64 40, .int .i64 R.ep, .int .i64 0, .slice none 0 0, .slice none 0 0] 64)
     refine s_1 rfl (s_nil (q_then (c_ret (q_retCT (cs := [.int .i64 3, .int .i64 m.sp, .int .i64 m.att, .int .i64 R.part, .int .i64 0, .int .i64 40, .int .i64 R.ep, .int .i64 0, .slice none 0 0, .slice none 0 0]) (v := .slice none 0 0) rfl rfl rfl ty64 rfl (H.cellsI 0 rfl rfl) ?_))))
     have hno : ¬ pushNo J R m := fun h => by rcases h with h | h | h; exact h hin22; omega; omega
     have ht : ¬ pushTakes R m := fun h => absurd h.2.2 (by simpa using h28)
     have e : pushR J R m = (R, ⟨3, m.sp, m.att, R.part, 0, 40, R.ep, 0, [], []⟩, []) := by rw [pushR_yes hno, pushS_no ht, ackR_is rfl rfl (if_pos (by simpa using h39))]
     replace H := H.newnil kRec |>.pick 12 rfl |>.pick 12 rfl |>.pick 12 rfl |>.pick 12 rfl |>.pick 12 rfl |>.pick 12 rfl |>.pick 12 rfl |>.pick 12 rfl |>.pick 12 rfl |>.k10
     replace H := redI_shut r (.slice A15 J.us.length c16) vM vC vR vK J cw ct co sb R hv11 vs12 us13 hsets14 H
     replace H := H.h1 (A := redI r (.slice A15 J.us.length c16) vM vC vR vK J cw ct co sb R) |>.p1
     exact fin ⟨(.slice none 0 0), [], by rw [e] <;> rfl, by rw [e] <;> rfl, by rw [e]; rfl⟩ H
    refine c_skip (q_then (c_seq (c_reg (s_val rfl rfl (r_ldA (cs := [.int .i64 3, .int .i64 m.sp, .int .i64 m.att, .int .i64 R.part, .int .i64 0, .int .i64 (sgNext R.st m.sp m.att), .int .i64 R.ep, .int .i64 0, .slice none 0 0, .slice none 0 0]) rfl ty64 rfl rfl (H.cellsI 11 rfl rfl)) (s_1 rfl (s_st rfl rfl rfl ty64 rfl rfl H rfl (Nat.le_of_ble_eq_true rfl) (fun u hu => by simp [Value.cells] at hu; rcases hu with rfl | rfl | rfl | rfl | rfl | rfl | rfl | rfl | rfl | rfl <;> rfl) (fun w H => ?_)))))))
    replace H := H.h1 (A := blk b21 [.int .i64 3, .int .i64 m.sp, .int .i64 m.att, .int .i64 R.part, .int .i64 0, .int .i64 (sgNext R.st m.sp m.att), .int .i64 R.ep, .int .i64 0, .slice none 0 0, .slice none 0 0] 64)
    refine s_1 rfl (s_nil (q_then (c_ret (q_retCT (cs := [.int .i64 3, .int .i64 m.sp, .int .i64 m.att, .int .i64 R.part, .int .i64 0, .int .i64 (sgNext R.st m.sp m.att), .int .i64 R.ep, .int .i64 0, .slice none 0 0, .slice none 0 0]) (v := .slice none 0 0) rfl rfl rfl ty64 rfl (H.cellsI 0 rfl rfl) ?_))))
    have hno : ¬ pushNo J R m := fun h => by rcases h with h | h | h; exact h hin22; omega; omega
    have ht : ¬ pushTakes R m := fun h => absurd h.2.2 (by simpa using h28)
    have e : pushR J R m = (R, ⟨3, m.sp, m.att, R.part, 0, sgNext R.st m.sp m.att, R.ep, 0, [], []⟩, []) := by rw [pushR_yes hno, pushS_no ht, ackR_is rfl rfl (if_neg (by simpa using h39))]
    replace H := H.newnil kRec |>.pick 11 rfl |>.pick 11 rfl |>.pick 11 rfl |>.pick 11 rfl |>.pick 11 rfl |>.pick 11 rfl |>.pick 11 rfl |>.pick 11 rfl |>.pick 11 rfl |>.k10
    replace H := redI_shut r (.slice A15 J.us.length c16) vM vC vR vK J cw ct co sb R hv11 vs12 us13 hsets14 H
    replace H := H.h1 (A := redI r (.slice A15 J.us.length c16) vM vC vR vK J cw ct co sb R) |>.p1
    exact fin ⟨(.slice none 0 0), [], by rw [e] <;> rfl, by rw [e] <;> rfl, by rw [e]; rfl⟩ H
   refine s_k 4 rfl (s_nil (q_then (c_no rfl (c_skip (q_then (c_seq (c_ord (.e 0 (.e 1 (.e 2 (.e 3 (.e 4 (.e 5 (.e 6 (.e 7 (.m 8 (.e 9 (.m 10 .z))))))))))) (fun w => ∃ Ar, Hd w0 F0 w (blk b21 [.int .i64 0, .int .i64 0, .int .i64 0, .int .i64 0, .int .i64 0, .int .i64 0, .int .i64 0, .int .i64 0, .slice none 0 0, .slice none 0 0] 64 :: blk b20 [.int .i64 m.kind, .int .i64 m.sp, .int .i64 m.att, .int .i64 m.part, .int .i64 m.seq, .int .i64 m.next, .int .i64 m.ep, .int .i64 m.why, .slice A1 m.set.length c2, .slice A6 m.pairs.length c7] 64 :: blk r (redC (.slice A15 J.us.length c16) vM vC vR vK J cw ct co R.part R.ep R.g hv11 sb vs12) 185 :: osl (kHd kPair) (.slice A15 J.us.length c16) J.us :: osl kIns vM J.map :: osl kIns vC J.comb :: osl kIns vR J.red :: osl (kInt .i64) vK J.marks :: prsS (R.g) hv11 :: osl (kHd (kInt .i64)) vs12 us13 :: stgI 253 sb (R.st) :: Ar) [rsl (kInt .i64) (.slice A1 m.set.length c2) m.set, rsl kPair (.slice A6 m.pairs.length c7) m.pairs]) mo (by kernel_rfl) (fun w H => ⟨_, H⟩) H (fun w H => ?_))))))))
   refine d_1 rfl (d_val rfl rfl rfl (fun w ⟨Ar, H⟩ => r_nilP rfl rfl) (d_val rfl rfl rfl (fun w ⟨Ar, H⟩ => r_fa rfl fo185_4 rfl) (d_val rfl rfl rfl (fun w ⟨Ar, H⟩ => r_ld rfl ty183 rfl (H.cellI 2 rfl rfl)) (d_val rfl rfl rfl (fun w ⟨Ar, H⟩ => r_fa rfl fo64_1 rfl) (d_val rfl rfl rfl (fun w ⟨Ar, H⟩ => r_ld rfl ty3 rfl (H.cellI 1 rfl rfl)) (d_val rfl rfl rfl (fun w ⟨Ar, H⟩ => r_fa rfl fo64_2 rfl) (d_val rfl rfl rfl (fun w ⟨Ar, H⟩ => r_ld rfl ty3 rfl (H.cellI 1 rfl rfl)) (d_main rfl ?_))))))))
   replace H := H.pick 10 rfl
   refine sc (stNext_ok sb R.st m.sp m.att) H l0 rfl rfl (e_fn kn122 rfl rfl) ?_
   rintro _ _ w ⟨rfl, rfl⟩ H
   replace H := H.pick 10 rfl |>.pick 10 rfl |>.pick 10 rfl |>.pick 10 rfl |>.pick 10 rfl |>.pick 10 rfl |>.pick 10 rfl |>.pick 10 rfl |>.pick 10 rfl |>.pick 10 rfl
   refine d_back ⟨_, H⟩ (d_val rfl rfl rfl (fun w ⟨Ar, H⟩ => r_fa rfl fo64_5 rfl) (d_main rfl ?_))
   replace H := H.pick 11 rfl
   refine s_st rfl rfl rfl ty3 rfl rfl H rfl (Nat.le_of_ble_eq_true rfl) (fun u hu => by simp [Value.cells] at hu; subst hu; rfl) (fun w H => ?_)
   replace H := H.h1 (A := blk b25 [.int .i64 3, .int .i64 m.sp, .int .i64 m.att, .int .i64 R.part, .int .i64 0, .int .i64 (sgNext R.st m.sp m.att), .int .i64 R.ep, .int .i64 0, .slice none 0 0, .slice none 0 0] 64) |>.pick 11 rfl |>.pick 11 rfl |>.pick 11 rfl |>.pick 11 rfl |>.pick 11 rfl |>.pick 11 rfl |>.pick 11 rfl |>.pick 11 rfl |>.pick 11 rfl |>.pick 11 rfl |>.pick 11 rfl
   refine d_back ⟨_, H⟩ (d_nil (q_then (c_seq (c_seq (c_reg (s_1 rfl (s_val rfl rfl (r_nilP rfl rfl) (s_val rfl rfl (r_fa rfl fo181_0 rfl) (s_val rfl rfl (r_ld rfl ty4 rfl (H.cellI 2 rfl (redC_at0 (by omega)))) (s_nil (q_then ?_)))))))))))
   refine c_cond (b := (R.g ((m.sp).toNat)).merged) rfl (fun h40 => ?_) (fun h40 => ?_)
   ·refine c_reg (s_val rfl rfl (r_fa rfl fo64_5 rfl) ?_)
    replace H := H.pick 11 rfl
    refine s_st rfl rfl rfl ty3 rfl rfl H rfl (Nat.le_of_ble_eq_true rfl) (fun u hu => by simp [Value.cells] at hu; subst hu; rfl) (fun w H => ?_)
    replace H := H.h1 (A := blk b25 [.int .i64 3, .int .i64 m.sp, .int .i64 m.att, .int .i64 R.part, .int .i64 0, .int .i64 40, .int .i64 R.ep, .int .i64 0, .slice none 0 0, .slice none 0 0] 64)
    refine s_nil (q_then (c_seq (c_reg (s_val rfl rfl (r_ldA (cs := [.int .i64 3, .int .i64 m.sp, .int .i64 m.att, .int .i64 R.part, .int .i64 0, .int .i64 40, .int .i64 R.ep, .int .i64 0, .slice none 0 0, .slice none 0 0]) rfl ty64 rfl rfl (H.cellsI 0 rfl rfl)) (s_1 rfl ?_)))))
    replace H := H.p1
    refine s_st rfl rfl rfl ty64 rfl rfl H rfl (Nat.le_of_ble_eq_true rfl) (fun u hu => by simp [Value.cells] at hu; rcases hu with rfl | rfl | rfl | rfl | rfl | rfl | rfl | rfl | rfl | rfl <;> rfl) (fun w H => ?_)
    replace H := H.h1 (A := blk b21 [.int .i64 3, .int .i64 m.sp, .int .i64 m.att, .int .i64 R.part, .int .i64 0, .int .i64 40, .int .i64 R.ep, .int .i64 0, .slice none 0 0, .slice none 0 0] 64)
    refine s_1 rfl (s_nil (q_then (c_ret (q_retCT (cs := [.int .i64 3, .int .i64 m.sp, .int .i64 m.att, .int .i64 R.part, .int .i64 0, .int .i64 40, .int .i64 R.ep, .int .i64 0, .slice none 0 0, .slice none 0 0]) (v := .slice none 0 0) rfl rfl rfl ty64 rfl (H.cellsI 0 rfl rfl) ?_))))
    have hno : ¬ pushNo J R m := fun h => by rcases h with h | h | h; exact h hin22; omega; omega
    have ht : ¬ pushTakes R m := fun h => by have h1 := h.1; have h2 := h.2.1; first | omega | (simp_all)
    have e : pushR J R m = (R, ⟨3, m.sp, m.att, R.part, 0, 40, R.ep, 0, [], []⟩, []) := by rw [pushR_yes hno, pushS_no ht, ackR_is rfl rfl (if_pos (by simpa using h40))]
    replace H := H.newnil kRec |>.pick 12 rfl |>.pick 12 rfl |>.pick 12 rfl |>.pick 12 rfl |>.pick 12 rfl |>.pick 12 rfl |>.pick 12 rfl |>.pick 12 rfl |>.pick 12 rfl |>.k10
    replace H := redI_shut r (.slice A15 J.us.length c16) vM vC vR vK J cw ct co sb R hv11 vs12 us13 hsets14 H
    replace H := H.h1 (A := redI r (.slice A15 J.us.length c16) vM vC vR vK J cw ct co sb R) |>.p1
    exact fin ⟨(.slice none 0 0), [], by rw [e] <;> rfl, by rw [e] <;> rfl, by rw [e]; rfl⟩ H
   refine c_skip (q_then (c_seq (c_reg (s_val rfl rfl (r_ldA (cs := [.int .i64 3, .int .i64 m.sp, .int .i64 m.att, .int .i64 R.part, .int .i64 0, .int .i64 (sgNext R.st m.sp m.att), .int .i64 R.ep, .int .i64 0, .slice none 0 0, .slice none 0 0]) rfl ty64 rfl rfl (H.cellsI 11 rfl rfl)) (s_1 rfl (s_st rfl rfl rfl ty64 rfl rfl H rfl (Nat.le_of_ble_eq_true rfl) (fun u hu => by simp [Value.cells] at hu; rcases hu with rfl | rfl | rfl | rfl | rfl | rfl | rfl | rfl | rfl | rfl <;> rfl) (fun w H => ?_)))))))
   replace H := H.h1 (A := blk b21 [.int .i64 3, .int .i64 m.sp, .int .i64 m.att, .int .i64 R.part, .int .i64 0, .int .i64 (sgNext R.st m.sp m.att), .int .i64 R.ep, .int .i64 0, .slice none 0 0, .slice none 0 0] 64)
   refine s_1 rfl (s_nil (q_then (c_ret (q_retCT (cs := [.int .i64 3, .int .i64 m.sp, .int .i64 m.att, .int .i64 R.part, .int .i64 0, .int .i64 (sgNext R.st m.sp m.att), .int .i64 R.ep, .int .i64 0, .slice none 0 0, .slice none 0 0]) (v := .slice none 0 0) rfl rfl rfl ty64 rfl (H.cellsI 0 rfl rfl) ?_))))
   have hno : ¬ pushNo J R m := fun h => by rcases h with h | h | h; exact h hin22; omega; omega
   have ht : ¬ pushTakes R m := fun h => by have h1 := h.1; have h2 := h.2.1; first | omega | (simp_all)
   have e : pushR J R m = (R, ⟨3, m.sp, m.att, R.part, 0, sgNext R.st m.sp m.att, R.ep, 0, [], []⟩, []) := by rw [pushR_yes hno, pushS_no ht, ackR_is rfl rfl (if_neg (by simpa using h40))]
   replace H := H.newnil kRec |>.pick 11 rfl |>.pick 11 rfl |>.pick 11 rfl |>.pick 11 rfl |>.pick 11 rfl |>.pick 11 rfl |>.pick 11 rfl |>.pick 11 rfl |>.pick 11 rfl |>.k10
   replace H := redI_shut r (.slice A15 J.us.length c16) vM vC vR vK J cw ct co sb R hv11 vs12 us13 hsets14 H
   replace H := H.h1 (A := redI r (.slice A15 J.us.length c16) vM vC vR vK J cw ct co sb R) |>.p1
   exact fin ⟨(.slice none 0 0), [], by rw [e] <;> rfl, by rw [e] <;> rfl, by rw [e]; rfl⟩ H
  refine s_k 10 rfl (s_nil (q_then (c_no rfl (c_skip (q_then (c_seq (c_ord (.e 0 (.e 1 (.e 2 (.e 3 (.e 4 (.e 5 (.e 6 (.e 7 (.m 8 (.e 9 (.m 10 .z))))))))))) (fun w => ∃ Ar, Hd w0 F0 w (blk b21 [.int .i64 0, .int .i64 0, .int .i64 0, .int .i64 0, .int .i64 0, .int .i64 0, .int .i64 0, .int .i64 0, .slice none 0 0, .slice none 0 0] 64 :: blk b20 [.int .i64 m.kind, .int .i64 m.sp, .int .i64 m.att, .int .i64 m.part, .int .i64 m.seq, .int .i64 m.next, .int .i64 m.ep, .int .i64 m.why, .slice A1 m.set.length c2, .slice A6 m.pairs.length c7] 64 :: blk r (redC (.slice A15 J.us.length c16) vM vC vR vK J cw ct co R.part R.ep R.g hv11 sb vs12) 185 :: osl (kHd kPair) (.slice A15 J.us.length c16) J.us :: osl kIns vM J.map :: osl kIns vC J.comb :: osl kIns vR J.red :: osl (kInt .i64) vK J.marks :: prsS (R.g) hv11 :: osl (kHd (kInt .i64)) vs12 us13 :: stgI 253 sb (R.st) :: Ar) [rsl (kInt .i64) (.slice A1 m.set.length c2) m.set, rsl kPair (.slice A6 m.pairs.length c7) m.pairs]) mo (by kernel_rfl) (fun w H => ⟨_, H⟩) H (fun w H => ?_))))))))
  refine d_1 rfl (d_val rfl rfl rfl (fun w ⟨Ar, H⟩ => r_nilP rfl rfl) (d_val rfl rfl rfl (fun w ⟨Ar, H⟩ => r_fa rfl fo185_4 rfl) (d_val rfl rfl rfl (fun w ⟨Ar, H⟩ => r_ld rfl ty183 rfl (H.cellI 2 rfl rfl)) (d_val rfl rfl rfl (fun w ⟨Ar, H⟩ => r_fa rfl fo64_1 rfl) (d_val rfl rfl rfl (fun w ⟨Ar, H⟩ => r_ld rfl ty3 rfl (H.cellI 1 rfl rfl)) (d_val rfl rfl rfl (fun w ⟨Ar, H⟩ => r_fa rfl fo64_2 rfl) (d_val rfl rfl rfl (fun w ⟨Ar, H⟩ => r_ld rfl ty3 rfl (H.cellI 1 rfl rfl)) (d_main rfl ?_))))))))
  replace H := H.pick 10 rfl
  refine sc (stNext_ok sb R.st m.sp m.att) H l0 rfl rfl (e_fn kn122 rfl rfl) ?_
  rintro _ _ w ⟨rfl, rfl⟩ H
  replace H := H.pick 10 rfl |>.pick 10 rfl |>.pick 10 rfl |>.pick 10 rfl |>.pick 10 rfl |>.pick 10 rfl |>.pick 10 rfl |>.pick 10 rfl |>.pick 10 rfl |>.pick 10 rfl
  refine d_back ⟨_, H⟩ (d_val rfl rfl rfl (fun w ⟨Ar, H⟩ => r_fa rfl fo64_5 rfl) (d_main rfl ?_))
  replace H := H.pick 11 rfl
  refine s_st rfl rfl rfl ty3 rfl rfl H rfl (Nat.le_of_ble_eq_true rfl) (fun u hu => by simp [Value.cells] at hu; subst hu; rfl) (fun w H => ?_)
  replace H := H.h1 (A := blk b25 [.int .i64 3, .int .i64 m.sp, .int .i64 m.att, .int .i64 R.part, .int .i64 0, .int .i64 (sgNext R.st m.sp m.att), .int .i64 R.ep, .int .i64 0, .slice none 0 0, .slice none 0 0] 64) |>.pick 11 rfl |>.pick 11 rfl |>.pick 11 rfl |>.pick 11 rfl |>.pick 11 rfl |>.pick 11 rfl |>.pick 11 rfl |>.pick 11 rfl |>.pick 11 rfl |>.pick 11 rfl |>.pick 11 rfl
  refine d_back ⟨_, H⟩ (d_nil (q_then (c_seq (c_seq (c_reg (s_1 rfl (s_val rfl rfl (r_nilP rfl rfl) (s_val rfl rfl (r_fa rfl fo181_0 rfl) (s_val rfl rfl (r_ld rfl ty4 rfl (H.cellI 2 rfl (redC_at0 (by omega)))) (s_nil (q_then ?_)))))))))))
  refine c_cond (b := (R.g ((m.sp).toNat)).merged) rfl (fun h41 => ?_) (fun h41 => ?_)
  ·refine c_reg (s_val rfl rfl (r_fa rfl fo64_5 rfl) ?_)
   replace H := H.pick 11 rfl
   refine s_st rfl rfl rfl ty3 rfl rfl H rfl (Nat.le_of_ble_eq_true rfl) (fun u hu => by simp [Value.cells] at hu; subst hu; rfl) (fun w H => ?_)
   replace H := H.h1 (A := blk b25 [.int .i64 3, .int .i64 m.sp, .int .i64 m.att, .int .i64 R.part, .int .i64 0, .int .i64 40, .int .i64 R.ep, .int .i64 0, .slice none 0 0, .slice none 0 0] 64)
   refine s_nil (q_then (c_seq (c_reg (s_val rfl rfl (r_ldA (cs := [.int .i64 3, .int .i64 m.sp, .int .i64 m.att, .int .i64 R.part, .int .i64 0, .int .i64 40, .int .i64 R.ep, .int .i64 0, .slice none 0 0, .slice none 0 0]) rfl ty64 rfl rfl (H.cellsI 0 rfl rfl)) (s_1 rfl ?_)))))
   replace H := H.p1
   refine s_st rfl rfl rfl ty64 rfl rfl H rfl (Nat.le_of_ble_eq_true rfl) (fun u hu => by simp [Value.cells] at hu; rcases hu with rfl | rfl | rfl | rfl | rfl | rfl | rfl | rfl | rfl | rfl <;> rfl) (fun w H => ?_)
   replace H := H.h1 (A := blk b21 [.int .i64 3, .int .i64 m.sp, .int .i64 m.att, .int .i64 R.part, .int .i64 0, .int .i64 40, .int .i64 R.ep, .int .i64 0, .slice none 0 0, .slice none 0 0] 64)
   refine s_1 rfl (s_nil (q_then (c_ret (q_retCT (cs := [.int .i64 3, .int .i64 m.sp, .int .i64 m.att, .int .i64 R.part, .int .i64 0, .int .i64 40, .int .i64 R.ep, .int .i64 0, .slice none 0 0, .slice none 0 0]) (v := .slice none 0 0) rfl rfl rfl ty64 rfl (H.cellsI 0 rfl rfl) ?_))))
   have hno : ¬ pushNo J R m := fun h => by rcases h with h | h | h; exact h hin22; omega; omega
   have ht : ¬ pushTakes R m := fun h => by have h1 := h.1; have h2 := h.2.1; first | omega | (simp_all)
   have e : pushR J R m = (R, ⟨3, m.sp, m.att, R.part, 0, 40, R.ep, 0, [], []⟩, []) := by rw [pushR_yes hno, pushS_no ht, ackR_is rfl rfl (if_pos (by simpa using h41))]
   replace H := H.newnil kRec |>.pick 12 rfl |>.pick 12 rfl |>.pick 12 rfl |>.pick 12 rfl |>.pick 12 rfl |>.pick 12 rfl |>.pick 12 rfl |>.pick 12 rfl |>.pick 12 rfl |>.k10
   replace H := redI_shut r (.slice A15 J.us.length c16) vM vC vR vK J cw ct co sb R hv11 vs12 us13 hsets14 H
   replace H := H.h1 (A := redI r (.slice A15 J.us.length c16) vM vC vR vK J cw ct co sb R) |>.p1
   exact fin ⟨(.slice none 0 0), [], by rw [e] <;> rfl, by rw [e] <;> rfl, by rw [e]; rfl⟩ H
  refine c_skip (q_then (c_seq (c_reg (s_val rfl rfl (r_ldA (cs := [.int .i64 3, .int .i64 m.sp, .int .i64 m.att, .int .i64 R.part, .int .i64 0, .int .i64 (sgNext R.st m.sp m.att), .int .i64 R.ep, .int .i64 0, .slice none 0 0, .slice none 0 0]) rfl ty64 rfl rfl (H.cellsI 11 rfl rfl)) (s_1 rfl (s_st rfl rfl rfl ty64 rfl rfl H rfl (Nat.le_of_ble_eq_true rfl) (fun u hu => by simp [Value.cells] at hu; rcases hu with rfl | rfl | rfl | rfl | rfl | rfl | rfl | rfl | rfl | rfl <;> rfl) (fun w H => ?_)))))))
  replace H := H.h1 (A := blk b21 [.int .i64 3, .int .i64 m.sp, .int .i64 m.att, .int .i64 R.part, .int .i64 0, .int .i64 (sgNext R.st m.sp m.att), .int .i64 R.ep, .int .i64 0, .slice none 0 0, .slice none 0 0] 64)
  refine s_1 rfl (s_nil (q_then (c_ret (q_retCT (cs := [.int .i64 3, .int .i64 m.sp, .int .i64 m.att, .int .i64 R.part, .int .i64 0, .int .i64 (sgNext R.st m.sp m.att), .int .i64 R.ep, .int .i64 0, .slice none 0 0, .slice none 0 0]) (v := .slice none 0 0) rfl rfl rfl ty64 rfl (H.cellsI 0 rfl rfl) ?_))))
  have hno : ¬ pushNo J R m := fun h => by rcases h with h | h | h; exact h hin22; omega; omega
  have ht : ¬ pushTakes R m := fun h => by have h1 := h.1; have h2 := h.2.1; first | omega | (simp_all)
  have e : pushR J R m = (R, ⟨3, m.sp, m.att, R.part, 0, sgNext R.st m.sp m.att, R.ep, 0, [], []⟩, []) := by rw [pushR_yes hno, pushS_no ht, ackR_is rfl rfl (if_neg (by simpa using h41))]
  replace H := H.newnil kRec |>.pick 11 rfl |>.pick 11 rfl |>.pick 11 rfl |>.pick 11 rfl |>.pick 11 rfl |>.pick 11 rfl |>.pick 11 rfl |>.pick 11 rfl |>.pick 11 rfl |>.k10
  replace H := redI_shut r (.slice A15 J.us.length c16) vM vC vR vK J cw ct co sb R hv11 vs12 us13 hsets14 H
  replace H := H.h1 (A := redI r (.slice A15 J.us.length c16) vM vC vR vK J cw ct co sb R) |>.p1
  exact fin ⟨(.slice none 0 0), [], by rw [e] <;> rfl, by rw [e] <;> rfl, by rw [e]; rfl⟩ H
 refine c_reg (s_1 rfl (s_val rfl rfl (r_fa rfl fo64_1 rfl) (s_val rfl rfl (r_ld rfl ty3 rfl (H.cellI 1 rfl rfl)) (sc (at_no r A15 J.us.length c16 vM vC vR vK J cw ct co R.part R.ep R.g hv11 sb vs12 m.sp (by first | assumption | omega)) H (lA 2 rfl (fun _ h => h) l0) rfl rfl (e_fn kn118 rfl rfl) ?_))))
 rintro _ _ w ⟨rfl, rfl⟩ H
 refine s_1 rfl (s_nil (q_then (c_seq (c_seq (c_draw mo (by kernel_rfl) H (u_1 rfl (u_val rfl rfl (fun w H => r_peq rfl un178 rfl rfl) (u_k 12 rfl (u_k 2 rfl (u_end (fun w H => (q_then (c_yes rfl (c_seq (c_reg (s_val rfl rfl (r_bd (parts := []) (vs := []) (cs := [.int .i64 0, .int .i64 0, .int .i64 0, .int .i64 0, .int .i64 0, .int .i64 0, .int .i64 0, .int .i64 0, .slice none 0 0, .slice none 0 0]) rfl bd64 rfl rfl) (s_st rfl rfl rfl ty64 rfl rfl H rfl (Nat.le_of_ble_eq_true rfl) (fun u hu => by simp [Value.cells] at hu; rcases hu with rfl | rfl | rfl | rfl | rfl | rfl | rfl | rfl | rfl | rfl <;> rfl) (fun w H => (s_1 rfl (s_nil (q_then (c_ret (q_thenR (q_retCT (cs := [.int .i64 0, .int .i64 0, .int .i64 0, .int .i64 0, .int .i64 0, .int .i64 0, .int .i64 0, .int .i64 0, .slice none 0 0, .slice none 0 0]) (v := .slice none 0 0) rfl rfl rfl ty64 rfl (H.cellsI 0 rfl rfl) ?_))))))))))))))))))))))))
 have e : pushR J R m = (R, msg0, []) := pushR_no (.inl hin22)
 replace H := H.newnil kRec |>.pick 11 rfl |>.pick 11 rfl |>.pick 11 rfl |>.pick 11 rfl |>.pick 11 rfl |>.pick 11 rfl |>.pick 11 rfl |>.pick 11 rfl |>.pick 11 rfl |>.k10
 replace H := redI_shut r (.slice A15 J.us.length c16) vM vC vR vK J cw ct co sb R hv11 vs12 us13 hsets14 H
 replace H := H.h1 (A := redI r (.slice A15 J.us.length c16) vM vC vR vK J cw ct co sb R) |>.p1
 exact fin ⟨(.slice none 0 0), [], by rw [e] <;> rfl, by rw [e] <;> rfl, by rw [e]; rfl⟩ H
theorem rpairs_ok (r : Nat) (A : Option Addr) (c : Nat) (vM2 : Value) (vC2 : Value) (vR2 : Value) (vK2 : Value) (J2 : Job) (cw : Int) (ct : Int) (co : Int) (part : Int) (ep : Int) (R : Red) (hv : Nat → Value) (sb : Nat) (vs : Value) (s : Int) (hus6 : J2.us.length ≤ 6) (hbp : ∀ i, (R.g i).pairs.length ≤ 1000) :
    Cn Tryz.prog 52 [.pointer (some ⟨r, 0, none⟩), .int .i64 s] [] [blk r (redC (.slice A J2.us.length c) vM2 vC2 vR2 vK2 J2 cw ct co part ep R.g hv sb vs) 185, prsS (R.g) hv] (fun v Bs => Bs = [osl kPair v (pairsR J2.us.length R s)]) := by
 intro w0 F0 H
 refine enter Tryz.func52 rfl rfl (Nat.le_of_ble_eq_true rfl) (c_seq (c_reg (s_1 rfl (s_nil (q_then (c_seq ?_))))))
 by_cases hin1 : 0 ≤ s ∧ s < ((J2.us.length : Nat) : Int)
 ·refine c_reg (s_k 2 rfl (sc (at_ok r A J2.us.length c vM2 vC2 vR2 vK2 J2 cw ct co part ep R.g hv sb vs s (by first | assumption | omega) (by first | assumption | omega)) H (lR 0 rfl l0) rfl rfl (e_fn kn118 rfl rfl) ?_))
  rintro _ _ w ⟨rfl, rfl⟩ H
  refine s_1 rfl (s_nil (q_then ?_))
  replace H : Hd _ _ _ [] [blk r (redC (.slice A J2.us.length c) vM2 vC2 vR2 vK2 J2 cw ct co part ep R.g hv sb vs) 185, prsS (R.g) hv] := H
  refine c_seq (c_seq (c_reg (s_1 rfl (s_val rfl rfl (r_peq rfl un178 rfl rfl) (s_nil (q_then (c_no rfl (c_skip (q_then (c_seq (c_reg (s_1 rfl (s_val rfl rfl (r_nilP rfl rfl) (s_val rfl rfl (r_fa rfl fo181_1 rfl) ?_))))))))))))))
  obtain ⟨A2, c3, e4, _, _, _⟩ := H.prsFormR (i := (s).toNat) 1 rfl (by omega)
  refine s_val rfl rfl (r_ld rfl ty35 rfl (H.cellRI 0 rfl ((redC_at1 (by omega)).trans (congrArg some e4)))) ?_
  have hbq := hbp (s).toNat
  refine sc (clone_ok (.slice A2 ((R.g (s).toNat).pairs.length) c3) (R.g (s).toNat).pairs (by omega)) H (lX (fun F hA hR => by rw [← e4]; exact prs_rd (by omega) (hR _ (List.mem_of_getElem? (i := 1) rfl))) l0) rfl rfl (e_fn kn123 rfl rfl) ?_
  rintro v5 _ w rfl H
  refine s_1 rfl (s_nil (q_then ?_))
  replace H : Hd _ _ _ [osl kPair v5 ((R.g (s).toNat).pairs)] [blk r (redC (.slice A J2.us.length c) vM2 vC2 vR2 vK2 J2 cw ct co part ep R.g hv sb vs) 185, prsS (R.g) hv] := H
  refine c_ret (q_ret1 rfl rfl ?_)
  replace H : Hd w0 F0 w [osl kPair v5 (pairsR J2.us.length R s)] [blk r (redC (.slice A J2.us.length c) vM2 vC2 vR2 vK2 J2 cw ct co part ep R.g hv sb vs) 185, prsS (R.g) hv] := by rw [pairsR_yes hin1]; exact H
  exact fin rfl H
 refine c_reg (s_k 2 rfl (sc (at_no r A J2.us.length c vM2 vC2 vR2 vK2 J2 cw ct co part ep R.g hv sb vs s (by first | assumption | omega)) H (lR 0 rfl l0) rfl rfl (e_fn kn118 rfl rfl) ?_))
 rintro _ _ w ⟨rfl, rfl⟩ H
 refine s_1 rfl (s_nil (q_then ?_))
 replace H : Hd _ _ _ [] [blk r (redC (.slice A J2.us.length c) vM2 vC2 vR2 vK2 J2 cw ct co part ep R.g hv sb vs) 185, prsS (R.g) hv] := H
 refine c_seq (c_seq (c_reg (s_1 rfl (s_val rfl rfl (r_peq rfl un178 rfl rfl) (s_nil (q_then (c_yes rfl (c_seq (c_reg (s_1 rfl (s_nil (q_then (c_ret (q_thenR (q_ret1 rfl rfl ?_)))))))))))))))
 replace H := H.newnil kPair
 replace H : Hd w0 F0 w [osl kPair (.slice none 0 0) (pairsR J2.us.length R s)] [blk r (redC (.slice A J2.us.length c) vM2 vC2 vR2 vK2 J2 cw ct co part ep R.g hv sb vs) 185, prsS (R.g) hv] := by rw [pairsR_no hin1]; exact H
 exact fin rfl H
theorem snaps_ok (r : Nat) (A : Option Addr) (c : Nat) (vM2 : Value) (vC2 : Value) (vR2 : Value) (vK2 : Value) (J2 : Job) (cw : Int) (ct : Int) (co : Int) (part : Int) (ep : Int) (R : Red) (hv : Nat → Value) (sb : Nat) (vs : Value) (us : List (Value × List Int)) (hred : ∀ i ∈ J2.red, In64 i.a) (hf64 : In64 J2.fuel) (hus6 : J2.us.length ≤ 6) (hbp : ∀ i, (R.g i).pairs.length ≤ 1000) (hsets : us.map (fun u => u.2) = R.sets) (hul : us.length ≤ 100000) (hsl : ∀ u ∈ us, u.2.length ≤ 1000) :
    Cn Tryz.prog 59 [.pointer (some ⟨r, 0, none⟩)] [] [blk r (redC (.slice A J2.us.length c) vM2 vC2 vR2 vK2 J2 cw ct co part ep R.g hv sb vs) 185, prsS (R.g) hv, rsl kIns vR2 J2.red, rsl (kHd (kInt .i64)) vs us, gl] (fun v Bs => ∃ zs : List (Two Int), Bs = [osl kSnap v zs] ∧ (zs.map snapP = snapsR dg J2 R)) := by
 intro w0 F0 H
 obtain ⟨A1, c2, rfl, hc3, hm4, hp5⟩ := H.fR 3 rfl
 refine enter Tryz.func59 rfl rfl (Nat.le_of_ble_eq_true rfl) (c_seq (c_reg (s_1 rfl (s_nil (q_then ?_)))))
 replace H : Hd _ _ _ [] [blk r (redC (.slice A J2.us.length c) vM2 vC2 vR2 vK2 J2 cw ct co part ep R.g hv sb (.slice A1 us.length c2)) 185, prsS (R.g) hv, rsl kIns vR2 J2.red, rsl (kHd (kInt .i64)) (.slice A1 us.length c2) us, gl] := H
 refine c_seq (c_seq (c_reg (s_1 rfl (s_val rfl rfl (r_peq rfl un75 rfl rfl) (s_nil (q_then (c_no rfl (c_skip (q_then (c_seq (c_reg (s_1 rfl (s_nil (q_then (c_seq (c_seq (c_reg (s_1 rfl (s_val rfl rfl (r_nilP rfl rfl) (s_val rfl rfl (r_fa rfl fo185_5 rfl) (s_val rfl rfl (r_ld rfl ty144 rfl (H.cellRI 0 rfl rfl)) (s_val rfl rfl (r_lenL rfl un144 rfl) (s_1 rfl (s_nil (q_then (c_block ?_))))))))))))))))))))))))))
 replace H := H.newnil kSnapF
 replace H := Hd.tw0 (α := Int) H
 replace H := H.h1 (A := twS ([] : List (Two Int))) |>.h2 (B := osl kSnapF (.slice none 0 0) (([] : List (Two Int)).map twF)) |>.p1
 refine c_loop (σ := Nat × Value × List (Two Int)) (fun (k, q, zs) => [(0, .pointer (some ⟨r, 0, none⟩)), (2, .slice none 0 0), (3, q), (13, .slice A1 us.length c2), (14, .int .i64 ((us.length : Nat) : Int)), (15, .int .i64 ((k : Nat) : Int))]) (fun (k, q, zs) w => (Hd w0 F0 w [osl kSnapF q (zs.map twF), twS zs] [blk r (redC (.slice A J2.us.length c) vM2 vC2 vR2 vK2 J2 cw ct co part ep R.g hv sb (.slice A1 us.length c2)) 185, prsS (R.g) hv, rsl kIns vR2 J2.red, rsl (kHd (kInt .i64)) (.slice A1 us.length c2) us, gl]) ∧ (k ≤ us.length) ∧ (zs.map snapP = (snapsR dg J2 R).take k)) (fun (k, q, zs) => us.length - k) (0, .slice none 0 0, []) ⟨rfl, rfl, rfl, rfl, rfl, rfl, trivial⟩ ⟨H, Nat.zero_le _, rfl⟩ ?_
 rintro ⟨k, q, zs⟩ w ⟨H, hk, hz⟩
 have hzl : zs.length = k := by have h1 := congrArg List.length hz; rw [List.length_map, List.length_take, snaps_len hsets] at h1; omega
 have hzl2 : (zs.map twF).length = zs.length := List.length_map ..
 refine c_seq (c_reg (s_val rfl rfl (r_lt rfl rfl rfl) (s_nil (q_then (c_seq ?_)))))
 refine c_dec rfl (fun h6 => ?_) (fun h6 => ?_)
 ·refine c_skip (q_then (c_seq (c_block (c_seq (c_reg ?_)))))
  obtain ⟨⟨u9, x7⟩, hx8⟩ : ∃ z9, us[k]? = some z9 := ⟨_, List.getElem?_eq_getElem (show k < us.length by omega)⟩
  obtain ⟨A10, c11, rfl, hc12, hm13⟩ := H.nestR 3 rfl hx8
  have hxl : x7.length ≤ 1000 := hsl _ (at_mem hx8)
  have th14 := H.thRd 3 rfl hx8
  refine s_val rfl rfl (r_iaE (p := oOf A1 + k * 1) rfl sl144 rfl rfl (by omega) (by omega) th14 rfl) (s_val rfl rfl (r_ld rfl ty24 rfl (H.elRd 3 rfl hx8 rfl)) (s_1 rfl (s_nil (q_then (c_seq (c_reg (s_k 2 rfl (sc (of_ok r A c vM2 vC2 vR2 vK2 J2 cw ct co part ep R hv sb (.slice A1 us.length c2) (.slice A10 x7.length c11) x7 (by first | assumption | omega) (by first | assumption | omega) (by first | assumption | omega) (by first | assumption | omega)) H (lR 0 rfl (lR 1 rfl (lX (fun F hA hR => nest_rsl (hR _ (List.mem_of_getElem? (i := 3) rfl)) hx8) (lR 2 rfl (lR 4 rfl l0))))) rfl rfl (e_fn kn131 rfl rfl) ?_))))))))
  rintro _ _ w ⟨u15, rfl, rfl⟩ H
  refine s_k 5 rfl (s_nil (q_then ?_))
  replace H : Hd _ _ _ [osl kPair u15 ((eachM dg J2.red (srt (runsOf J2.us.length R x7)) J2.fuel false).1), osl kSnapF q (zs.map twF), twS zs] [blk r (redC (.slice A J2.us.length c) vM2 vC2 vR2 vK2 J2 cw ct co part ep R.g hv sb (.slice A1 us.length c2)) 185, prsS (R.g) hv, rsl kIns vR2 J2.red, rsl (kHd (kInt .i64)) (.slice A1 us.length c2) us, gl] := H
  refine c_reg (s_k 2 rfl (sc (cloneInt_ok (.slice A10 x7.length c11) x7 (by first | assumption | omega)) H (lX (fun F hA hR => nest_rsl (hR _ (List.mem_of_getElem? (i := 3) rfl)) hx8) l0) rfl rfl (e_fn kn129 rfl rfl) ?_))
  rintro v16 _ w rfl H
  refine s_k 2 rfl ?_
  obtain ⟨A17, c18, rfl, hc19, hm20, hp21⟩ := H.fA 0 rfl
  obtain ⟨A22, c23, rfl, hc24, hm25, hp26⟩ := H.fA 1 rfl
  refine s_val rfl rfl (r_bd (parts := [(0, .tmp 27), (1, .tmp 28), (2, .tmp 29)]) (vs := [.slice A17 x7.length c18, .int .i64 ((eachM dg J2.red (srt (runsOf J2.us.length R x7)) J2.fuel false).2), .slice A22 (((eachM dg J2.red (srt (runsOf J2.us.length R x7)) J2.fuel false).1).length) c23]) (cs := [.slice A17 x7.length c18, .int .i64 ((eachM dg J2.red (srt (runsOf J2.us.length R x7)) J2.fuel false).2), .slice A22 (((eachM dg J2.red (srt (runsOf J2.us.length R x7)) J2.fuel false).1).length) c23]) rfl bd195 rfl rfl) (s_bsl (parts := [(0, .tmp 30)]) (vs := [.agg #[.slice A17 x7.length c18, .int .i64 ((eachM dg J2.red (srt (runsOf J2.us.length R x7)) J2.fuel false).2), .slice A22 (((eachM dg J2.red (srt (runsOf J2.us.length R x7)) J2.fuel false).1).length) c23]]) (cs := [.slice A17 x7.length c18, .int .i64 ((eachM dg J2.red (srt (runsOf J2.us.length R x7)) J2.fuel false).2), .slice A22 (((eachM dg J2.red (srt (runsOf J2.us.length R x7)) J2.fuel false).1).length) c23]) rfl rfl rfl sl94 zr195 rfl (by decide) (by decide) rfl rfl H (fun b27 w H => ?_))
  replace H := H.p3
  refine s_appF (xs := zs.map twF) (ys := [(⟨(eachM dg J2.red (srt (runsOf J2.us.length R x7)) J2.fuel false).2, ⟨A17, x7.length, c18⟩, ⟨A22, ((eachM dg J2.red (srt (runsOf J2.us.length R x7)) J2.fuel false).1).length, c23⟩⟩ : TwoF Int)]) rfl rfl rfl sl94 zr195 rfl (by decide) rfl rfl H (by first | omega | (simp only [List.length_append, List.length_cons, List.length_nil]; omega)) (fun F hA hR => blk_rsl (hA _ (List.mem_of_getElem? (i := 0) rfl)) rfl (by decide) (RepsR.flat_eq.2 rfl)) (fun v28 w H => (s_1 rfl (s_nil (q_blockN (q_then ?_)))))
  replace H : Hd _ _ _ [osl kSnapF v28 ((zs.map twF) ++ [(⟨(eachM dg J2.red (srt (runsOf J2.us.length R x7)) J2.fuel false).2, ⟨A17, x7.length, c18⟩, ⟨A22, ((eachM dg J2.red (srt (runsOf J2.us.length R x7)) J2.fuel false).1).length, c23⟩⟩ : TwoF Int)]), blk b27 [.slice A17 x7.length c18, .int .i64 ((eachM dg J2.red (srt (runsOf J2.us.length R x7)) J2.fuel false).2), .slice A22 (((eachM dg J2.red (srt (runsOf J2.us.length R x7)) J2.fuel false).1).length) c23] 195, osl (kInt .i64) (.slice A17 x7.length c18) x7, osl kPair (.slice A22 (((eachM dg J2.red (srt (runsOf J2.us.length R x7)) J2.fuel false).1).length) c23) ((eachM dg J2.red (srt (runsOf J2.us.length R x7)) J2.fuel false).1), twS zs] [blk r (redC (.slice A J2.us.length c) vM2 vC2 vR2 vK2 J2 cw ct co part ep R.g hv sb (.slice A1 us.length c2)) 185, prsS (R.g) hv, rsl kIns vR2 J2.red, rsl (kHd (kInt .i64)) (.slice A1 us.length c2) us, gl] := H
  refine c_reg (s_val rfl rfl (r_add (z := ((k + 1 : Nat) : Int)) rfl rfl rfl (by rw [w64 (by omega) (by omega)]; omega)) (s_1 rfl (s_nil ?_)))
  replace H := H.p4.p4.p4.k4
  replace H := Hd.twN (r := (⟨(ofR dg J2 R x7).2, .slice A17 x7.length c18, x7, .slice A22 (((eachM dg J2.red (srt (runsOf J2.us.length R x7)) J2.fuel false).1).length) c23, (ofR dg J2 R x7).1⟩ : Two Int)) H
  replace H : Hd w0 F0 w [twS (zs ++ [(⟨(ofR dg J2 R x7).2, .slice A17 x7.length c18, x7, .slice A22 (((eachM dg J2.red (srt (runsOf J2.us.length R x7)) J2.fuel false).1).length) c23, (ofR dg J2 R x7).1⟩ : Two Int)]), osl kSnapF v28 ((zs ++ [(⟨(ofR dg J2 R x7).2, .slice A17 x7.length c18, x7, .slice A22 (((eachM dg J2.red (srt (runsOf J2.us.length R x7)) J2.fuel false).1).length) c23, (ofR dg J2 R x7).1⟩ : Two Int)]).map twF)] [blk r (redC (.slice A J2.us.length c) vM2 vC2 vR2 vK2 J2 cw ct co part ep R.g hv sb (.slice A1 us.length c2)) 185, prsS (R.g) hv, rsl kIns vR2 J2.red, rsl (kHd (kInt .i64)) (.slice A1 us.length c2) us, gl] := by rw [List.map_append]; exact H
  replace H := H.p1
  have hz2 : (zs ++ [(⟨(ofR dg J2 R x7).2, .slice A17 x7.length c18, x7, .slice A22 (((eachM dg J2.red (srt (runsOf J2.us.length R x7)) J2.fuel false).1).length) c23, (ofR dg J2 R x7).1⟩ : Two Int)]).map snapP = (snapsR dg J2 R).take (k + 1) := by rw [List.map_append, hz, snaps_step hsets hx8]; rfl
  exact q_round (s := (k, undef, zs)) (k + 1, v28, zs ++ [(⟨(ofR dg J2 R x7).2, .slice A17 x7.length c18, x7, .slice A22 (((eachM dg J2.red (srt (runsOf J2.us.length R x7)) J2.fuel false).1).length) c23, (ofR dg J2 R x7).1⟩ : Two Int)]) ⟨rfl, rfl, rfl, rfl, rfl, rfl, trivial⟩ ⟨H, by (try dsimp only); omega, hz2⟩ (by (try dsimp only); omega)
 refine c_exit (q_thenE (q_thenE (q_blockE (q_then (c_seq (c_reg (s_k 2 rfl (s_nil (q_then (c_ret (q_ret1 rfl rfl ?_)))))))))))
 replace H := H.h2 (A := osl kSnapF q (zs.map twF)) (B := twS zs)
 replace H := Hd.twI H
 replace H := H.h1 (A := osl kSnap q zs)
 exact fin ⟨zs, rfl, by rw [hz, List.take_of_length_le (by rw [snaps_len hsets]; omega)]⟩ H
theorem small21_ok  :
    Cn Tryz.prog 117 [] [] [] (fun v Bs => ∃ vS : Value, ∃ vP : Value, ∃ vK : Value, ∃ u : Value, v = .agg #[vS, .int .i64 1, vP, .slice none 0 0, vP, .int .i64 1, .int .i64 1, .int .i64 9, vK, .int .i64 1, .int .i64 2, .int .i64 1] ∧ Bs = [osl (kHd kPair) vS [(u, oneR), (nilS, [])], osl kIns vP firstP, osl (kInt .i64) vK [1]]) := by
 intro w0 F0 H
 refine enter Tryz.func117 rfl rfl (Nat.le_of_ble_eq_true rfl) (c_seq (c_reg (s_alloc rfl rfl rfl zr28 H (fun b1 w H => (s_nil (q_then ?_))))))
 replace H : Hd _ _ _ [blk b1 [.slice none 0 0, .int .i64 0, .slice none 0 0, .slice none 0 0, .slice none 0 0, .int .i64 0, .int .i64 0, .int .i64 0, .slice none 0 0, .int .i64 0, .int .i64 0, .int .i64 0] 28] [] := H
 refine c_seq (c_reg (s_val rfl rfl (r_bd (parts := [(0, .const (.int .i64 6))]) (vs := [.int .i64 6]) (cs := [.int .i64 6, .int .i64 0, .string ⟨#[]⟩]) rfl bd223 rfl rfl) (s_val rfl rfl (r_bd (parts := [(0, .const (.int .i64 7))]) (vs := [.int .i64 7]) (cs := [.int .i64 7, .int .i64 0, .string ⟨#[]⟩]) rfl bd223 rfl rfl) (s_val rfl rfl (r_bd (parts := [(0, .const (.int .i64 4))]) (vs := [.int .i64 4]) (cs := [.int .i64 4, .int .i64 0, .string ⟨#[]⟩]) rfl bd223 rfl rfl) (s_val rfl rfl (r_bd (parts := [(0, .const (.int .i64 23))]) (vs := [.int .i64 23]) (cs := [.int .i64 23, .int .i64 0, .string ⟨#[]⟩]) rfl bd223 rfl rfl) (s_bsl (parts := [(0, .tmp 2), (1, .tmp 3), (2, .tmp 4), (3, .tmp 5)]) (vs := [.agg #[.int .i64 6, .int .i64 0, .string ⟨#[]⟩], .agg #[.int .i64 7, .int .i64 0, .string ⟨#[]⟩], .agg #[.int .i64 4, .int .i64 0, .string ⟨#[]⟩], .agg #[.int .i64 23, .int .i64 0, .string ⟨#[]⟩]]) (cs := [.int .i64 6, .int .i64 0, .string ⟨#[]⟩, .int .i64 7, .int .i64 0, .string ⟨#[]⟩, .int .i64 4, .int .i64 0, .string ⟨#[]⟩, .int .i64 23, .int .i64 0, .string ⟨#[]⟩]) rfl rfl rfl sl23 zr223 rfl (by decide) (by decide) rfl rfl H (fun b2 w H => ?_)))))))
 replace H := H.h1 (A := blk b2 [.int .i64 6, .int .i64 0, .string ⟨#[]⟩, .int .i64 7, .int .i64 0, .string ⟨#[]⟩, .int .i64 4, .int .i64 0, .string ⟨#[]⟩, .int .i64 23, .int .i64 0, .string ⟨#[]⟩] 223)
 refine s_1 rfl (s_nil (q_then (c_seq (c_reg (s_val rfl rfl (r_bd (parts := [(0, .const (.string ⟨#[98]⟩)), (1, .const (.string ⟨#[49]⟩))]) (vs := [.string ⟨#[98]⟩, .string ⟨#[49]⟩]) (cs := [.string ⟨#[98]⟩, .string ⟨#[49]⟩]) rfl bd106 rfl rfl) (s_bsl (parts := [(0, .tmp 7)]) (vs := [.agg #[.string ⟨#[98]⟩, .string ⟨#[49]⟩]]) (cs := [.string ⟨#[98]⟩, .string ⟨#[49]⟩]) rfl rfl rfl sl35 zr106 rfl (by decide) (by decide) rfl rfl H (fun b3 w H => (s_bsl (parts := [(0, .tmp 8), (1, .const (.slice none 0 0))]) (vs := [.slice (some ⟨b3, 0, none⟩) 1 1, .slice none 0 0]) (cs := [.slice (some ⟨b3, 0, none⟩) 1 1, .slice none 0 0]) rfl rfl rfl sl22 zr35 rfl (by decide) (by decide) rfl rfl H (fun b4 w H => (s_k 2 rfl (s_bsl (parts := [(0, .const (.int .i64 1))]) (vs := [.int .i64 1]) (cs := [.int .i64 1]) rfl rfl rfl sl24 zr3 rfl (by decide) (by decide) rfl rfl H (fun b5 w H => (s_val rfl rfl (r_bd (parts := [(0, .tmp 9), (1, .const (.int .i64 1)), (2, .tmp 10), (4, .tmp 11), (5, .const (.int .i64 1)), (6, .const (.int .i64 1)), (7, .const (.int .i64 9)), (8, .tmp 12)]) (vs := [.slice (some ⟨b4, 0, none⟩) 2 2, .int .i64 1, .slice (some ⟨b2, 0, none⟩) 4 4, .slice (some ⟨b2, 0, none⟩) 4 4, .int .i64 1, .int .i64 1, .int .i64 9, .slice (some ⟨b5, 0, none⟩) 1 1]) (cs := [.slice (some ⟨b4, 0, none⟩) 2 2, .int .i64 1, .slice (some ⟨b2, 0, none⟩) 4 4, .slice none 0 0, .slice (some ⟨b2, 0, none⟩) 4 4, .int .i64 1, .int .i64 1, .int .i64 9, .slice (some ⟨b5, 0, none⟩) 1 1]) rfl bd26 rfl rfl) ?_)))))))))))))
 refine s_val rfl rfl (r_bd (parts := [(0, .tmp 13), (1, .const (.int .i64 1)), (2, .const (.int .i64 2)), (3, .const (.int .i64 1))]) (vs := [.agg #[.slice (some ⟨b4, 0, none⟩) 2 2, .int .i64 1, .slice (some ⟨b2, 0, none⟩) 4 4, .slice none 0 0, .slice (some ⟨b2, 0, none⟩) 4 4, .int .i64 1, .int .i64 1, .int .i64 9, .slice (some ⟨b5, 0, none⟩) 1 1], .int .i64 1, .int .i64 2, .int .i64 1]) (cs := [.slice (some ⟨b4, 0, none⟩) 2 2, .int .i64 1, .slice (some ⟨b2, 0, none⟩) 4 4, .slice none 0 0, .slice (some ⟨b2, 0, none⟩) 4 4, .int .i64 1, .int .i64 1, .int .i64 9, .slice (some ⟨b5, 0, none⟩) 1 1, .int .i64 1, .int .i64 2, .int .i64 1]) rfl bd28 rfl rfl) ?_
 replace H := H.p4
 refine s_st rfl rfl rfl ty28 rfl rfl H rfl (Nat.le_of_ble_eq_true rfl) (fun u hu => by simp [Value.cells] at hu; rcases hu with rfl | rfl | rfl | rfl | rfl | rfl | rfl | rfl | rfl | rfl | rfl | rfl <;> rfl) (fun w H => ?_)
 replace H : Hd _ _ _ [blk b1 [.slice (some ⟨b4, 0, none⟩) 2 2, .int .i64 1, .slice (some ⟨b2, 0, none⟩) 4 4, .slice none 0 0, .slice (some ⟨b2, 0, none⟩) 4 4, .int .i64 1, .int .i64 1, .int .i64 9, .slice (some ⟨b5, 0, none⟩) 1 1, .int .i64 1, .int .i64 2, .int .i64 1] 28, blk b5 [.int .i64 1] 3, blk b4 [.slice (some ⟨b3, 0, none⟩) 1 1, .slice none 0 0] 35, blk b3 [.string ⟨#[98]⟩, .string ⟨#[49]⟩] 106, blk b2 [.int .i64 6, .int .i64 0, .string ⟨#[]⟩, .int .i64 7, .int .i64 0, .string ⟨#[]⟩, .int .i64 4, .int .i64 0, .string ⟨#[]⟩, .int .i64 23, .int .i64 0, .string ⟨#[]⟩] 223] [] := H
 refine s_nil (q_then (c_ret (q_retC (cs := [.slice (some ⟨b4, 0, none⟩) 2 2, .int .i64 1, .slice (some ⟨b2, 0, none⟩) 4 4, .slice none 0 0, .slice (some ⟨b2, 0, none⟩) 4 4, .int .i64 1, .int .i64 1, .int .i64 9, .slice (some ⟨b5, 0, none⟩) 1 1, .int .i64 1, .int .i64 2, .int .i64 1]) rfl rfl ty28 rfl (H.cellsI 0 rfl rfl) ?_)))
 replace H := H.p3
 replace H : Hd w0 F0 w [osl kPair (.slice (some ⟨b3, 0, none⟩) 1 1) oneR, blk b1 [.slice (some ⟨b4, 0, none⟩) 2 2, .int .i64 1, .slice (some ⟨b2, 0, none⟩) 4 4, .slice none 0 0, .slice (some ⟨b2, 0, none⟩) 4 4, .int .i64 1, .int .i64 1, .int .i64 9, .slice (some ⟨b5, 0, none⟩) 1 1, .int .i64 1, .int .i64 2, .int .i64 1] 28, blk b5 [.int .i64 1] 3, blk b4 [.slice (some ⟨b3, 0, none⟩) 1 1, .slice none 0 0] 35, blk b2 [.int .i64 6, .int .i64 0, .string ⟨#[]⟩, .int .i64 7, .int .i64 0, .string ⟨#[]⟩, .int .i64 4, .int .i64 0, .string ⟨#[]⟩, .int .i64 23, .int .i64 0, .string ⟨#[]⟩] 223] [] := H.turn (fun F h => blk_osl h rfl (by decide) rfl)
 replace H := H.p4
 replace H : Hd w0 F0 w [osl kIns (.slice (some ⟨b2, 0, none⟩) 4 4) firstP, osl kPair (.slice (some ⟨b3, 0, none⟩) 1 1) oneR, blk b1 [.slice (some ⟨b4, 0, none⟩) 2 2, .int .i64 1, .slice (some ⟨b2, 0, none⟩) 4 4, .slice none 0 0, .slice (some ⟨b2, 0, none⟩) 4 4, .int .i64 1, .int .i64 1, .int .i64 9, .slice (some ⟨b5, 0, none⟩) 1 1, .int .i64 1, .int .i64 2, .int .i64 1] 28, blk b5 [.int .i64 1] 3, blk b4 [.slice (some ⟨b3, 0, none⟩) 1 1, .slice none 0 0] 35] [] := H.turn (fun F h => blk_osl h rfl (by decide) rfl)
 replace H := H.p3
 replace H : Hd w0 F0 w [osl (kInt .i64) (.slice (some ⟨b5, 0, none⟩) 1 1) [1], osl kIns (.slice (some ⟨b2, 0, none⟩) 4 4) firstP, osl kPair (.slice (some ⟨b3, 0, none⟩) 1 1) oneR, blk b1 [.slice (some ⟨b4, 0, none⟩) 2 2, .int .i64 1, .slice (some ⟨b2, 0, none⟩) 4 4, .slice none 0 0, .slice (some ⟨b2, 0, none⟩) 4 4, .int .i64 1, .int .i64 1, .int .i64 9, .slice (some ⟨b5, 0, none⟩) 1 1, .int .i64 1, .int .i64 2, .int .i64 1] 28, blk b4 [.slice (some ⟨b3, 0, none⟩) 1 1, .slice none 0 0] 35] [] := H.turn (fun F h => blk_osl h rfl (by decide) rfl)
 replace H := H.newnil kPair |>.p2 |>.p1 |>.p3 |>.p5 |>.k5
 replace H : Hd w0 F0 w [osl kHdr (.slice (some ⟨b4, 0, none⟩) 2 2) (hdr1 ([(.slice (some ⟨b3, 0, none⟩) 1 1, oneR), (nilS, [])] : List (Value × List Pair))), osl kPair (.slice (some ⟨b3, 0, none⟩) 1 1) oneR, osl kPair (.slice none 0 0) [], osl kIns (.slice (some ⟨b2, 0, none⟩) 4 4) firstP, osl (kInt .i64) (.slice (some ⟨b5, 0, none⟩) 1 1) [1]] [] := H.turn (fun F h => blk_osl h rfl (by decide) rfl)
 replace H := H.p2.p2
 replace H := Hd.stI (Bs := [osl kPair (.slice (some ⟨b3, 0, none⟩) 1 1) oneR, osl kPair (.slice none 0 0) []]) H
 replace H := H.h1 (A := inS kPair ([(.slice (some ⟨b3, 0, none⟩) 1 1, oneR), (nilS, [])] : List (Value × List Pair))) |>.p1 |>.hdI |>.h1 (A := osl (kHd kPair) (.slice (some ⟨b4, 0, none⟩) 2 2) [(.slice (some ⟨b3, 0, none⟩) 1 1, oneR), (nilS, [])])
 exact fin ⟨(.slice (some ⟨b4, 0, none⟩) 2 2), (.slice (some ⟨b2, 0, none⟩) 4 4), (.slice (some ⟨b5, 0, none⟩) 1 1), (.slice (some ⟨b3, 0, none⟩) 1 1), rfl, rfl⟩ H
theorem awake21_ok  :
    Cn Tryz.prog 47 [] [] [gl] (fun v Bs => v = .bool true ∧ Bs = []) := by
 intro w0 F0 H
 refine enter Tryz.func47 rfl rfl (Nat.le_of_ble_eq_true rfl) (c_seq (c_reg (s_1 rfl (s_nil (q_then (c_seq (c_reg (sc (small21_ok) H l0 rfl rfl (e_fn kn117 rfl rfl) ?_))))))))
 rintro _ _ w ⟨vS1, vP2, vK3, u4, rfl, rfl⟩ H
 replace H : Hd _ _ _ [osl (kHd kPair) vS1 [(u4, oneR), (nilS, [])], osl kIns vP2 firstP, osl (kInt .i64) vK3 [1]] [gl] := H
 refine sc (redNew_ok vS1 vP2 (.slice none 0 0) vP2 vK3 (small21 u4) 0 1 (.slice none 0 0) [] (by first | assumption | omega | exact small21_may _ | exact ⟨small21_home _, by decide⟩ | exact OkR.pairs (by assumption) | (unfold In64; omega) | exact (fun r h => by cases h) | decide | (simp only [List.length_nil]; omega) | exact in64_first) (by first | assumption | omega | exact small21_may _ | exact ⟨small21_home _, by decide⟩ | exact OkR.pairs (by assumption) | (unfold In64; omega) | exact (fun r h => by cases h) | decide | (simp only [List.length_nil]; omega) | exact in64_first) (by first | assumption | omega | exact small21_may _ | exact ⟨small21_home _, by decide⟩ | exact OkR.pairs (by assumption) | (unfold In64; omega) | exact (fun r h => by cases h) | decide | (simp only [List.length_nil]; omega) | exact in64_first) (by first | assumption | omega | exact small21_may _ | exact ⟨small21_home _, by decide⟩ | exact OkR.pairs (by assumption) | (unfold In64; omega) | exact (fun r h => by cases h) | decide | (simp only [List.length_nil]; omega) | exact in64_first) (by first | assumption | omega | exact small21_may _ | exact ⟨small21_home _, by decide⟩ | exact OkR.pairs (by assumption) | (unfold In64; omega) | exact (fun r h => by cases h) | decide | (simp only [List.length_nil]; omega) | exact in64_first) (by first | assumption | omega | exact small21_may _ | exact ⟨small21_home _, by decide⟩ | exact OkR.pairs (by assumption) | (unfold In64; omega) | exact (fun r h => by cases h) | decide | (simp only [List.length_nil]; omega) | exact in64_first)) H (lA 0 rfl own_rd (lA 1 rfl own_rd (lX (fun F _ _ => rsl_nil _ _ F trivial (by decide)) (lA 1 rfl own_rd (lA 2 rfl own_rd (lX (fun F _ _ => rsl_nil _ _ F trivial (by decide)) l0)))))) rfl rfl (e_fn kn56 rfl rfl) ?_
 rintro _ _ w ⟨r5, vS6, vM7, vC8, vR9, vK10, J11, hv12, sb13, vs14, us15, rfl, rfl, hf16, hf17⟩ H
 replace H := H.h9 (A := blk r5 (redC vS6 vM7 vC8 vR9 vK10 J11 ((small21 u4).w) ((small21 u4).t) ((small21 u4).o) 0 1 ((newR J11.us.length 0 1 ([].map Rec.p)).g) hv12 sb13 vs14) 185) (B := osl (kHd kPair) vS6 J11.us) (C := osl kIns vM7 J11.map) (D := osl kIns vC8 J11.comb) (E := osl kIns vR9 J11.red) (F := osl (kInt .i64) vK10 J11.marks) (G := prsS ((newR J11.us.length 0 1 ([].map Rec.p)).g) hv12) (I := osl (kHd (kInt .i64)) vs14 us15) (J := stgI 253 sb13 ([]))
 have hsj := hf16
 have hall := aw_all hsj
 have hout := aw_out (D := dg) hsj
 have hC := small21_may u4
 have hlen : J11.us.length = 2 := hsj.len
 have h6 : J11.us.length ≤ 6 := by have := hC.1.1; have := hsj.len; omega
 have hmk : J11.marks.length ≤ 1000 := by have := hC.1.2.2.1; rw [hsj.marks]; omega
 have hred : ∀ i ∈ J11.red, In64 i.a := by rw [hsj.red]; exact in64_first
 have hf64 : In64 J11.fuel := by rw [hsj.fuel]; have := hC.1.2.2.2.2.2.2.2.2.2.2; unfold In64; omega
 have hoks := aw_ok h6
 obtain ⟨R18, hR19⟩ : ∃ z : Red, z = newR J11.us.length 0 1 ([].map Rec.p) := ⟨_, rfl⟩
 rw [← hR19] at H hf17
 have hRp20 : R18.part = 0 := by rw [hR19]; exact (newR_part _ _ _ _).1
 have hRe21 : R18.ep = 1 := by rw [hR19]; exact (newR_part _ _ _ _).2.1
 have hRs22 : R18.st = [] := by rw [hR19]; exact (newR_part _ _ _ _).2.2
 rw [show redC vS6 vM7 vC8 vR9 vK10 J11 ((small21 u4).w) ((small21 u4).t) ((small21 u4).o) 0 1 R18.g hv12 sb13 vs14 = redC vS6 vM7 vC8 vR9 vK10 J11 ((small21 u4).w) ((small21 u4).t) ((small21 u4).o) R18.part R18.ep R18.g hv12 sb13 vs14 from by rw [hRp20, hRe21], show stgI 253 sb13 ([]) = stgI 253 sb13 (R18.st) from by rw [hRs22]] at H
 replace H : Hd _ _ _ [blk r5 (redC vS6 vM7 vC8 vR9 vK10 J11 ((small21 u4).w) ((small21 u4).t) ((small21 u4).o) R18.part R18.ep R18.g hv12 sb13 vs14) 185, osl (kHd kPair) vS6 J11.us, osl kIns vM7 J11.map, osl kIns vC8 J11.comb, osl kIns vR9 J11.red, osl (kInt .i64) vK10 J11.marks, prsS (R18.g) hv12, osl (kHd (kInt .i64)) vs14 us15, stgI 253 sb13 (R18.st), osl (kHd kPair) vS1 [(u4, oneR), (nilS, [])], osl kIns vP2 firstP, osl (kInt .i64) vK3 [1]] [gl] := H
 replace H := redI_shut r5 vS6 vM7 vC8 vR9 vK10 J11 ((small21 u4).w) ((small21 u4).t) ((small21 u4).o) sb13 R18 hv12 vs14 us15 hf17 H
 replace H := H.h1 (A := redI r5 vS6 vM7 vC8 vR9 vK10 J11 ((small21 u4).w) ((small21 u4).t) ((small21 u4).o) sb13 R18)
 have hsj_R18 := hf16
 have hR0 : R18 = aw0 := by rw [hR19]; rfl
 obtain ⟨hk0, hk1, hk2, hk3⟩ := hoks
 rw [← hR0] at hk0
 have hB := hk0.mono (show 99000 ≤ 99999 by omega)
 have hB1 := hk0.mono (show 99000 ≤ 100000 by omega)
 refine s_k 5 rfl (s_nil (q_then ?_))
 replace H := H.k1
 refine c_seq (c_seq (c_reg (s_1 rfl (s_val rfl rfl (r_ne rfl rfl rfl) (s_k 2 rfl (s_val rfl rfl (r_peq rfl un75 rfl rfl) (s_1 rfl (s_nil (q_then (c_no rfl (c_skip (q_then (c_seq (c_reg (s_1 rfl (sc (rwon_ok r5 vS6 vM7 vC8 vR9 vK10 J11 ((small21 u4).w) ((small21 u4).t) ((small21 u4).o) sb13 R18 1 1 0 (by first | assumption | omega | exact small21_may _ | exact ⟨small21_home _, by decide⟩ | exact OkR.pairs (by assumption) | (unfold In64; omega) | exact (fun r h => by cases h) | decide | (simp only [List.length_nil]; omega) | exact in64_first) (by first | assumption | omega | exact small21_may _ | exact ⟨small21_home _, by decide⟩ | exact OkR.pairs (by assumption) | (unfold In64; omega) | exact (fun r h => by cases h) | decide | (simp only [List.length_nil]; omega) | exact in64_first) (by first | assumption | omega | exact small21_may _ | exact ⟨small21_home _, by decide⟩ | exact OkR.pairs (by assumption) | (unfold In64; omega) | exact (fun r h => by cases h) | decide | (simp only [List.length_nil]; omega) | exact in64_first)) H l0 rfl rfl (e_fn kn49 rfl rfl) ?_))))))))))))))))
 rintro v25 _ w ⟨rs23, rfl, hf24⟩ H
 replace H := H.h2 (A := osl kRec v25 rs23) (B := redI r5 vS6 vM7 vC8 vR9 vK10 J11 ((small21 u4).w) ((small21 u4).t) ((small21 u4).o) sb13 ((wonR J11 ((small21 u4).t) R18 1 1 0).1))
 have hq27 : (wonR J11 ((small21 u4).t) R18 1 1 0).1 = (aw1 J11).1 := by rw [hR0]; rfl
 obtain ⟨R26, hR1⟩ : ∃ z : Red, z = (aw1 J11).1 := ⟨_, rfl⟩
 rw [hq27, ← hR1] at H
 replace H : Hd _ _ _ [osl kRec v25 rs23, redI r5 vS6 vM7 vC8 vR9 vK10 J11 ((small21 u4).w) ((small21 u4).t) ((small21 u4).o) sb13 R26] [gl] := H
 have hl1 := congrArg List.length hf24
 rw [List.length_map, hR0] at hl1
 rw [← hR1] at hk1
 have hB1a := hk1.mono (show 99000 ≤ 99999 by omega)
 have hB1b := hk1.mono (show 99000 ≤ 100000 by omega)
 obtain ⟨A28, c29, rfl, hc30, hm31, hp32⟩ := H.fA 0 rfl
 have hn1 := hl1.trans hall.1
 refine s_1 rfl (s_nil (q_then (c_seq (c_reg (s_1 rfl (s_val rfl rfl (r_bd (parts := [(0, .const (.string ⟨#[98]⟩)), (1, .const (.string ⟨#[49]⟩))]) (vs := [.string ⟨#[98]⟩, .string ⟨#[49]⟩]) (cs := [.string ⟨#[98]⟩, .string ⟨#[49]⟩]) rfl bd106 rfl rfl) (s_bsl (parts := [(0, .tmp 25)]) (vs := [.agg #[.string ⟨#[98]⟩, .string ⟨#[49]⟩]]) (cs := [.string ⟨#[98]⟩, .string ⟨#[49]⟩]) rfl rfl rfl sl35 zr106 rfl (by decide) (by decide) rfl rfl H (fun b33 w H => ?_))))))))
 replace H := H.h1 (A := blk b33 [.string ⟨#[98]⟩, .string ⟨#[49]⟩] 106)
 refine s_val rfl rfl (r_bd (parts := [(0, .const (.int .i64 2)), (2, .const (.int .i64 1)), (9, .tmp 26)]) (vs := [.int .i64 2, .int .i64 1, .slice (some ⟨b33, 0, none⟩) 1 1]) (cs := [.int .i64 2, .int .i64 0, .int .i64 1, .int .i64 0, .int .i64 0, .int .i64 0, .int .i64 0, .int .i64 0, .slice none 0 0, .slice (some ⟨b33, 0, none⟩) 1 1]) rfl bd64 rfl rfl) ?_
 replace H := H.p2
 refine sc (rpush_ok r5 vS6 vM7 vC8 vR9 vK10 J11 ((small21 u4).w) ((small21 u4).t) ((small21 u4).o) sb13 R26 (⟨2, 0, 1, 0, 0, 0, 0, 0, [], [(⟨⟨#[98]⟩, ⟨#[49]⟩⟩ : Pair)]⟩ : Msg) (.slice none 0 0) (.slice (some ⟨b33, 0, none⟩) 1 1) (by first | assumption | omega | exact small21_may _ | exact ⟨small21_home _, by decide⟩ | exact OkR.pairs (by assumption) | (unfold In64; omega) | exact (fun r h => by cases h) | decide | (simp only [List.length_nil]; omega) | exact in64_first) (by first | assumption | omega | exact small21_may _ | exact ⟨small21_home _, by decide⟩ | exact OkR.pairs (by assumption) | (unfold In64; omega) | exact (fun r h => by cases h) | decide | (simp only [List.length_nil]; omega) | exact in64_first) (by first | assumption | omega | exact small21_may _ | exact ⟨small21_home _, by decide⟩ | exact OkR.pairs (by assumption) | (unfold In64; omega) | exact (fun r h => by cases h) | decide | (simp only [List.length_nil]; omega) | exact in64_first)) H (lX (fun F _ _ => rsl_nil _ _ F trivial (by decide)) (lA 0 rfl (fun F h => blk_rsl h rfl (by decide) (RepsR.flat_eq.2 rfl)) l0)) rfl rfl (e_fn kn50 rfl rfl) ?_
 rintro _ _ w ⟨u34, rs35, rfl, rfl, hf36⟩ H
 replace H := H.h2 (A := osl kRec u34 rs35) (B := redI r5 vS6 vM7 vC8 vR9 vK10 J11 ((small21 u4).w) ((small21 u4).t) ((small21 u4).o) sb13 ((pushR J11 R26 (⟨2, 0, 1, 0, 0, 0, 0, 0, [], [(⟨⟨#[98]⟩, ⟨#[49]⟩⟩ : Pair)]⟩ : Msg)).1))
 have hq38 : (pushR J11 R26 (⟨2, 0, 1, 0, 0, 0, 0, 0, [], [(⟨⟨#[98]⟩, ⟨#[49]⟩⟩ : Pair)]⟩ : Msg)).1 = (aw2 J11).1 := by rw [hR1]; rfl
 obtain ⟨R37, hR2⟩ : ∃ z : Red, z = (aw2 J11).1 := ⟨_, rfl⟩
 rw [hq38, ← hR2] at H
 replace H : Hd _ _ _ [osl kRec u34 rs35, redI r5 vS6 vM7 vC8 vR9 vK10 J11 ((small21 u4).w) ((small21 u4).t) ((small21 u4).o) sb13 R37, blk b33 [.string ⟨#[98]⟩, .string ⟨#[49]⟩] 106, osl kRec (.slice A28 rs23.length c29) rs23] [gl] := H
 have hl2 := congrArg List.length hf36
 rw [List.length_map, hR1] at hl2
 rw [← hR2] at hk2
 have hB2a := hk2.mono (show 99000 ≤ 99999 by omega)
 have hB2b := hk2.mono (show 99000 ≤ 100000 by omega)
 obtain ⟨A39, c40, rfl, hc41, hm42, hp43⟩ := H.fA 0 rfl
 have hn2 := hl2.trans hall.2.2.1
 refine s_k 3 rfl (s_alloc rfl rfl rfl zr64 H (fun b44 w H => (s_st rfl rfl rfl ty64 rfl rfl H rfl (Nat.le_of_ble_eq_true rfl) (fun u hu => by simp [Value.cells] at hu; rcases hu with rfl | rfl | rfl | rfl | rfl | rfl | rfl | rfl | rfl | rfl <;> rfl) (fun w H => ?_))))
 replace H := H.h1 (A := blk b44 [.int .i64 (((pushR J11 R26 (⟨2, 0, 1, 0, 0, 0, 0, 0, [], [(⟨⟨#[98]⟩, ⟨#[49]⟩⟩ : Pair)]⟩ : Msg)).2.1).kind), .int .i64 (((pushR J11 R26 (⟨2, 0, 1, 0, 0, 0, 0, 0, [], [(⟨⟨#[98]⟩, ⟨#[49]⟩⟩ : Pair)]⟩ : Msg)).2.1).sp), .int .i64 (((pushR J11 R26 (⟨2, 0, 1, 0, 0, 0, 0, 0, [], [(⟨⟨#[98]⟩, ⟨#[49]⟩⟩ : Pair)]⟩ : Msg)).2.1).att), .int .i64 (((pushR J11 R26 (⟨2, 0, 1, 0, 0, 0, 0, 0, [], [(⟨⟨#[98]⟩, ⟨#[49]⟩⟩ : Pair)]⟩ : Msg)).2.1).part), .int .i64 (((pushR J11 R26 (⟨2, 0, 1, 0, 0, 0, 0, 0, [], [(⟨⟨#[98]⟩, ⟨#[49]⟩⟩ : Pair)]⟩ : Msg)).2.1).seq), .int .i64 (((pushR J11 R26 (⟨2, 0, 1, 0, 0, 0, 0, 0, [], [(⟨⟨#[98]⟩, ⟨#[49]⟩⟩ : Pair)]⟩ : Msg)).2.1).next), .int .i64 (((pushR J11 R26 (⟨2, 0, 1, 0, 0, 0, 0, 0, [], [(⟨⟨#[98]⟩, ⟨#[49]⟩⟩ : Pair)]⟩ : Msg)).2.1).ep), .int .i64 (((pushR J11 R26 (⟨2, 0, 1, 0, 0, 0, 0, 0, [], [(⟨⟨#[98]⟩, ⟨#[49]⟩⟩ : Pair)]⟩ : Msg)).2.1).why), .slice none 0 0, .slice none 0 0] 64)
 refine s_1 rfl (s_nil (q_then ?_))
 replace H := H.p4.p3.p3.p3.k4
 refine c_seq (c_reg (s_1 rfl ?_))
 replace H := H.p2
 refine sc (rwon_ok r5 vS6 vM7 vC8 vR9 vK10 J11 ((small21 u4).w) ((small21 u4).t) ((small21 u4).o) sb13 R37 0 1 1 (by first | assumption | omega | exact small21_may _ | exact ⟨small21_home _, by decide⟩ | exact OkR.pairs (by assumption) | (unfold In64; omega) | exact (fun r h => by cases h) | decide | (simp only [List.length_nil]; omega) | exact in64_first) (by first | assumption | omega | exact small21_may _ | exact ⟨small21_home _, by decide⟩ | exact OkR.pairs (by assumption) | (unfold In64; omega) | exact (fun r h => by cases h) | decide | (simp only [List.length_nil]; omega) | exact in64_first) (by first | assumption | omega | exact small21_may _ | exact ⟨small21_home _, by decide⟩ | exact OkR.pairs (by assumption) | (unfold In64; omega) | exact (fun r h => by cases h) | decide | (simp only [List.length_nil]; omega) | exact in64_first)) H l0 rfl rfl (e_fn kn49 rfl rfl) ?_
 rintro v47 _ w ⟨rs45, rfl, hf46⟩ H
 replace H := H.h2 (A := osl kRec v47 rs45) (B := redI r5 vS6 vM7 vC8 vR9 vK10 J11 ((small21 u4).w) ((small21 u4).t) ((small21 u4).o) sb13 ((wonR J11 ((small21 u4).t) R37 0 1 1).1))
 have hq49 : (wonR J11 ((small21 u4).t) R37 0 1 1).1 = (aw3 J11).1 := by rw [hR2]; rfl
 obtain ⟨R48, hR3⟩ : ∃ z : Red, z = (aw3 J11).1 := ⟨_, rfl⟩
 rw [hq49, ← hR3] at H
 replace H : Hd _ _ _ [osl kRec v47 rs45, redI r5 vS6 vM7 vC8 vR9 vK10 J11 ((small21 u4).w) ((small21 u4).t) ((small21 u4).o) sb13 R48, blk b44 [.int .i64 (((pushR J11 R26 (⟨2, 0, 1, 0, 0, 0, 0, 0, [], [(⟨⟨#[98]⟩, ⟨#[49]⟩⟩ : Pair)]⟩ : Msg)).2.1).kind), .int .i64 (((pushR J11 R26 (⟨2, 0, 1, 0, 0, 0, 0, 0, [], [(⟨⟨#[98]⟩, ⟨#[49]⟩⟩ : Pair)]⟩ : Msg)).2.1).sp), .int .i64 (((pushR J11 R26 (⟨2, 0, 1, 0, 0, 0, 0, 0, [], [(⟨⟨#[98]⟩, ⟨#[49]⟩⟩ : Pair)]⟩ : Msg)).2.1).att), .int .i64 (((pushR J11 R26 (⟨2, 0, 1, 0, 0, 0, 0, 0, [], [(⟨⟨#[98]⟩, ⟨#[49]⟩⟩ : Pair)]⟩ : Msg)).2.1).part), .int .i64 (((pushR J11 R26 (⟨2, 0, 1, 0, 0, 0, 0, 0, [], [(⟨⟨#[98]⟩, ⟨#[49]⟩⟩ : Pair)]⟩ : Msg)).2.1).seq), .int .i64 (((pushR J11 R26 (⟨2, 0, 1, 0, 0, 0, 0, 0, [], [(⟨⟨#[98]⟩, ⟨#[49]⟩⟩ : Pair)]⟩ : Msg)).2.1).next), .int .i64 (((pushR J11 R26 (⟨2, 0, 1, 0, 0, 0, 0, 0, [], [(⟨⟨#[98]⟩, ⟨#[49]⟩⟩ : Pair)]⟩ : Msg)).2.1).ep), .int .i64 (((pushR J11 R26 (⟨2, 0, 1, 0, 0, 0, 0, 0, [], [(⟨⟨#[98]⟩, ⟨#[49]⟩⟩ : Pair)]⟩ : Msg)).2.1).why), .slice none 0 0, .slice none 0 0] 64, osl kRec (.slice A39 rs35.length c40) rs35, osl kRec (.slice A28 rs23.length c29) rs23] [gl] := H
 have hl3 := congrArg List.length hf46
 rw [List.length_map, hR2] at hl3
 rw [← hR3] at hk3
 have hB3a := hk3.mono (show 99000 ≤ 99999 by omega)
 have hB3b := hk3.mono (show 99000 ≤ 100000 by omega)
 obtain ⟨A50, c51, rfl, hc52, hm53, hp54⟩ := H.fA 0 rfl
 have hn3 := hl3.trans hall.2.2.2.1
 have hm3 := hall.2.2.2.2.1
 have hs3 := hall.2.2.2.2.2
 rw [← hR3] at hm3 hs3 hout
 refine s_1 rfl (s_nil (q_then (c_seq (c_reg (s_1 rfl ?_)))))
 replace H := H.p1
 obtain ⟨hv55, vs56, us57, hsets58, H⟩ := redI_open r5 vS6 vM7 vC8 vR9 vK10 J11 ((small21 u4).w) ((small21 u4).t) ((small21 u4).o) sb13 R48 H
 replace H := H.h9 (A := blk r5 (redC vS6 vM7 vC8 vR9 vK10 J11 ((small21 u4).w) ((small21 u4).t) ((small21 u4).o) R48.part R48.ep R48.g hv55 sb13 vs56) 185) (B := osl (kHd kPair) vS6 J11.us) (C := osl kIns vM7 J11.map) (D := osl kIns vC8 J11.comb) (E := osl kIns vR9 J11.red) (F := osl (kInt .i64) vK10 J11.marks) (G := prsS (R48.g) hv55) (I := osl (kHd (kInt .i64)) vs56 us57) (J := stgI 253 sb13 (R48.st))
 obtain ⟨A59, c60, rfl, hc61, hm62, hp63⟩ := H.fA 1 rfl
 refine sc (output_ok r5 A59 c60 vM7 vC8 vR9 vK10 J11 ((small21 u4).w) ((small21 u4).t) ((small21 u4).o) R48.part R48.ep R48 hv55 sb13 vs56 (by first | assumption | omega | exact small21_may _ | exact ⟨small21_home _, by decide⟩ | exact OkR.pairs (by assumption) | (unfold In64; omega) | exact (fun r h => by cases h) | decide | (simp only [List.length_nil]; omega) | exact in64_first) (by first | assumption | omega | exact small21_may _ | exact ⟨small21_home _, by decide⟩ | exact OkR.pairs (by assumption) | (unfold In64; omega) | exact (fun r h => by cases h) | decide | (simp only [List.length_nil]; omega) | exact in64_first) (by first | assumption | omega | exact small21_may _ | exact ⟨small21_home _, by decide⟩ | exact OkR.pairs (by assumption) | (unfold In64; omega) | exact (fun r h => by cases h) | decide | (simp only [List.length_nil]; omega) | exact in64_first) (by first | assumption | omega | exact small21_may _ | exact ⟨small21_home _, by decide⟩ | exact OkR.pairs (by assumption) | (unfold In64; omega) | exact (fun r h => by cases h) | decide | (simp only [List.length_nil]; omega) | exact in64_first)) H (lA 0 rfl (fun _ h => h) (lA 6 rfl (fun _ h => h) (lA 4 rfl own_rd (lR 0 rfl l0)))) rfl rfl (e_fn kn60 rfl rfl) ?_
 rintro _ _ w ⟨u64, rfl, rfl⟩ H
 replace H := H.h1 (A := osl kPair u64 ((outR dg J11 R48).1)) |>.p9 |>.p9 |>.p9 |>.p9 |>.p9 |>.p9 |>.p9 |>.p9 |>.p9
 replace H := redI_shut r5 (.slice A59 J11.us.length c60) vM7 vC8 vR9 vK10 J11 ((small21 u4).w) ((small21 u4).t) ((small21 u4).o) sb13 R48 hv55 vs56 us57 hsets58 H
 replace H := H.h1 (A := redI r5 (.slice A59 J11.us.length c60) vM7 vC8 vR9 vK10 J11 ((small21 u4).w) ((small21 u4).t) ((small21 u4).o) sb13 R48)
 refine s_k 7 rfl (s_nil (q_then (c_seq (c_reg (s_1 rfl (s_val rfl rfl (r_lenL rfl un29 rfl) (s_val rfl rfl (r_eq rfl rfl rfl) (s_1 rfl ?_))))))))
 refine s_dec (d := 42) rfl (fun h65 => ?_) (fun h65 => ?_)
 ·refine s_val rfl rfl (r_fa rfl fo64_5 rfl) (s_val rfl rfl (r_ld rfl ty3 rfl (H.cellI 3 rfl rfl)) (s_val rfl rfl (r_eq rfl rfl rfl) (s_k 2 rfl ?_)))
  refine s_dec (d := 47) rfl (fun h66 => ?_) (fun h66 => ?_)
  ·refine s_1 rfl (s_val rfl rfl (r_lenL rfl un29 rfl) (s_val rfl rfl (r_eq rfl rfl rfl) (s_k 2 rfl ?_)))
   refine s_dec (d := 52) rfl (fun h67 => ?_) (fun h67 => ?_)
   ·refine s_1 rfl (s_val rfl rfl (r_lenL rfl un29 rfl) (s_val rfl rfl (r_eq rfl rfl rfl) (s_k 2 rfl ?_)))
    refine s_dec (d := 57) rfl (fun h68 => ?_) (fun h68 => ?_)
    ·refine s_1 rfl (s_val rfl rfl (r_bd (parts := [(0, .const (.string ⟨#[98]⟩)), (1, .const (.string ⟨#[49]⟩))]) (vs := [.string ⟨#[98]⟩, .string ⟨#[49]⟩]) (cs := [.string ⟨#[98]⟩, .string ⟨#[49]⟩]) rfl bd106 rfl rfl) (s_bsl (parts := [(0, .tmp 59)]) (vs := [.agg #[.string ⟨#[98]⟩, .string ⟨#[49]⟩]]) (cs := [.string ⟨#[98]⟩, .string ⟨#[49]⟩]) rfl rfl rfl sl35 zr106 rfl (by decide) (by decide) rfl rfl H (fun b69 w H => (sc (samePairs_ok u64 (.slice (some ⟨b69, 0, none⟩) 1 1) ((outR dg J11 R48).1) [(⟨⟨#[98]⟩, ⟨#[49]⟩⟩ : Pair)]) H (lA 2 rfl own_rd (lA 0 rfl (fun F h => blk_rsl h rfl (by decide) (RepsR.flat_eq.2 rfl)) l0)) rfl rfl (e_fn kn25 rfl rfl) ?_))))
     rintro _ _ w ⟨rfl, rfl⟩ H
     refine s_k 2 rfl ?_
     refine s_dec (d := 63) rfl (fun h70 => ?_) (fun h70 => ?_)
     ·refine s_k 3 rfl ?_
      refine s_boo (d := 66) (b := (outR dg J11 R48).2.2) rfl (fun h71 => ?_) (fun h71 => ?_)
      ·refine s_1 rfl ?_
       replace H := H.p1
       replace H : Hd _ _ _ [redI r5 (.slice A59 J11.us.length c60) vM7 vC8 vR9 vK10 J11 ((small21 u4).w) ((small21 u4).t) ((small21 u4).o) sb13 R48, blk b69 [.string ⟨#[98]⟩, .string ⟨#[49]⟩] 106, osl kPair u64 ((outR dg J11 R48).1), osl kRec (.slice A50 rs45.length c51) rs45, blk b44 [.int .i64 (((pushR J11 R26 (⟨2, 0, 1, 0, 0, 0, 0, 0, [], [(⟨⟨#[98]⟩, ⟨#[49]⟩⟩ : Pair)]⟩ : Msg)).2.1).kind), .int .i64 (((pushR J11 R26 (⟨2, 0, 1, 0, 0, 0, 0, 0, [], [(⟨⟨#[98]⟩, ⟨#[49]⟩⟩ : Pair)]⟩ : Msg)).2.1).sp), .int .i64 (((pushR J11 R26 (⟨2, 0, 1, 0, 0, 0, 0, 0, [], [(⟨⟨#[98]⟩, ⟨#[49]⟩⟩ : Pair)]⟩ : Msg)).2.1).att), .int .i64 (((pushR J11 R26 (⟨2, 0, 1, 0, 0, 0, 0, 0, [], [(⟨⟨#[98]⟩, ⟨#[49]⟩⟩ : Pair)]⟩ : Msg)).2.1).part), .int .i64 (((pushR J11 R26 (⟨2, 0, 1, 0, 0, 0, 0, 0, [], [(⟨⟨#[98]⟩, ⟨#[49]⟩⟩ : Pair)]⟩ : Msg)).2.1).seq), .int .i64 (((pushR J11 R26 (⟨2, 0, 1, 0, 0, 0, 0, 0, [], [(⟨⟨#[98]⟩, ⟨#[49]⟩⟩ : Pair)]⟩ : Msg)).2.1).next), .int .i64 (((pushR J11 R26 (⟨2, 0, 1, 0, 0, 0, 0, 0, [], [(⟨⟨#[98]⟩, ⟨#[49]⟩⟩ : Pair)]⟩ : Msg)).2.1).ep), .int .i64 (((pushR J11 R26 (⟨2, 0, 1, 0, 0, 0, 0, 0, [], [(⟨⟨#[98]⟩, ⟨#[49]⟩⟩ : Pair)]⟩ : Msg)).2.1).why), .slice none 0 0, .slice none 0 0] 64, osl kRec (.slice A39 rs35.length c40) rs35, osl kRec (.slice A28 rs23.length c29) rs23] [gl] := H
       obtain ⟨hv72, vs73, us74, hsets75, H⟩ := redI_open r5 (.slice A59 J11.us.length c60) vM7 vC8 vR9 vK10 J11 ((small21 u4).w) ((small21 u4).t) ((small21 u4).o) sb13 R48 H
       replace H := H.h9 (A := blk r5 (redC (.slice A59 J11.us.length c60) vM7 vC8 vR9 vK10 J11 ((small21 u4).w) ((small21 u4).t) ((small21 u4).o) R48.part R48.ep R48.g hv72 sb13 vs73) 185) (B := osl (kHd kPair) (.slice A59 J11.us.length c60) J11.us) (C := osl kIns vM7 J11.map) (D := osl kIns vC8 J11.comb) (E := osl kIns vR9 J11.red) (F := osl (kInt .i64) vK10 J11.marks) (G := prsS (R48.g) hv72) (I := osl (kHd (kInt .i64)) vs73 us74) (J := stgI 253 sb13 (R48.st))
       refine sc (merged_ok r5 A59 c60 vM7 vC8 vR9 vK10 J11 ((small21 u4).w) ((small21 u4).t) ((small21 u4).o) R48.part R48.ep R48 hv72 sb13 vs73 (by first | assumption | omega | exact small21_may _ | exact ⟨small21_home _, by decide⟩ | exact OkR.pairs (by assumption) | (unfold In64; omega) | exact (fun r h => by cases h) | decide | (simp only [List.length_nil]; omega) | exact in64_first)) H (lA 0 rfl (fun _ h => h) l0) rfl rfl (e_fn kn51 rfl rfl) ?_
       rintro v76 _ w rfl H
       replace H := H.h1 (A := osl (kInt .i64) v76 (mergedL J11.us.length R48)) |>.p9 |>.p9 |>.p9 |>.p9 |>.p9 |>.p9 |>.p9 |>.p9 |>.p9
       replace H := redI_shut r5 (.slice A59 J11.us.length c60) vM7 vC8 vR9 vK10 J11 ((small21 u4).w) ((small21 u4).t) ((small21 u4).o) sb13 R48 hv72 vs73 us74 hsets75 H
       replace H := H.h1 (A := redI r5 (.slice A59 J11.us.length c60) vM7 vC8 vR9 vK10 J11 ((small21 u4).w) ((small21 u4).t) ((small21 u4).o) sb13 R48)
       refine s_bsl (parts := [(0, .const (.int .i64 0)), (1, .const (.int .i64 1))]) (vs := [.int .i64 0, .int .i64 1]) (cs := [.int .i64 0, .int .i64 1]) rfl rfl rfl sl24 zr3 rfl (by decide) (by decide) rfl rfl H (fun b77 w H => (sc (sameInts_ok v76 (.slice (some ⟨b77, 0, none⟩) 2 2) (mergedL J11.us.length R48) [0, 1]) H (lA 2 rfl own_rd (lA 0 rfl (fun F h => blk_rsl h rfl (by decide) (RepsR.flat_eq.2 rfl)) l0)) rfl rfl (e_fn kn33 rfl rfl) ?_))
       rintro _ _ w ⟨rfl, rfl⟩ H
       refine s_k 2 rfl ?_
       refine s_dec (d := 72) rfl (fun h78 => ?_) (fun h78 => ?_)
       ·refine s_1 rfl ?_
        replace H := H.p1
        replace H : Hd _ _ _ [redI r5 (.slice A59 J11.us.length c60) vM7 vC8 vR9 vK10 J11 ((small21 u4).w) ((small21 u4).t) ((small21 u4).o) sb13 R48, blk b77 [.int .i64 0, .int .i64 1] 3, osl (kInt .i64) v76 (mergedL J11.us.length R48), blk b69 [.string ⟨#[98]⟩, .string ⟨#[49]⟩] 106, osl kPair u64 ((outR dg J11 R48).1), osl kRec (.slice A50 rs45.length c51) rs45, blk b44 [.int .i64 (((pushR J11 R26 (⟨2, 0, 1, 0, 0, 0, 0, 0, [], [(⟨⟨#[98]⟩, ⟨#[49]⟩⟩ : Pair)]⟩ : Msg)).2.1).kind), .int .i64 (((pushR J11 R26 (⟨2, 0, 1, 0, 0, 0, 0, 0, [], [(⟨⟨#[98]⟩, ⟨#[49]⟩⟩ : Pair)]⟩ : Msg)).2.1).sp), .int .i64 (((pushR J11 R26 (⟨2, 0, 1, 0, 0, 0, 0, 0, [], [(⟨⟨#[98]⟩, ⟨#[49]⟩⟩ : Pair)]⟩ : Msg)).2.1).att), .int .i64 (((pushR J11 R26 (⟨2, 0, 1, 0, 0, 0, 0, 0, [], [(⟨⟨#[98]⟩, ⟨#[49]⟩⟩ : Pair)]⟩ : Msg)).2.1).part), .int .i64 (((pushR J11 R26 (⟨2, 0, 1, 0, 0, 0, 0, 0, [], [(⟨⟨#[98]⟩, ⟨#[49]⟩⟩ : Pair)]⟩ : Msg)).2.1).seq), .int .i64 (((pushR J11 R26 (⟨2, 0, 1, 0, 0, 0, 0, 0, [], [(⟨⟨#[98]⟩, ⟨#[49]⟩⟩ : Pair)]⟩ : Msg)).2.1).next), .int .i64 (((pushR J11 R26 (⟨2, 0, 1, 0, 0, 0, 0, 0, [], [(⟨⟨#[98]⟩, ⟨#[49]⟩⟩ : Pair)]⟩ : Msg)).2.1).ep), .int .i64 (((pushR J11 R26 (⟨2, 0, 1, 0, 0, 0, 0, 0, [], [(⟨⟨#[98]⟩, ⟨#[49]⟩⟩ : Pair)]⟩ : Msg)).2.1).why), .slice none 0 0, .slice none 0 0] 64, osl kRec (.slice A39 rs35.length c40) rs35, osl kRec (.slice A28 rs23.length c29) rs23] [gl] := H
        obtain ⟨hv79, vs80, us81, hsets82, H⟩ := redI_open r5 (.slice A59 J11.us.length c60) vM7 vC8 vR9 vK10 J11 ((small21 u4).w) ((small21 u4).t) ((small21 u4).o) sb13 R48 H
        replace H := H.h9 (A := blk r5 (redC (.slice A59 J11.us.length c60) vM7 vC8 vR9 vK10 J11 ((small21 u4).w) ((small21 u4).t) ((small21 u4).o) R48.part R48.ep R48.g hv79 sb13 vs80) 185) (B := osl (kHd kPair) (.slice A59 J11.us.length c60) J11.us) (C := osl kIns vM7 J11.map) (D := osl kIns vC8 J11.comb) (E := osl kIns vR9 J11.red) (F := osl (kInt .i64) vK10 J11.marks) (G := prsS (R48.g) hv79) (I := osl (kHd (kInt .i64)) vs80 us81) (J := stgI 253 sb13 (R48.st))
        have hul_us81 := us_len hsets82 (show OkR _ R48 by assumption) (by omega)
        have hsl_us81 := us_small hsets82 (show OkR _ R48 by assumption)
        refine sc (snaps_ok r5 A59 c60 vM7 vC8 vR9 vK10 J11 ((small21 u4).w) ((small21 u4).t) ((small21 u4).o) R48.part R48.ep R48 hv79 sb13 vs80 us81 (by first | assumption | omega | exact small21_may _ | exact ⟨small21_home _, by decide⟩ | exact OkR.pairs (by assumption) | (unfold In64; omega) | exact (fun r h => by cases h) | decide | (simp only [List.length_nil]; omega) | exact in64_first) (by first | assumption | omega | exact small21_may _ | exact ⟨small21_home _, by decide⟩ | exact OkR.pairs (by assumption) | (unfold In64; omega) | exact (fun r h => by cases h) | decide | (simp only [List.length_nil]; omega) | exact in64_first) (by first | assumption | omega | exact small21_may _ | exact ⟨small21_home _, by decide⟩ | exact OkR.pairs (by assumption) | (unfold In64; omega) | exact (fun r h => by cases h) | decide | (simp only [List.length_nil]; omega) | exact in64_first) (by first | assumption | omega | exact small21_may _ | exact ⟨small21_home _, by decide⟩ | exact OkR.pairs (by assumption) | (unfold In64; omega) | exact (fun r h => by cases h) | decide | (simp only [List.length_nil]; omega) | exact in64_first) (by first | assumption | omega | exact small21_may _ | exact ⟨small21_home _, by decide⟩ | exact OkR.pairs (by assumption) | (unfold In64; omega) | exact (fun r h => by cases h) | decide | (simp only [List.length_nil]; omega) | exact in64_first) (by first | assumption | omega | exact small21_may _ | exact ⟨small21_home _, by decide⟩ | exact OkR.pairs (by assumption) | (unfold In64; omega) | exact (fun r h => by cases h) | decide | (simp only [List.length_nil]; omega) | exact in64_first) (by first | assumption | omega | exact small21_may _ | exact ⟨small21_home _, by decide⟩ | exact OkR.pairs (by assumption) | (unfold In64; omega) | exact (fun r h => by cases h) | decide | (simp only [List.length_nil]; omega) | exact in64_first)) H (lA 0 rfl (fun _ h => h) (lA 6 rfl (fun _ h => h) (lA 4 rfl own_rd (lA 7 rfl own_rd (lR 0 rfl l0))))) rfl rfl (e_fn kn59 rfl rfl) ?_
        rintro v85 _ w ⟨zs83, rfl, hf84⟩ H
        have hsl := congrArg List.length hf84
        rw [List.length_map] at hsl
        have hsl2 : (snapsR dg J11 R48).length = 1 := by unfold snapsR; rw [List.length_map]; exact hs3
        obtain ⟨A86, c87, rfl, hc88, hm89, hp90⟩ := H.fA 0 rfl
        replace H : Hd _ _ _ [osl kSnap (.slice A86 zs83.length c87) zs83, blk r5 (redC (.slice A59 J11.us.length c60) vM7 vC8 vR9 vK10 J11 ((small21 u4).w) ((small21 u4).t) ((small21 u4).o) R48.part R48.ep R48.g hv79 sb13 vs80) 185, osl (kHd kPair) (.slice A59 J11.us.length c60) J11.us, osl kIns vM7 J11.map, osl kIns vC8 J11.comb, osl kIns vR9 J11.red, osl (kInt .i64) vK10 J11.marks, prsS (R48.g) hv79, osl (kHd (kInt .i64)) vs80 us81, stgI 253 sb13 (R48.st), blk b77 [.int .i64 0, .int .i64 1] 3, osl (kInt .i64) v76 (mergedL J11.us.length R48), blk b69 [.string ⟨#[98]⟩, .string ⟨#[49]⟩] 106, osl kPair u64 ((outR dg J11 R48).1), osl kRec (.slice A50 rs45.length c51) rs45, blk b44 [.int .i64 (((pushR J11 R26 (⟨2, 0, 1, 0, 0, 0, 0, 0, [], [(⟨⟨#[98]⟩, ⟨#[49]⟩⟩ : Pair)]⟩ : Msg)).2.1).kind), .int .i64 (((pushR J11 R26 (⟨2, 0, 1, 0, 0, 0, 0, 0, [], [(⟨⟨#[98]⟩, ⟨#[49]⟩⟩ : Pair)]⟩ : Msg)).2.1).sp), .int .i64 (((pushR J11 R26 (⟨2, 0, 1, 0, 0, 0, 0, 0, [], [(⟨⟨#[98]⟩, ⟨#[49]⟩⟩ : Pair)]⟩ : Msg)).2.1).att), .int .i64 (((pushR J11 R26 (⟨2, 0, 1, 0, 0, 0, 0, 0, [], [(⟨⟨#[98]⟩, ⟨#[49]⟩⟩ : Pair)]⟩ : Msg)).2.1).part), .int .i64 (((pushR J11 R26 (⟨2, 0, 1, 0, 0, 0, 0, 0, [], [(⟨⟨#[98]⟩, ⟨#[49]⟩⟩ : Pair)]⟩ : Msg)).2.1).seq), .int .i64 (((pushR J11 R26 (⟨2, 0, 1, 0, 0, 0, 0, 0, [], [(⟨⟨#[98]⟩, ⟨#[49]⟩⟩ : Pair)]⟩ : Msg)).2.1).next), .int .i64 (((pushR J11 R26 (⟨2, 0, 1, 0, 0, 0, 0, 0, [], [(⟨⟨#[98]⟩, ⟨#[49]⟩⟩ : Pair)]⟩ : Msg)).2.1).ep), .int .i64 (((pushR J11 R26 (⟨2, 0, 1, 0, 0, 0, 0, 0, [], [(⟨⟨#[98]⟩, ⟨#[49]⟩⟩ : Pair)]⟩ : Msg)).2.1).why), .slice none 0 0, .slice none 0 0] 64, osl kRec (.slice A39 rs35.length c40) rs35, osl kRec (.slice A28 rs23.length c29) rs23] [gl] := H
        replace H := H.p9.p9.p9.p9.p9.p9.p9.p9.p9
        replace H := redI_shut r5 (.slice A59 J11.us.length c60) vM7 vC8 vR9 vK10 J11 ((small21 u4).w) ((small21 u4).t) ((small21 u4).o) sb13 R48 hv79 vs80 us81 hsets82 H
        replace H := H.h1 (A := redI r5 (.slice A59 J11.us.length c60) vM7 vC8 vR9 vK10 J11 ((small21 u4).w) ((small21 u4).t) ((small21 u4).o) sb13 R48)
        refine s_val rfl rfl (r_lenL rfl un94 rfl) (s_val rfl rfl (r_eq rfl rfl rfl) (s_k 2 rfl (s_nil (q_then ?_))))
        replace H := H.p1.k1
        refine c_ret (q_ret1 rfl rfl ?_)
        replace H := H.nil
        exact fin ⟨congrArg Value.bool (decide_eq_true (by omega)), rfl⟩ H
       exact (h78 hm3).elim
      exact absurd hout.2 (by rw [h71]; decide)
     exact (h70 hout.1).elim
    exact (h68 (by omega)).elim
   exact (h67 (by omega)).elim
  exact (h66 (by rw [hR1]; exact hall.2.1)).elim
 exact (h65 (by omega)).elim
theorem great21_ok (vS : Value) (vM : Value) (vC : Value) (vR : Value) (vK : Value) (C : Cf) (vr : Value) (recs : List Rec) (va : Value) (acts : List (Two A21H)) (most : Int) :
    Cn Tryz.prog 46 [.agg #[vS, .int .i64 C.J.parts, vM, vC, vR, .int .i64 C.J.chunk, .int .i64 C.J.window, .int .i64 C.J.fuel, vK, .int .i64 C.w, .int .i64 C.t, .int .i64 C.o], vr, va, .int .i64 most] [] [rsl (kHd kPair) vS C.J.us, rsl kIns vM C.J.map, rsl kIns vC C.J.comb, rsl kIns vR C.J.red, rsl (kInt .i64) vK C.J.marks, rsl kRec vr recs, rsl kA21 va acts] (fun v Bs => v = .bool (greatA C.J recs acts most) ∧ Bs = []) := by
 intro w0 F0 H
 obtain ⟨A1, c2, rfl, hc3, hm4, hp5⟩ := H.fR 0 rfl
 obtain ⟨A6, c7, rfl, hc8, hm9, hp10⟩ := H.fR 1 rfl
 obtain ⟨A11, c12, rfl, hc13, hm14, hp15⟩ := H.fR 2 rfl
 obtain ⟨A16, c17, rfl, hc18, hm19, hp20⟩ := H.fR 3 rfl
 obtain ⟨A21, c22, rfl, hc23, hm24, hp25⟩ := H.fR 4 rfl
 obtain ⟨A26, c27, rfl, hc28, hm29, hp30⟩ := H.fR 5 rfl
 obtain ⟨A31, c32, rfl, hc33, hm34, hp35⟩ := H.fR 6 rfl
 refine enter Tryz.func46 rfl rfl (Nat.le_of_ble_eq_true rfl) (c_seq (c_reg (s_box rfl rfl rfl rfl H (fun b36 w H => (s_1 rfl (s_nil (q_then ?_)))))))
 replace H : Hd _ _ _ [blk b36 [.slice A1 C.J.us.length c2, .int .i64 C.J.parts, .slice A6 C.J.map.length c7, .slice A11 C.J.comb.length c12, .slice A16 C.J.red.length c17, .int .i64 C.J.chunk, .int .i64 C.J.window, .int .i64 C.J.fuel, .slice A21 C.J.marks.length c22, .int .i64 C.w, .int .i64 C.t, .int .i64 C.o] 28] [rsl (kHd kPair) (.slice A1 C.J.us.length c2) C.J.us, rsl kIns (.slice A6 C.J.map.length c7) C.J.map, rsl kIns (.slice A11 C.J.comb.length c12) C.J.comb, rsl kIns (.slice A16 C.J.red.length c17) C.J.red, rsl (kInt .i64) (.slice A21 C.J.marks.length c22) C.J.marks, rsl kRec (.slice A26 recs.length c27) recs, rsl kA21 (.slice A31 acts.length c32) acts] := H
 refine c_seq (c_seq (c_reg (s_1 rfl (s_nil (q_then (c_block (c_loop (σ := Nat) (fun k => [(1, .slice A26 recs.length c27), (2, .slice A31 acts.length c32), (3, .int .i64 most), (4, .pointer (some ⟨b36, 0, none⟩)), (9, .int .i64 ((k : Nat) : Int))]) (fun k w => (Hd w0 F0 w [blk b36 [.slice A1 C.J.us.length c2, .int .i64 C.J.parts, .slice A6 C.J.map.length c7, .slice A11 C.J.comb.length c12, .slice A16 C.J.red.length c17, .int .i64 C.J.chunk, .int .i64 C.J.window, .int .i64 C.J.fuel, .slice A21 C.J.marks.length c22, .int .i64 C.w, .int .i64 C.t, .int .i64 C.o] 28] [rsl (kHd kPair) (.slice A1 C.J.us.length c2) C.J.us, rsl kIns (.slice A6 C.J.map.length c7) C.J.map, rsl kIns (.slice A11 C.J.comb.length c12) C.J.comb, rsl kIns (.slice A16 C.J.red.length c17) C.J.red, rsl (kInt .i64) (.slice A21 C.J.marks.length c22) C.J.marks, rsl kRec (.slice A26 recs.length c27) recs, rsl kA21 (.slice A31 acts.length c32) acts]) ∧ (k ≤ acts.length) ∧ (∀ a ∈ acts.take k, greatM a = false)) (fun k => acts.length - k) 0 ⟨rfl, rfl, rfl, rfl, rfl, trivial⟩ ⟨H, Nat.zero_le _, by simp⟩ ?_)))))))
 rintro k w ⟨H, hk, hn⟩
 refine c_seq (c_seq (c_reg (s_k 2 rfl (s_val rfl rfl (r_lenL rfl un73 rfl) (s_val rfl rfl (r_lt rfl rfl rfl) (s_1 rfl ?_))))))
 refine s_dec (d := 14) rfl (fun h37 => ?_) (fun h37 => ?_)
 ·refine s_1 rfl (s_val rfl rfl (r_lenL rfl un73 rfl) (s_1 rfl (s_val rfl rfl (r_le rfl rfl rfl) (s_1 rfl (s_nil (q_then ?_))))))
  refine c_dec rfl (fun h38 => ?_) (fun h38 => ?_)
  ·refine c_skip (q_then (c_seq (c_block (c_seq (c_reg (s_k 2 rfl ?_))))))
   obtain ⟨⟨⟨a41, ⟨a42, a43, a44, a45, a46, a47, a48, a49⟩, a50⟩, sv51, se52, pv53, pr54⟩, hx40⟩ : ∃ z9, acts[k]? = some z9 := ⟨_, List.getElem?_eq_getElem (show k < acts.length by omega)⟩
   obtain ⟨A55, c56, A57, c58, rfl, rfl, m59, m60, m61, m62⟩ := H.nestRt 6 rfl hx40
   have th63 := H.thRt 6 rfl hx40
   refine s_val rfl rfl (r_iaE (p := oOf A31 + k * 12) rfl sl73 rfl rfl (by omega) (by omega) th63 rfl) (s_val rfl rfl (r_fa rfl fo79_1 rfl) (s_val rfl rfl (r_ldA (cs := [.int .i64 a42, .int .i64 a43, .int .i64 a44, .int .i64 a45, .int .i64 a46, .int .i64 a47, .int .i64 a48, .int .i64 a49, .slice A55 se52.length c56, .slice A57 pr54.length c58]) rfl ty64 rfl rfl (H.elsRt 6 rfl hx40 1 10 rfl rfl)) (sc (greatMsg_ok (⟨a42, a43, a44, a45, a46, a47, a48, a49⟩ : MesH) (.slice A55 se52.length c56) se52 (.slice A57 pr54.length c58) pr54) H (lX (fun F hA hR => tw_set (hR _ (List.mem_of_getElem? (i := 6) rfl)) hx40) (lX (fun F hA hR => tw_pairs (hR _ (List.mem_of_getElem? (i := 6) rfl)) hx40) l0)) rfl rfl (e_fn kn62 rfl rfl) ?_)))
   rintro _ _ w ⟨rfl, rfl⟩ H
   refine s_nil (q_then ?_)
   replace H : Hd _ _ _ [blk b36 [.slice A1 C.J.us.length c2, .int .i64 C.J.parts, .slice A6 C.J.map.length c7, .slice A11 C.J.comb.length c12, .slice A16 C.J.red.length c17, .int .i64 C.J.chunk, .int .i64 C.J.window, .int .i64 C.J.fuel, .slice A21 C.J.marks.length c22, .int .i64 C.w, .int .i64 C.t, .int .i64 C.o] 28] [rsl (kHd kPair) (.slice A1 C.J.us.length c2) C.J.us, rsl kIns (.slice A6 C.J.map.length c7) C.J.map, rsl kIns (.slice A11 C.J.comb.length c12) C.J.comb, rsl kIns (.slice A16 C.J.red.length c17) C.J.red, rsl (kInt .i64) (.slice A21 C.J.marks.length c22) C.J.marks, rsl kRec (.slice A26 recs.length c27) recs, rsl kA21 (.slice A31 acts.length c32) acts] := H
   refine c_cond (b := greatSP se52 pr54) rfl (fun h64 => ?_) (fun h64 => ?_)
   ·refine c_seq (c_reg (s_1 rfl (s_nil (q_then (c_ret (q_blockR (q_thenR (q_thenR (q_blockR (q_thenR (q_ret1 rfl rfl ?_)))))))))))
    replace H := H.nil
    exact fin ⟨congrArg Value.bool (greatA_hit hx40 (by simpa [greatM] using h64)), rfl⟩ H
   exact c_skip (q_blockN (q_then (c_reg (s_1 rfl (s_val rfl rfl (r_add (z := ((k + 1 : Nat) : Int)) rfl rfl rfl (by rw [w64 (by omega) (by omega)]; omega)) (s_1 rfl (s_nil (q_round (s := k) (k + 1) ⟨rfl, rfl, rfl, rfl, rfl, trivial⟩ ⟨H, by (try dsimp only); omega, take_prop (Q := fun a => greatM a = false) hn hx40 (by simpa [greatM] using h64)⟩ (by (try dsimp only); omega)))))))))
  refine c_exit (q_thenE (q_thenE (q_blockE (q_then (c_seq (c_reg (s_val rfl rfl (r_fa rfl fo28_0 rfl) (s_val rfl rfl (r_ldA (cs := [.slice A1 C.J.us.length c2, .int .i64 C.J.parts, .slice A6 C.J.map.length c7, .slice A11 C.J.comb.length c12, .slice A16 C.J.red.length c17, .int .i64 C.J.chunk, .int .i64 C.J.window, .int .i64 C.J.fuel, .slice A21 C.J.marks.length c22]) rfl ty26 rfl rfl (H.cellsI 0 rfl rfl)) (sc (greatJob_ok (.slice A1 C.J.us.length c2) (.slice A6 C.J.map.length c7) (.slice A11 C.J.comb.length c12) (.slice A16 C.J.red.length c17) (.slice A21 C.J.marks.length c22) C.J) H (lR 0 rfl (lR 1 rfl (lR 2 rfl (lR 3 rfl (lR 4 rfl l0))))) rfl rfl (e_fn kn18 rfl rfl) ?_)))))))))
  rintro _ _ w ⟨rfl, rfl⟩ H
  refine s_1 rfl ?_
  refine s_boo (d := 31) (b := greatJ C.J) rfl (fun h65 => ?_) (fun h65 => ?_)
  ·refine s_k 10 rfl (s_nil (q_then ?_))
   replace H : Hd _ _ _ [blk b36 [.slice A1 C.J.us.length c2, .int .i64 C.J.parts, .slice A6 C.J.map.length c7, .slice A11 C.J.comb.length c12, .slice A16 C.J.red.length c17, .int .i64 C.J.chunk, .int .i64 C.J.window, .int .i64 C.J.fuel, .slice A21 C.J.marks.length c22, .int .i64 C.w, .int .i64 C.t, .int .i64 C.o] 28] [rsl (kHd kPair) (.slice A1 C.J.us.length c2) C.J.us, rsl kIns (.slice A6 C.J.map.length c7) C.J.map, rsl kIns (.slice A11 C.J.comb.length c12) C.J.comb, rsl kIns (.slice A16 C.J.red.length c17) C.J.red, rsl (kInt .i64) (.slice A21 C.J.marks.length c22) C.J.marks, rsl kRec (.slice A26 recs.length c27) recs, rsl kA21 (.slice A31 acts.length c32) acts] := H
   refine c_ret (q_ret1 rfl rfl ?_)
   replace H := H.nil
   exact fin ⟨congrArg Value.bool (greatA_of (.inl h65)), rfl⟩ H
  refine s_1 rfl (sc (greatRecords_ok (.slice A26 recs.length c27) recs 20) H (lR 5 rfl l0) rfl rfl (e_fn kn20 rfl rfl) ?_)
  rintro _ _ w ⟨rfl, rfl⟩ H
  refine s_k 2 rfl ?_
  refine s_boo (d := 35) (b := greatR recs 20) rfl (fun h66 => ?_) (fun h66 => ?_)
  ·refine s_k 6 rfl (s_nil (q_then ?_))
   replace H : Hd _ _ _ [blk b36 [.slice A1 C.J.us.length c2, .int .i64 C.J.parts, .slice A6 C.J.map.length c7, .slice A11 C.J.comb.length c12, .slice A16 C.J.red.length c17, .int .i64 C.J.chunk, .int .i64 C.J.window, .int .i64 C.J.fuel, .slice A21 C.J.marks.length c22, .int .i64 C.w, .int .i64 C.t, .int .i64 C.o] 28] [rsl (kHd kPair) (.slice A1 C.J.us.length c2) C.J.us, rsl kIns (.slice A6 C.J.map.length c7) C.J.map, rsl kIns (.slice A11 C.J.comb.length c12) C.J.comb, rsl kIns (.slice A16 C.J.red.length c17) C.J.red, rsl (kInt .i64) (.slice A21 C.J.marks.length c22) C.J.marks, rsl kRec (.slice A26 recs.length c27) recs, rsl kA21 (.slice A31 acts.length c32) acts] := H
   refine c_ret (q_ret1 rfl rfl ?_)
   replace H := H.nil
   exact fin ⟨congrArg Value.bool (greatA_of (.inr h66)), rfl⟩ H
  refine s_1 rfl (s_val rfl rfl (r_lenL rfl un73 rfl) (s_1 rfl (s_val rfl rfl (r_gt rfl rfl rfl) (s_k 2 rfl (s_nil (q_then ?_))))))
  replace H : Hd _ _ _ [blk b36 [.slice A1 C.J.us.length c2, .int .i64 C.J.parts, .slice A6 C.J.map.length c7, .slice A11 C.J.comb.length c12, .slice A16 C.J.red.length c17, .int .i64 C.J.chunk, .int .i64 C.J.window, .int .i64 C.J.fuel, .slice A21 C.J.marks.length c22, .int .i64 C.w, .int .i64 C.t, .int .i64 C.o] 28] [rsl (kHd kPair) (.slice A1 C.J.us.length c2) C.J.us, rsl kIns (.slice A6 C.J.map.length c7) C.J.map, rsl kIns (.slice A11 C.J.comb.length c12) C.J.comb, rsl kIns (.slice A16 C.J.red.length c17) C.J.red, rsl (kInt .i64) (.slice A21 C.J.marks.length c22) C.J.marks, rsl kRec (.slice A26 recs.length c27) recs, rsl kA21 (.slice A31 acts.length c32) acts] := H
  refine c_ret (q_ret1 rfl rfl ?_)
  replace H := H.nil
  exact fin ⟨congrArg Value.bool (greatA_end hn (by omega) (by simpa using h65) (by simpa using h66)), rfl⟩ H
 refine s_k 5 rfl (s_nil (q_then (c_no rfl (c_exit (q_thenE (q_thenE (q_blockE (q_then (c_seq (c_reg (s_val rfl rfl (r_fa rfl fo28_0 rfl) (s_val rfl rfl (r_ldA (cs := [.slice A1 C.J.us.length c2, .int .i64 C.J.parts, .slice A6 C.J.map.length c7, .slice A11 C.J.comb.length c12, .slice A16 C.J.red.length c17, .int .i64 C.J.chunk, .int .i64 C.J.window, .int .i64 C.J.fuel, .slice A21 C.J.marks.length c22]) rfl ty26 rfl rfl (H.cellsI 0 rfl rfl)) (sc (greatJob_ok (.slice A1 C.J.us.length c2) (.slice A6 C.J.map.length c7) (.slice A11 C.J.comb.length c12) (.slice A16 C.J.red.length c17) (.slice A21 C.J.marks.length c22) C.J) H (lR 0 rfl (lR 1 rfl (lR 2 rfl (lR 3 rfl (lR 4 rfl l0))))) rfl rfl (e_fn kn18 rfl rfl) ?_)))))))))))))
 rintro _ _ w ⟨rfl, rfl⟩ H
 refine s_1 rfl ?_
 refine s_boo (d := 31) (b := greatJ C.J) rfl (fun h67 => ?_) (fun h67 => ?_)
 ·refine s_k 10 rfl (s_nil (q_then ?_))
  replace H : Hd _ _ _ [blk b36 [.slice A1 C.J.us.length c2, .int .i64 C.J.parts, .slice A6 C.J.map.length c7, .slice A11 C.J.comb.length c12, .slice A16 C.J.red.length c17, .int .i64 C.J.chunk, .int .i64 C.J.window, .int .i64 C.J.fuel, .slice A21 C.J.marks.length c22, .int .i64 C.w, .int .i64 C.t, .int .i64 C.o] 28] [rsl (kHd kPair) (.slice A1 C.J.us.length c2) C.J.us, rsl kIns (.slice A6 C.J.map.length c7) C.J.map, rsl kIns (.slice A11 C.J.comb.length c12) C.J.comb, rsl kIns (.slice A16 C.J.red.length c17) C.J.red, rsl (kInt .i64) (.slice A21 C.J.marks.length c22) C.J.marks, rsl kRec (.slice A26 recs.length c27) recs, rsl kA21 (.slice A31 acts.length c32) acts] := H
  refine c_ret (q_ret1 rfl rfl ?_)
  replace H := H.nil
  exact fin ⟨congrArg Value.bool (greatA_of (.inl h67)), rfl⟩ H
 refine s_1 rfl (sc (greatRecords_ok (.slice A26 recs.length c27) recs 20) H (lR 5 rfl l0) rfl rfl (e_fn kn20 rfl rfl) ?_)
 rintro _ _ w ⟨rfl, rfl⟩ H
 refine s_k 2 rfl ?_
 refine s_boo (d := 35) (b := greatR recs 20) rfl (fun h68 => ?_) (fun h68 => ?_)
 ·refine s_k 6 rfl (s_nil (q_then ?_))
  replace H : Hd _ _ _ [blk b36 [.slice A1 C.J.us.length c2, .int .i64 C.J.parts, .slice A6 C.J.map.length c7, .slice A11 C.J.comb.length c12, .slice A16 C.J.red.length c17, .int .i64 C.J.chunk, .int .i64 C.J.window, .int .i64 C.J.fuel, .slice A21 C.J.marks.length c22, .int .i64 C.w, .int .i64 C.t, .int .i64 C.o] 28] [rsl (kHd kPair) (.slice A1 C.J.us.length c2) C.J.us, rsl kIns (.slice A6 C.J.map.length c7) C.J.map, rsl kIns (.slice A11 C.J.comb.length c12) C.J.comb, rsl kIns (.slice A16 C.J.red.length c17) C.J.red, rsl (kInt .i64) (.slice A21 C.J.marks.length c22) C.J.marks, rsl kRec (.slice A26 recs.length c27) recs, rsl kA21 (.slice A31 acts.length c32) acts] := H
  refine c_ret (q_ret1 rfl rfl ?_)
  replace H := H.nil
  exact fin ⟨congrArg Value.bool (greatA_of (.inr h68)), rfl⟩ H
 refine s_1 rfl (s_val rfl rfl (r_lenL rfl un73 rfl) (s_1 rfl (s_val rfl rfl (r_gt rfl rfl rfl) (s_k 2 rfl (s_nil (q_then ?_))))))
 replace H : Hd _ _ _ [blk b36 [.slice A1 C.J.us.length c2, .int .i64 C.J.parts, .slice A6 C.J.map.length c7, .slice A11 C.J.comb.length c12, .slice A16 C.J.red.length c17, .int .i64 C.J.chunk, .int .i64 C.J.window, .int .i64 C.J.fuel, .slice A21 C.J.marks.length c22, .int .i64 C.w, .int .i64 C.t, .int .i64 C.o] 28] [rsl (kHd kPair) (.slice A1 C.J.us.length c2) C.J.us, rsl kIns (.slice A6 C.J.map.length c7) C.J.map, rsl kIns (.slice A11 C.J.comb.length c12) C.J.comb, rsl kIns (.slice A16 C.J.red.length c17) C.J.red, rsl (kInt .i64) (.slice A21 C.J.marks.length c22) C.J.marks, rsl kRec (.slice A26 recs.length c27) recs, rsl kA21 (.slice A31 acts.length c32) acts] := H
 refine c_ret (q_ret1 rfl rfl ?_)
 replace H := H.nil
 exact fin ⟨congrArg Value.bool (greatA_end hn (by omega) (by simpa using h67) (by simpa using h68)), rfl⟩ H
theorem begun_ok (vS : Value) (vM : Value) (vC : Value) (vR : Value) (vK : Value) (C : Cf) (k : Int) (hC : mayC C) (wk : In64 k) :
    Cn Tryz.prog 48 [.agg #[vS, .int .i64 C.J.parts, vM, vC, vR, .int .i64 C.J.chunk, .int .i64 C.J.window, .int .i64 C.J.fuel, vK, .int .i64 C.w, .int .i64 C.t, .int .i64 C.o], .int .i64 k] [] [rsl (kHd kPair) vS C.J.us, rsl kIns vM C.J.map, rsl kIns vC C.J.comb, rsl kIns vR C.J.red, rsl (kInt .i64) vK C.J.marks] (fun v Bs => ∃ r : Nat, ∃ lo : Int, ∃ vS2 : Value, ∃ vM2 : Value, ∃ vC2 : Value, ∃ vR2 : Value, ∃ vK2 : Value, ∃ J2 : Job, ∃ sb : Nat, ∃ R : Red, v = .tuple #[.pointer (some ⟨r, 0, none⟩), .int .i64 lo] ∧ Bs = [redI r vS2 vM2 vC2 vR2 vK2 J2 C.w C.t C.o sb R] ∧ (SameJ J2 C.J) ∧ (R = newR C.J.us.length lo 1 []) ∧ (0 ≤ lo ∧ lo < C.J.parts)) := by
 intro w0 F0 H
 obtain ⟨A1, c2, rfl, hc3, hm4, hp5⟩ := H.fR 0 rfl
 obtain ⟨A6, c7, rfl, hc8, hm9, hp10⟩ := H.fR 1 rfl
 obtain ⟨A11, c12, rfl, hc13, hm14, hp15⟩ := H.fR 2 rfl
 obtain ⟨A16, c17, rfl, hc18, hm19, hp20⟩ := H.fR 3 rfl
 obtain ⟨A21, c22, rfl, hc23, hm24, hp25⟩ := H.fR 4 rfl
 have hpt : 1 ≤ C.J.parts ∧ C.J.parts ≤ 4 := hC.1.2.1
 refine enter Tryz.func48 rfl rfl (Nat.le_of_ble_eq_true rfl) (c_seq (c_reg (s_box rfl rfl rfl rfl H (fun b26 w H => (s_k 2 rfl (s_nil (q_then ?_)))))))
 replace H : Hd _ _ _ [blk b26 [.slice A1 C.J.us.length c2, .int .i64 C.J.parts, .slice A6 C.J.map.length c7, .slice A11 C.J.comb.length c12, .slice A16 C.J.red.length c17, .int .i64 C.J.chunk, .int .i64 C.J.window, .int .i64 C.J.fuel, .slice A21 C.J.marks.length c22, .int .i64 C.w, .int .i64 C.t, .int .i64 C.o] 28] [rsl (kHd kPair) (.slice A1 C.J.us.length c2) C.J.us, rsl kIns (.slice A6 C.J.map.length c7) C.J.map, rsl kIns (.slice A11 C.J.comb.length c12) C.J.comb, rsl kIns (.slice A16 C.J.red.length c17) C.J.red, rsl (kInt .i64) (.slice A21 C.J.marks.length c22) C.J.marks] := H
 refine c_seq (c_reg (s_1 rfl (s_val rfl rfl (r_fa rfl fo28_0 rfl) (s_val rfl rfl (r_fa rfl fo26_1 rfl) (s_val rfl rfl (r_ld rfl ty3 rfl (H.cellI 0 rfl rfl)) (sc (low_ok k C.J.parts (by first | assumption | (unfold In64; omega)) (by omega) (by omega)) H l0 rfl rfl (e_fn kn22 rfl rfl) ?_))))))
 rintro _ _ w ⟨rfl, rfl⟩ H
 obtain ⟨lo27, hl28, hl29, hl30⟩ : ∃ z : Int, IntKind.u64.wrap k % C.J.parts = z ∧ 0 ≤ z ∧ z < C.J.parts := ⟨_, rfl, Int.emod_nonneg _ (by omega), Int.emod_lt_of_pos _ (by omega)⟩
 rw [hl28]
 refine s_1 rfl (s_nil (q_then (c_seq (c_reg (s_val rfl rfl (r_ldA (cs := [.slice A1 C.J.us.length c2, .int .i64 C.J.parts, .slice A6 C.J.map.length c7, .slice A11 C.J.comb.length c12, .slice A16 C.J.red.length c17, .int .i64 C.J.chunk, .int .i64 C.J.window, .int .i64 C.J.fuel, .slice A21 C.J.marks.length c22, .int .i64 C.w, .int .i64 C.t, .int .i64 C.o]) rfl ty28 rfl rfl (H.cellsI 0 rfl rfl)) (s_1 rfl ?_))))))
 have hlo1 : In64 lo27 := by unfold In64; omega
 refine sc (redNew_ok (.slice A1 C.J.us.length c2) (.slice A6 C.J.map.length c7) (.slice A11 C.J.comb.length c12) (.slice A16 C.J.red.length c17) (.slice A21 C.J.marks.length c22) C lo27 1 (.slice none 0 0) [] (by first | assumption | omega | exact ⟨home_pos hC (by omega) (by omega), by decide⟩ | (unfold In64; omega) | exact (fun r h => by cases h) | (simp only [List.length_nil]; omega)) (by first | assumption | omega | exact ⟨home_pos hC (by omega) (by omega), by decide⟩ | (unfold In64; omega) | exact (fun r h => by cases h) | (simp only [List.length_nil]; omega)) (by first | assumption | omega | exact ⟨home_pos hC (by omega) (by omega), by decide⟩ | (unfold In64; omega) | exact (fun r h => by cases h) | (simp only [List.length_nil]; omega)) (by first | assumption | omega | exact ⟨home_pos hC (by omega) (by omega), by decide⟩ | (unfold In64; omega) | exact (fun r h => by cases h) | (simp only [List.length_nil]; omega)) (by first | assumption | omega | exact ⟨home_pos hC (by omega) (by omega), by decide⟩ | (unfold In64; omega) | exact (fun r h => by cases h) | (simp only [List.length_nil]; omega)) (by first | assumption | omega | exact ⟨home_pos hC (by omega) (by omega), by decide⟩ | (unfold In64; omega) | exact (fun r h => by cases h) | (simp only [List.length_nil]; omega))) H (lR 0 rfl (lR 1 rfl (lR 2 rfl (lR 3 rfl (lR 4 rfl (lX (fun F _ _ => rsl_nil _ _ F trivial (by decide)) l0)))))) rfl rfl (e_fn kn56 rfl rfl) ?_
 rintro _ _ w ⟨r31, vS32, vM33, vC34, vR35, vK36, J37, hv38, sb39, vs40, us41, rfl, rfl, hf42, hf43⟩ H
 replace H : Hd _ _ _ [blk r31 (redC vS32 vM33 vC34 vR35 vK36 J37 C.w C.t C.o lo27 1 ((newR J37.us.length lo27 1 ([].map Rec.p)).g) hv38 sb39 vs40) 185, osl (kHd kPair) vS32 J37.us, osl kIns vM33 J37.map, osl kIns vC34 J37.comb, osl kIns vR35 J37.red, osl (kInt .i64) vK36 J37.marks, prsS ((newR J37.us.length lo27 1 ([].map Rec.p)).g) hv38, osl (kHd (kInt .i64)) vs40 us41, stgI 253 sb39 ([]), blk b26 [.slice A1 C.J.us.length c2, .int .i64 C.J.parts, .slice A6 C.J.map.length c7, .slice A11 C.J.comb.length c12, .slice A16 C.J.red.length c17, .int .i64 C.J.chunk, .int .i64 C.J.window, .int .i64 C.J.fuel, .slice A21 C.J.marks.length c22, .int .i64 C.w, .int .i64 C.t, .int .i64 C.o] 28] [rsl (kHd kPair) (.slice A1 C.J.us.length c2) C.J.us, rsl kIns (.slice A6 C.J.map.length c7) C.J.map, rsl kIns (.slice A11 C.J.comb.length c12) C.J.comb, rsl kIns (.slice A16 C.J.red.length c17) C.J.red, rsl (kInt .i64) (.slice A21 C.J.marks.length c22) C.J.marks] := H
 obtain ⟨R44, hR45⟩ : ∃ z : Red, z = newR J37.us.length lo27 1 ([].map Rec.p) := ⟨_, rfl⟩
 rw [← hR45] at H hf43
 have hRp46 : R44.part = lo27 := by rw [hR45]; exact (newR_part _ _ _ _).1
 have hRe47 : R44.ep = 1 := by rw [hR45]; exact (newR_part _ _ _ _).2.1
 have hRs48 : R44.st = [] := by rw [hR45]; exact (newR_part _ _ _ _).2.2
 rw [show redC vS32 vM33 vC34 vR35 vK36 J37 C.w C.t C.o lo27 1 R44.g hv38 sb39 vs40 = redC vS32 vM33 vC34 vR35 vK36 J37 C.w C.t C.o R44.part R44.ep R44.g hv38 sb39 vs40 from by rw [hRp46, hRe47], show stgI 253 sb39 ([]) = stgI 253 sb39 (R44.st) from by rw [hRs48]] at H
 replace H : Hd _ _ _ [blk r31 (redC vS32 vM33 vC34 vR35 vK36 J37 C.w C.t C.o R44.part R44.ep R44.g hv38 sb39 vs40) 185, osl (kHd kPair) vS32 J37.us, osl kIns vM33 J37.map, osl kIns vC34 J37.comb, osl kIns vR35 J37.red, osl (kInt .i64) vK36 J37.marks, prsS (R44.g) hv38, osl (kHd (kInt .i64)) vs40 us41, stgI 253 sb39 (R44.st), blk b26 [.slice A1 C.J.us.length c2, .int .i64 C.J.parts, .slice A6 C.J.map.length c7, .slice A11 C.J.comb.length c12, .slice A16 C.J.red.length c17, .int .i64 C.J.chunk, .int .i64 C.J.window, .int .i64 C.J.fuel, .slice A21 C.J.marks.length c22, .int .i64 C.w, .int .i64 C.t, .int .i64 C.o] 28] [rsl (kHd kPair) (.slice A1 C.J.us.length c2) C.J.us, rsl kIns (.slice A6 C.J.map.length c7) C.J.map, rsl kIns (.slice A11 C.J.comb.length c12) C.J.comb, rsl kIns (.slice A16 C.J.red.length c17) C.J.red, rsl (kInt .i64) (.slice A21 C.J.marks.length c22) C.J.marks] := H
 replace H := redI_shut r31 vS32 vM33 vC34 vR35 vK36 J37 C.w C.t C.o sb39 R44 hv38 vs40 us41 hf43 H
 replace H := H.h1 (A := redI r31 vS32 vM33 vC34 vR35 vK36 J37 C.w C.t C.o sb39 R44)
 have hsj_R44 := hf42
 refine s_k 5 rfl (s_nil (q_then (c_seq (c_seq (c_reg (s_1 rfl (s_val rfl rfl (r_ne rfl rfl rfl) (s_nil (q_then (c_no rfl (c_skip (q_then (c_seq (c_reg (s_k 4 rfl (s_nil (q_then (c_ret (q_ret2 rfl rfl rfl ?_)))))))))))))))))))
 replace H := H.k1
 exact fin ⟨r31, lo27, vS32, vM33, vC34, vR35, vK36, J37, sb39, R44, rfl, rfl, hf42, hR45, ⟨by omega, by omega⟩⟩ H
theorem reducerOnceC_ok (vS vM vC vR vK : Value) (C : Cf) (ss : List (List Pair)) (gm : ∀ i ∈ C.J.map, In64 i.a) (gc : ∀ i ∈ C.J.comb, In64 i.a) (gr : ∀ i ∈ C.J.red, In64 i.a) (k0 : Int) (wk : In64 k0) (va : Value) (acts : List (Two A21H)) (wacts : (∀ x ∈ acts, (InT (fun a : A21H => InM a.m ∧ In64 a.n) (fun p : Pair => p.key.size ≤ 9223372036854775807 ∧ p.val.size ≤ 9223372036854775807)) x) ∧ acts.length ≤ 9223372036854775807) (vm : Value) (more : List (Two A21H)) (wmore : (∀ x ∈ more, (InT (fun a : A21H => InM a.m ∧ In64 a.n) (fun p : Pair => p.key.size ≤ 9223372036854775807 ∧ p.val.size ≤ 9223372036854775807)) x) ∧ more.length ≤ 9223372036854775807) :
    Cn Tryz.prog 7 [.agg #[vS, .int .i64 C.J.parts, vM, vC, vR, .int .i64 C.J.chunk, .int .i64 C.J.window, .int .i64 C.J.fuel, vK, .int .i64 C.w, .int .i64 C.t, .int .i64 C.o], .int .i64 k0, va, vm] [] [rsl (kHd kPair) vS C.J.us, rsl (kSl kPair) vS ss, rsl kIns vM C.J.map, rsl kIns vC C.J.comb, rsl kIns vR C.J.red, rsl (kInt .i64) vK C.J.marks, rsl kA21 va acts, rsl kA21 vm more, gl] (fun v Bs => v = .bool true ∧ Bs = []) := by
 intro w0 F0 H
 obtain ⟨A1, c2, rfl, hc3, hm4, hp5⟩ := H.fR 0 rfl
 obtain ⟨A6, c7, rfl, hc8, hm9, hp10⟩ := H.fR 2 rfl
 obtain ⟨A11, c12, rfl, hc13, hm14, hp15⟩ := H.fR 3 rfl
 obtain ⟨A16, c17, rfl, hc18, hm19, hp20⟩ := H.fR 4 rfl
 obtain ⟨A21, c22, rfl, hc23, hm24, hp25⟩ := H.fR 5 rfl
 obtain ⟨A26, c27, rfl, hc28, hm29, hp30⟩ := H.fR 6 rfl
 obtain ⟨A31, c32, rfl, hc33, hm34, hp35⟩ := H.fR 7 rfl
 refine enter Tryz.func7 rfl rfl (Nat.le_of_ble_eq_true rfl) (c_seq (c_reg (s_box rfl rfl rfl rfl H (fun b36 w H => (s_1 rfl (s_nil (q_then ?_)))))))
 replace H : Hd _ _ _ [blk b36 [.slice A1 C.J.us.length c2, .int .i64 C.J.parts, .slice A6 C.J.map.length c7, .slice A11 C.J.comb.length c12, .slice A16 C.J.red.length c17, .int .i64 C.J.chunk, .int .i64 C.J.window, .int .i64 C.J.fuel, .slice A21 C.J.marks.length c22, .int .i64 C.w, .int .i64 C.t, .int .i64 C.o] 28] [rsl (kHd kPair) (.slice A1 C.J.us.length c2) C.J.us, rsl (kSl kPair) (.slice A1 C.J.us.length c2) ss, rsl kIns (.slice A6 C.J.map.length c7) C.J.map, rsl kIns (.slice A11 C.J.comb.length c12) C.J.comb, rsl kIns (.slice A16 C.J.red.length c17) C.J.red, rsl (kInt .i64) (.slice A21 C.J.marks.length c22) C.J.marks, rsl kA21 (.slice A26 acts.length c27) acts, rsl kA21 (.slice A31 more.length c32) more, gl] := H
 refine c_seq (c_seq (c_reg (s_val rfl rfl (r_ldA (cs := [.slice A1 C.J.us.length c2, .int .i64 C.J.parts, .slice A6 C.J.map.length c7, .slice A11 C.J.comb.length c12, .slice A16 C.J.red.length c17, .int .i64 C.J.chunk, .int .i64 C.J.window, .int .i64 C.J.fuel, .slice A21 C.J.marks.length c22, .int .i64 C.w, .int .i64 C.t, .int .i64 C.o]) rfl ty28 rfl rfl (H.cellsI 0 rfl rfl)) (s_1 rfl (sc (great21_ok (.slice A1 C.J.us.length c2) (.slice A6 C.J.map.length c7) (.slice A11 C.J.comb.length c12) (.slice A16 C.J.red.length c17) (.slice A21 C.J.marks.length c22) C (.slice none 0 0) [] (.slice A26 acts.length c27) acts 40) H (lR 0 rfl (lR 2 rfl (lR 3 rfl (lR 4 rfl (lR 5 rfl (lX (fun F _ _ => rsl_nil _ _ F trivial (by decide)) (lR 6 rfl l0))))))) rfl rfl (e_fn kn46 rfl rfl) ?_)))))
 rintro _ _ w ⟨rfl, rfl⟩ H
 refine s_1 rfl ?_
 refine s_boo (d := 24) (b := greatA C.J [] acts 40) rfl (fun h37 => ?_) (fun h37 => ?_)
 ·refine s_k 9 rfl (s_nil (q_then ?_))
  replace H : Hd _ _ _ [blk b36 [.slice A1 C.J.us.length c2, .int .i64 C.J.parts, .slice A6 C.J.map.length c7, .slice A11 C.J.comb.length c12, .slice A16 C.J.red.length c17, .int .i64 C.J.chunk, .int .i64 C.J.window, .int .i64 C.J.fuel, .slice A21 C.J.marks.length c22, .int .i64 C.w, .int .i64 C.t, .int .i64 C.o] 28] [rsl (kHd kPair) (.slice A1 C.J.us.length c2) C.J.us, rsl (kSl kPair) (.slice A1 C.J.us.length c2) ss, rsl kIns (.slice A6 C.J.map.length c7) C.J.map, rsl kIns (.slice A11 C.J.comb.length c12) C.J.comb, rsl kIns (.slice A16 C.J.red.length c17) C.J.red, rsl (kInt .i64) (.slice A21 C.J.marks.length c22) C.J.marks, rsl kA21 (.slice A26 acts.length c27) acts, rsl kA21 (.slice A31 more.length c32) more, gl] := H
  refine c_yes rfl (c_seq (c_reg (sc (awake21_ok) H (lR 8 rfl l0) rfl rfl (e_fn kn47 rfl rfl) ?_)))
  rintro _ _ w ⟨rfl, rfl⟩ H
  refine s_1 rfl (s_nil (q_then (c_ret (q_thenR (q_ret1 rfl rfl ?_)))))
  replace H := H.nil
  exact fin ⟨rfl, rfl⟩ H
 refine s_val rfl rfl (r_ldA (cs := [.slice A1 C.J.us.length c2, .int .i64 C.J.parts, .slice A6 C.J.map.length c7, .slice A11 C.J.comb.length c12, .slice A16 C.J.red.length c17, .int .i64 C.J.chunk, .int .i64 C.J.window, .int .i64 C.J.fuel, .slice A21 C.J.marks.length c22, .int .i64 C.w, .int .i64 C.t, .int .i64 C.o]) rfl ty28 rfl rfl (H.cellsI 0 rfl rfl)) (s_1 rfl ?_)
 replace H : Hd _ _ _ [blk b36 [.slice A1 C.J.us.length c2, .int .i64 C.J.parts, .slice A6 C.J.map.length c7, .slice A11 C.J.comb.length c12, .slice A16 C.J.red.length c17, .int .i64 C.J.chunk, .int .i64 C.J.window, .int .i64 C.J.fuel, .slice A21 C.J.marks.length c22, .int .i64 C.w, .int .i64 C.t, .int .i64 C.o] 28] [rsl (kHd kPair) (.slice A1 C.J.us.length c2) C.J.us, rsl (kSl kPair) (.slice A1 C.J.us.length c2) ss, rsl kIns (.slice A6 C.J.map.length c7) C.J.map, rsl kIns (.slice A11 C.J.comb.length c12) C.J.comb, rsl kIns (.slice A16 C.J.red.length c17) C.J.red, rsl (kInt .i64) (.slice A21 C.J.marks.length c22) C.J.marks, rsl kA21 (.slice A26 acts.length c27) acts, rsl kA21 (.slice A31 more.length c32) more, gl] := H
 refine sc (great21_ok (.slice A1 C.J.us.length c2) (.slice A6 C.J.map.length c7) (.slice A11 C.J.comb.length c12) (.slice A16 C.J.red.length c17) (.slice A21 C.J.marks.length c22) C (.slice none 0 0) [] (.slice A31 more.length c32) more 20) H (lR 0 rfl (lR 2 rfl (lR 3 rfl (lR 4 rfl (lR 5 rfl (lX (fun F _ _ => rsl_nil _ _ F trivial (by decide)) (lR 7 rfl l0))))))) rfl rfl (e_fn kn46 rfl rfl) ?_
 rintro _ _ w ⟨rfl, rfl⟩ H
 refine s_k 2 rfl ?_
 refine s_boo (d := 29) (b := greatA C.J [] more 20) rfl (fun h38 => ?_) (fun h38 => ?_)
 ·refine s_k 4 rfl (s_nil (q_then ?_))
  replace H : Hd _ _ _ [blk b36 [.slice A1 C.J.us.length c2, .int .i64 C.J.parts, .slice A6 C.J.map.length c7, .slice A11 C.J.comb.length c12, .slice A16 C.J.red.length c17, .int .i64 C.J.chunk, .int .i64 C.J.window, .int .i64 C.J.fuel, .slice A21 C.J.marks.length c22, .int .i64 C.w, .int .i64 C.t, .int .i64 C.o] 28] [rsl (kHd kPair) (.slice A1 C.J.us.length c2) C.J.us, rsl (kSl kPair) (.slice A1 C.J.us.length c2) ss, rsl kIns (.slice A6 C.J.map.length c7) C.J.map, rsl kIns (.slice A11 C.J.comb.length c12) C.J.comb, rsl kIns (.slice A16 C.J.red.length c17) C.J.red, rsl (kInt .i64) (.slice A21 C.J.marks.length c22) C.J.marks, rsl kA21 (.slice A26 acts.length c27) acts, rsl kA21 (.slice A31 more.length c32) more, gl] := H
  refine c_yes rfl (c_seq (c_reg (sc (awake21_ok) H (lR 8 rfl l0) rfl rfl (e_fn kn47 rfl rfl) ?_)))
  rintro _ _ w ⟨rfl, rfl⟩ H
  refine s_1 rfl (s_nil (q_then (c_ret (q_thenR (q_ret1 rfl rfl ?_)))))
  replace H := H.nil
  exact fin ⟨rfl, rfl⟩ H
 refine s_val rfl rfl (r_ldA (cs := [.slice A1 C.J.us.length c2, .int .i64 C.J.parts, .slice A6 C.J.map.length c7, .slice A11 C.J.comb.length c12, .slice A16 C.J.red.length c17, .int .i64 C.J.chunk, .int .i64 C.J.window, .int .i64 C.J.fuel, .slice A21 C.J.marks.length c22, .int .i64 C.w, .int .i64 C.t, .int .i64 C.o]) rfl ty28 rfl rfl (H.cellsI 0 rfl rfl)) ?_
 replace H : Hd _ _ _ [blk b36 [.slice A1 C.J.us.length c2, .int .i64 C.J.parts, .slice A6 C.J.map.length c7, .slice A11 C.J.comb.length c12, .slice A16 C.J.red.length c17, .int .i64 C.J.chunk, .int .i64 C.J.window, .int .i64 C.J.fuel, .slice A21 C.J.marks.length c22, .int .i64 C.w, .int .i64 C.t, .int .i64 C.o] 28] [rsl (kHd kPair) (.slice A1 C.J.us.length c2) C.J.us, rsl (kSl kPair) (.slice A1 C.J.us.length c2) ss, rsl kIns (.slice A6 C.J.map.length c7) C.J.map, rsl kIns (.slice A11 C.J.comb.length c12) C.J.comb, rsl kIns (.slice A16 C.J.red.length c17) C.J.red, rsl (kInt .i64) (.slice A21 C.J.marks.length c22) C.J.marks, rsl kA21 (.slice A26 acts.length c27) acts, rsl kA21 (.slice A31 more.length c32) more, gl] := H
 refine sc (mayC_ok (.slice A1 C.J.us.length c2) (.slice A6 C.J.map.length c7) (.slice A11 C.J.comb.length c12) (.slice A16 C.J.red.length c17) (.slice A21 C.J.marks.length c22) C) H (lR 0 rfl (lR 2 rfl (lR 3 rfl (lR 4 rfl (lR 5 rfl l0))))) rfl rfl (e_fn kn19 rfl rfl) ?_
 rintro _ _ w ⟨rfl, rfl⟩ H
 refine s_val rfl rfl (r_notP rfl rfl) (s_1 rfl (s_nil (q_then ?_)))
 refine c_dec rfl (fun h39 => ?_) (fun h39 => ?_)
 ·refine c_seq (c_reg (sc (awake21_ok) H (lR 8 rfl l0) rfl rfl (e_fn kn47 rfl rfl) ?_))
  rintro _ _ w ⟨rfl, rfl⟩ H
  refine s_1 rfl (s_nil (q_then (c_ret (q_thenR (q_ret1 rfl rfl ?_)))))
  replace H := H.nil
  exact fin ⟨rfl, rfl⟩ H
 refine c_skip (q_then (c_seq ?_))
 have hC : mayC C := Classical.not_not.1 h39
 have hJ : OkJ C.J := ⟨hC.1, gm, gc, gr⟩
 have hus := hJ.us
 have hpt := hJ.parts
 have ga := greatA_no h37
 have gb := greatA_no h38
 have hal := ga.1.1
 have hbl := gb.1.1
 refine c_reg (s_val rfl rfl (r_ldA (cs := [.slice A1 C.J.us.length c2, .int .i64 C.J.parts, .slice A6 C.J.map.length c7, .slice A11 C.J.comb.length c12, .slice A16 C.J.red.length c17, .int .i64 C.J.chunk, .int .i64 C.J.window, .int .i64 C.J.fuel, .slice A21 C.J.marks.length c22, .int .i64 C.w, .int .i64 C.t, .int .i64 C.o]) rfl ty28 rfl rfl (H.cellsI 0 rfl rfl)) (s_1 rfl (sc (begun_ok (.slice A1 C.J.us.length c2) (.slice A6 C.J.map.length c7) (.slice A11 C.J.comb.length c12) (.slice A16 C.J.red.length c17) (.slice A21 C.J.marks.length c22) C k0 (by first | assumption | omega | exact OkR.pairs (by assumption) | exact OkR.mono (by assumption) (by omega) | (unfold In64; omega)) (by first | assumption | omega | exact OkR.pairs (by assumption) | exact OkR.mono (by assumption) (by omega) | (unfold In64; omega))) H (lR 0 rfl (lR 2 rfl (lR 3 rfl (lR 4 rfl (lR 5 rfl l0))))) rfl rfl (e_fn kn48 rfl rfl) ?_)))
 rintro _ _ w ⟨r40, lo41, vS42, vM43, vC44, vR45, vK46, J47, sb48, R49, rfl, rfl, hf50, hf51, hf52⟩ H
 have hsj := hf50
 have hR0 := hf51
 have hlo := hf52
 have h6 : J47.us.length ≤ 6 := by have := hC.1.1; have := hsj.len; omega
 have hmk : J47.marks.length ≤ 1000 := by have := hC.1.2.2.1; rw [hsj.marks]; omega
 have hred : ∀ i ∈ J47.red, In64 i.a := by rw [hsj.red]; exact gr
 have hf64 : In64 J47.fuel := by rw [hsj.fuel]; have := hC.1.2.2.2.2.2.2.2.2.2.2; unfold In64; omega
 have hlo1 : In64 lo41 := by unfold In64; omega
 have hp0 : R49.part = lo41 := by rw [hR0]; exact (newR_part _ _ _ _).1
 have hk0 : OkR 0 R49 := by rw [hR0]; exact OkR.new (rs := []) fun r h => by cases h
 refine s_k 5 rfl (s_nil (q_then ?_))
 replace H := H.k1
 replace H : Hd _ _ _ [redI r40 vS42 vM43 vC44 vR45 vK46 J47 C.w C.t C.o sb48 R49] [rsl (kHd kPair) (.slice A1 C.J.us.length c2) C.J.us, rsl (kSl kPair) (.slice A1 C.J.us.length c2) ss, rsl kIns (.slice A6 C.J.map.length c7) C.J.map, rsl kIns (.slice A11 C.J.comb.length c12) C.J.comb, rsl kIns (.slice A16 C.J.red.length c17) C.J.red, rsl (kInt .i64) (.slice A21 C.J.marks.length c22) C.J.marks, rsl kA21 (.slice A26 acts.length c27) acts, rsl kA21 (.slice A31 more.length c32) more, gl] := H
 refine c_seq (c_seq (c_reg (s_1 rfl (s_val rfl rfl (r_peq rfl un75 rfl rfl) (s_nil (q_then (c_no rfl (c_skip (q_then (c_seq (c_seq (c_reg (s_1 rfl (s_nil (q_then (c_block (c_loop (σ := Nat × Red) (fun (k, R) => [(2, .slice A26 acts.length c27), (3, .slice A31 more.length c32), (8, .bool false), (9, .pointer (some ⟨r40, 0, none⟩)), (10, .int .i64 lo41), (11, .int .i64 ((k : Nat) : Int))]) (fun (k, R) w => (Hd w0 F0 w [redI r40 vS42 vM43 vC44 vR45 vK46 J47 C.w C.t C.o sb48 R] [rsl (kHd kPair) (.slice A1 C.J.us.length c2) C.J.us, rsl (kSl kPair) (.slice A1 C.J.us.length c2) ss, rsl kIns (.slice A6 C.J.map.length c7) C.J.map, rsl kIns (.slice A11 C.J.comb.length c12) C.J.comb, rsl kIns (.slice A16 C.J.red.length c17) C.J.red, rsl (kInt .i64) (.slice A21 C.J.marks.length c22) C.J.marks, rsl kA21 (.slice A26 acts.length c27) acts, rsl kA21 (.slice A31 more.length c32) more, gl]) ∧ (k ≤ acts.length) ∧ (OkR k R) ∧ (R.part = lo41)) (fun (k, R) => acts.length - k) (0, R49) ⟨rfl, rfl, rfl, rfl, rfl, rfl, trivial⟩ ⟨H, Nat.zero_le _, hk0, hp0⟩ ?_)))))))))))))))))
 rintro ⟨k, R⟩ w ⟨H, hk, hB, hp⟩
 refine c_seq (c_seq (c_reg (s_k 2 rfl (s_val rfl rfl (r_lenL rfl un73 rfl) (s_val rfl rfl (r_lt rfl rfl rfl) (s_nil (q_then ?_)))))))
 refine c_dec rfl (fun h53 => ?_) (fun h53 => ?_)
 ·refine c_skip (q_then (c_seq (c_block (c_seq (c_reg (s_k 2 rfl ?_))))))
  obtain ⟨⟨⟨a56, ⟨a57, a58, a59, a60, a61, a62, a63, a64⟩, a65⟩, sv66, se67, pv68, pr69⟩, hx55⟩ : ∃ z9, acts[k]? = some z9 := ⟨_, List.getElem?_eq_getElem (show k < acts.length by omega)⟩
  obtain ⟨A70, c71, A72, c73, rfl, rfl, m74, m75, m76, m77⟩ := H.nestRt 6 rfl hx55
  have th78 := H.thRt 6 rfl hx55
  refine s_val rfl rfl (r_iaE (p := oOf A26 + k * 12) rfl sl73 rfl rfl (by omega) (by omega) th78 rfl) (s_val rfl rfl (r_fa rfl fo79_1 rfl) (s_val rfl rfl (r_ldA (cs := [.int .i64 a57, .int .i64 a58, .int .i64 a59, .int .i64 a60, .int .i64 a61, .int .i64 a62, .int .i64 a63, .int .i64 a64, .slice A70 se67.length c71, .slice A72 pr69.length c73]) rfl ty64 rfl rfl (H.elsRt 6 rfl hx55 1 10 rfl rfl)) (s_alloc rfl rfl rfl zr64 H (fun b79 w H => (s_st rfl rfl rfl ty64 rfl rfl H rfl (Nat.le_of_ble_eq_true rfl) (fun u hu => by simp [Value.cells] at hu; rcases hu with rfl | rfl | rfl | rfl | rfl | rfl | rfl | rfl | rfl | rfl <;> rfl) (fun w H => ?_))))))
  replace H : Hd _ _ _ [blk b79 [.int .i64 a57, .int .i64 a58, .int .i64 a59, .int .i64 a60, .int .i64 a61, .int .i64 a62, .int .i64 a63, .int .i64 a64, .slice A70 se67.length c71, .slice A72 pr69.length c73] 64, redI r40 vS42 vM43 vC44 vR45 vK46 J47 C.w C.t C.o sb48 R] [rsl (kHd kPair) (.slice A1 C.J.us.length c2) C.J.us, rsl (kSl kPair) (.slice A1 C.J.us.length c2) ss, rsl kIns (.slice A6 C.J.map.length c7) C.J.map, rsl kIns (.slice A11 C.J.comb.length c12) C.J.comb, rsl kIns (.slice A16 C.J.red.length c17) C.J.red, rsl (kInt .i64) (.slice A21 C.J.marks.length c22) C.J.marks, rsl kA21 (.slice A26 acts.length c27) acts, rsl kA21 (.slice A31 more.length c32) more, gl] := H
  refine s_nil (q_then (c_seq (c_reg (s_1 rfl (s_val rfl rfl (r_fa rfl fo64_3 rfl) (s_st rfl rfl rfl ty3 rfl rfl H rfl (Nat.le_of_ble_eq_true rfl) (fun u hu => by simp [Value.cells] at hu; subst hu; rfl) (fun w H => ?_)))))))
  replace H := H.h1 (A := blk b79 [.int .i64 a57, .int .i64 a58, .int .i64 a59, .int .i64 lo41, .int .i64 a61, .int .i64 a62, .int .i64 a63, .int .i64 a64, .slice A70 se67.length c71, .slice A72 pr69.length c73] 64)
  refine s_nil (q_then (c_seq (c_reg (s_k 2 rfl ?_))))
  have th80 := H.thRt 6 rfl hx55
  refine s_val rfl rfl (r_iaE (p := oOf A26 + k * 12) rfl sl73 rfl rfl (by omega) (by omega) th80 rfl) (s_val rfl rfl (r_fa rfl fo79_0 rfl) (s_val rfl rfl (r_ld rfl ty4 rfl (H.elRt 6 rfl hx55 (q := 0) rfl rfl)) (s_nil (q_then ?_))))
  refine c_cond (b := a56) rfl (fun h81 => ?_) (fun h81 => ?_)
  ·refine c_ord (.e 0 (.e 1 (.e 2 (.e 3 (.e 4 (.e 5 (.e 6 (.e 7 (.e 8 (.e 9 (.m 10 .z))))))))))) (fun w => ∃ Ar, Hd w0 F0 w (blk b79 [.int .i64 a57, .int .i64 a58, .int .i64 a59, .int .i64 lo41, .int .i64 a61, .int .i64 a62, .int .i64 a63, .int .i64 a64, .slice A70 se67.length c71, .slice A72 pr69.length c73] 64 :: Ar) [rsl (kHd kPair) (.slice A1 C.J.us.length c2) C.J.us, rsl (kSl kPair) (.slice A1 C.J.us.length c2) ss, rsl kIns (.slice A6 C.J.map.length c7) C.J.map, rsl kIns (.slice A11 C.J.comb.length c12) C.J.comb, rsl kIns (.slice A16 C.J.red.length c17) C.J.red, rsl (kInt .i64) (.slice A21 C.J.marks.length c22) C.J.marks, rsl kA21 (.slice A26 acts.length c27) acts, rsl kA21 (.slice A31 more.length c32) more, gl]) mo (by kernel_rfl) (fun w H => ⟨_, H⟩) H (fun w H => (d_1 rfl (d_val rfl rfl rfl (fun w ⟨Ar, H⟩ => r_fa rfl fo64_1 rfl) (d_val rfl rfl rfl (fun w ⟨Ar, H⟩ => r_ld rfl ty3 rfl (H.cellI 0 rfl rfl)) ?_))))
   refine d_val rfl rfl rfl (fun w ⟨Ar, H⟩ => r_fa rfl fo64_2 rfl) (d_val rfl rfl rfl (fun w ⟨Ar, H⟩ => r_ld rfl ty3 rfl (H.cellI 0 rfl rfl)) (d_1 rfl (d_1 rfl ?_)))
   have th82 := H.thRt 6 rfl hx55
   refine d_val rfl rfl rfl (fun w ⟨Ar, H⟩ => r_iaE (p := oOf A26 + k * 12) rfl sl73 rfl rfl (by omega) (by omega) th82 rfl) (d_val rfl rfl rfl (fun w ⟨Ar, H⟩ => r_fa rfl fo79_2 rfl) (d_val rfl rfl rfl (fun w ⟨Ar, H⟩ => r_ld rfl ty3 rfl (H.elRt 6 rfl hx55 (q := 11) rfl rfl)) (d_main rfl ?_)))
   replace H := H.p1
   refine sc (rwon_ok r40 vS42 vM43 vC44 vR45 vK46 J47 C.w C.t C.o sb48 R a58 a59 a65 (by first | assumption | omega | exact OkR.pairs (by assumption) | exact OkR.mono (by assumption) (by omega) | (unfold In64; omega)) (by first | assumption | omega | exact OkR.pairs (by assumption) | exact OkR.mono (by assumption) (by omega) | (unfold In64; omega)) (by first | assumption | omega | exact OkR.pairs (by assumption) | exact OkR.mono (by assumption) (by omega) | (unfold In64; omega))) H l0 rfl rfl (e_fn kn49 rfl rfl) ?_
   rintro v85 _ w ⟨rs83, rfl, hf84⟩ H
   replace H := H.h2 (A := osl kRec v85 rs83) (B := redI r40 vS42 vM43 vC44 vR45 vK46 J47 C.w C.t C.o sb48 ((wonR J47 C.t R a58 a59 a65).1)) |>.p2
   refine d_back ⟨_, H⟩ (d_nil (q_blockN (q_then ?_)))
   replace H := H.p2.k1
   exact c_reg (s_1 rfl (s_val rfl rfl (r_add (z := ((k + 1 : Nat) : Int)) rfl rfl rfl (by rw [w64 (by omega) (by omega)]; omega)) (s_1 rfl (s_nil (q_round (s := (k, R)) (k + 1, (wonR J47 C.t R a58 a59 a65).1) ⟨rfl, rfl, rfl, rfl, rfl, rfl, trivial⟩ ⟨H, by (try dsimp only); omega, hB.won h6 _ _ _, (won_part _ _ _ _ _ _).1.trans hp⟩ (by (try dsimp only); omega))))))
  refine c_reg (s_1 rfl (s_val rfl rfl (r_ldA (cs := [.int .i64 a57, .int .i64 a58, .int .i64 a59, .int .i64 lo41, .int .i64 a61, .int .i64 a62, .int .i64 a63, .int .i64 a64, .slice A70 se67.length c71, .slice A72 pr69.length c73]) rfl ty64 rfl rfl (H.cellsI 0 rfl rfl)) ?_))
  replace H := H.p1
  refine sc (rpush_ok r40 vS42 vM43 vC44 vR45 vK46 J47 C.w C.t C.o sb48 R (⟨a57, a58, a59, lo41, a61, a62, a63, a64, se67, pr69⟩ : Msg) (.slice A70 se67.length c71) (.slice A72 pr69.length c73) (by first | assumption | omega | exact OkR.pairs (by assumption) | exact OkR.mono (by assumption) (by omega) | (unfold In64; omega)) (by first | assumption | omega | exact OkR.pairs (by assumption) | exact OkR.mono (by assumption) (by omega) | (unfold In64; omega)) (by first | assumption | omega | exact OkR.pairs (by assumption) | exact OkR.mono (by assumption) (by omega) | (unfold In64; omega))) H (lX (fun F hA hR => tw_set (hR _ (List.mem_of_getElem? (i := 6) rfl)) hx55) (lX (fun F hA hR => tw_pairs (hR _ (List.mem_of_getElem? (i := 6) rfl)) hx55) l0)) rfl rfl (e_fn kn50 rfl rfl) ?_
  rintro _ _ w ⟨u86, rs87, rfl, rfl, hf88⟩ H
  replace H := H.h2 (A := osl kRec u86 rs87) (B := redI r40 vS42 vM43 vC44 vR45 vK46 J47 C.w C.t C.o sb48 ((pushR J47 R (⟨a57, a58, a59, lo41, a61, a62, a63, a64, se67, pr69⟩ : Msg)).1))
  refine s_nil (q_blockN (q_then ?_))
  replace H := H.p1.k1
  exact c_reg (s_1 rfl (s_val rfl rfl (r_add (z := ((k + 1 : Nat) : Int)) rfl rfl rfl (by rw [w64 (by omega) (by omega)]; omega)) (s_1 rfl (s_nil (q_round (s := (k, R)) (k + 1, (pushR J47 R (⟨a57, a58, a59, lo41, a61, a62, a63, a64, se67, pr69⟩ : Msg)).1) ⟨rfl, rfl, rfl, rfl, rfl, rfl, trivial⟩ ⟨H, by (try dsimp only); omega, hB.push h6 _, (push_part _ _ _).1.trans hp⟩ (by (try dsimp only); omega))))))
 refine c_exit (q_thenE (q_thenE (q_blockE (q_then (c_seq (c_reg (s_1 rfl ?_)))))))
 obtain ⟨hv89, vs90, us91, hsets92, H⟩ := redI_open r40 vS42 vM43 vC44 vR45 vK46 J47 C.w C.t C.o sb48 R H
 replace H := H.h9 (A := blk r40 (redC vS42 vM43 vC44 vR45 vK46 J47 C.w C.t C.o R.part R.ep R.g hv89 sb48 vs90) 185) (B := osl (kHd kPair) vS42 J47.us) (C := osl kIns vM43 J47.map) (D := osl kIns vC44 J47.comb) (E := osl kIns vR45 J47.red) (F := osl (kInt .i64) vK46 J47.marks) (G := prsS (R.g) hv89) (I := osl (kHd (kInt .i64)) vs90 us91) (J := stgI 253 sb48 (R.st))
 obtain ⟨A93, c94, rfl, hc95, hm96, hp97⟩ := H.fA 1 rfl
 refine sc (merged_ok r40 A93 c94 vM43 vC44 vR45 vK46 J47 C.w C.t C.o R.part R.ep R hv89 sb48 vs90 (by first | assumption | omega | exact OkR.pairs (by assumption) | exact OkR.mono (by assumption) (by omega) | (unfold In64; omega))) H (lA 0 rfl (fun _ h => h) l0) rfl rfl (e_fn kn51 rfl rfl) ?_
 rintro v98 _ w rfl H
 replace H := H.h1 (A := osl (kInt .i64) v98 (mergedL J47.us.length R)) |>.p9 |>.p9 |>.p9 |>.p9 |>.p9 |>.p9 |>.p9 |>.p9 |>.p9
 replace H := redI_shut r40 (.slice A93 J47.us.length c94) vM43 vC44 vR45 vK46 J47 C.w C.t C.o sb48 R hv89 vs90 us91 hsets92 H
 replace H := H.h1 (A := redI r40 (.slice A93 J47.us.length c94) vM43 vC44 vR45 vK46 J47 C.w C.t C.o sb48 R)
 refine s_1 rfl (s_nil (q_then (c_seq (c_reg (s_alloc rfl rfl rfl zr83 H (fun b99 w H => ?_))))))
 replace H := H.h1 (A := blk b99 [.slice none 0 0, .slice none 0 0, .slice none 0 0, .slice none 0 0, .slice none 0 0, .slice none 0 0] 83)
 refine s_nil (q_then (c_seq (c_seq (c_reg (s_1 rfl (s_nil (q_then (c_block ?_))))))))
 obtain ⟨A100, c101, rfl, hc102, hm103, hp104⟩ := H.fA 2 rfl
 have hml := merged_len J47.us.length R
 replace H := H.prsN
 replace H : Hd _ _ _ [prsS (fun _ => spD0) (fun _ => .slice none 0 0), blk b99 [.slice none 0 0, .slice none 0 0, .slice none 0 0, .slice none 0 0, .slice none 0 0, .slice none 0 0] 83, redI r40 (.slice A93 J47.us.length c94) vM43 vC44 vR45 vK46 J47 C.w C.t C.o sb48 R, osl (kInt .i64) (.slice A100 ((mergedL J47.us.length R).length) c101) (mergedL J47.us.length R)] [rsl (kHd kPair) (.slice A1 C.J.us.length c2) C.J.us, rsl (kSl kPair) (.slice A1 C.J.us.length c2) ss, rsl kIns (.slice A6 C.J.map.length c7) C.J.map, rsl kIns (.slice A11 C.J.comb.length c12) C.J.comb, rsl kIns (.slice A16 C.J.red.length c17) C.J.red, rsl (kInt .i64) (.slice A21 C.J.marks.length c22) C.J.marks, rsl kA21 (.slice A26 acts.length c27) acts, rsl kA21 (.slice A31 more.length c32) more, gl] := H
 replace H := H.p1.p3.p3.h3 (C := blk b99 (arr6 (fun _ => .slice none 0 0)) 83)
 refine c_loop (σ := Nat × (Nat → SpD) × (Nat → Value)) (fun (i, gg, hq) => [(3, .slice A31 more.length c32), (8, .bool false), (9, .pointer (some ⟨r40, 0, none⟩)), (10, .int .i64 lo41), (13, .slice A100 ((mergedL J47.us.length R).length) c101), (14, .pointer (some ⟨b99, 0, none⟩)), (15, .int .i64 ((i : Nat) : Int))]) (fun (i, gg, hq) w => (Hd w0 F0 w [redI r40 (.slice A93 J47.us.length c94) vM43 vC44 vR45 vK46 J47 C.w C.t C.o sb48 R, osl (kInt .i64) (.slice A100 ((mergedL J47.us.length R).length) c101) (mergedL J47.us.length R), blk b99 (arr6 hq) 83, prsS (gg) hq] [rsl (kHd kPair) (.slice A1 C.J.us.length c2) C.J.us, rsl (kSl kPair) (.slice A1 C.J.us.length c2) ss, rsl kIns (.slice A6 C.J.map.length c7) C.J.map, rsl kIns (.slice A11 C.J.comb.length c12) C.J.comb, rsl kIns (.slice A16 C.J.red.length c17) C.J.red, rsl (kInt .i64) (.slice A21 C.J.marks.length c22) C.J.marks, rsl kA21 (.slice A26 acts.length c27) acts, rsl kA21 (.slice A31 more.length c32) more, gl]) ∧ (i ≤ (mergedL J47.us.length R).length) ∧ (keptG J47.us.length R gg i)) (fun (i, gg, hq) => (mergedL J47.us.length R).length - i) (0, (fun _ => spD0), (fun _ => .slice none 0 0)) ⟨rfl, rfl, rfl, rfl, rfl, rfl, rfl, trivial⟩ ⟨H, Nat.zero_le _, keep_0 _ _⟩ ?_
 rintro ⟨i, gg, hq⟩ w ⟨H, hi, hg⟩
 refine c_seq (c_seq (c_reg (s_k 2 rfl (s_val rfl rfl (r_lenL rfl un24 rfl) (s_val rfl rfl (r_lt rfl rfl rfl) (s_nil (q_then ?_)))))))
 refine c_dec rfl (fun h105 => ?_) (fun h105 => ?_)
 ·refine c_skip (q_then (c_seq (c_block ?_)))
  obtain ⟨x106, hx107⟩ : ∃ z9, (mergedL J47.us.length R)[i]? = some z9 := ⟨_, List.getElem?_eq_getElem (show i < (mergedL J47.us.length R).length by omega)⟩
  have hmi := merged_in hx107
  replace H := H.p3.p2.p2.h4 (C := prsS (gg) hq) (D := blk b99 (arr6 hq) 83)
  refine c_ord (.e 0 (.e 1 (.e 2 (.e 3 (.e 4 (.e 5 (.e 6 (.e 7 (.e 8 (.m 9 (.e 10 (.m 11 .z)))))))))))) (fun w => ∃ Ar, Hd w0 F0 w (redI r40 (.slice A93 J47.us.length c94) vM43 vC44 vR45 vK46 J47 C.w C.t C.o sb48 R :: osl (kInt .i64) (.slice A100 ((mergedL J47.us.length R).length) c101) (mergedL J47.us.length R) :: prsS (gg) hq :: Ar) [rsl (kHd kPair) (.slice A1 C.J.us.length c2) C.J.us, rsl (kSl kPair) (.slice A1 C.J.us.length c2) ss, rsl kIns (.slice A6 C.J.map.length c7) C.J.map, rsl kIns (.slice A11 C.J.comb.length c12) C.J.comb, rsl kIns (.slice A16 C.J.red.length c17) C.J.red, rsl (kInt .i64) (.slice A21 C.J.marks.length c22) C.J.marks, rsl kA21 (.slice A26 acts.length c27) acts, rsl kA21 (.slice A31 more.length c32) more, gl]) mo (by kernel_rfl) (fun w H => ⟨_, H⟩) H (fun w H => (d_1 rfl (d_1 rfl ?_)))
  have th108 := H.thA 1 rfl hx107
  refine d_val rfl rfl rfl (fun w ⟨Ar, H⟩ => r_iaE (p := oOf A100 + i * 1) rfl sl24 rfl rfl (by omega) (by omega) th108 rfl) (d_val rfl rfl rfl (fun w ⟨Ar, H⟩ => r_ld rfl ty3 rfl (H.elA 1 rfl hx107 (q := 0) rfl rfl)) (d_1 rfl (d_1 rfl (d_1 rfl ?_))))
  have th109 := H.thA 1 rfl hx107
  refine d_val rfl rfl rfl (fun w ⟨Ar, H⟩ => r_iaE (p := oOf A100 + i * 1) rfl sl24 rfl rfl (by omega) (by omega) th109 rfl) (d_val rfl rfl rfl (fun w ⟨Ar, H⟩ => r_ld rfl ty3 rfl (H.elA 1 rfl hx107 (q := 0) rfl rfl)) (d_main rfl ?_))
  obtain ⟨hv110, vs111, us112, hsets113, H⟩ := redI_open r40 (.slice A93 J47.us.length c94) vM43 vC44 vR45 vK46 J47 C.w C.t C.o sb48 R H
  replace H := H.h9 (A := blk r40 (redC (.slice A93 J47.us.length c94) vM43 vC44 vR45 vK46 J47 C.w C.t C.o R.part R.ep R.g hv110 sb48 vs111) 185) (B := osl (kHd kPair) (.slice A93 J47.us.length c94) J47.us) (C := osl kIns vM43 J47.map) (D := osl kIns vC44 J47.comb) (E := osl kIns vR45 J47.red) (F := osl (kInt .i64) vK46 J47.marks) (G := prsS (R.g) hv110) (I := osl (kHd (kInt .i64)) vs111 us112) (J := stgI 253 sb48 (R.st))
  refine sc (rpairs_ok r40 A93 c94 vM43 vC44 vR45 vK46 J47 C.w C.t C.o R.part R.ep R hv110 sb48 vs111 x106 (by first | assumption | omega | exact OkR.pairs (by assumption) | exact OkR.mono (by assumption) (by omega) | (unfold In64; omega)) (by first | assumption | omega | exact OkR.pairs (by assumption) | exact OkR.mono (by assumption) (by omega) | (unfold In64; omega))) H (lA 0 rfl (fun _ h => h) (lA 6 rfl (fun _ h => h) l0)) rfl rfl (e_fn kn52 rfl rfl) ?_
  rintro v114 _ w rfl H
  replace H := H.h1 (A := osl kPair v114 (pairsR J47.us.length R x106)) |>.p9 |>.p9 |>.p9 |>.p9 |>.p9 |>.p9 |>.p9 |>.p9 |>.p9
  replace H := redI_shut r40 (.slice A93 J47.us.length c94) vM43 vC44 vR45 vK46 J47 C.w C.t C.o sb48 R hv110 vs111 us112 hsets113 H
  replace H := H.h1 (A := redI r40 (.slice A93 J47.us.length c94) vM43 vC44 vR45 vK46 J47 C.w C.t C.o sb48 R) |>.p3 |>.p3 |>.p2
  refine d_back ⟨_, H⟩ (d_val rfl rfl rfl (fun w ⟨Ar, H⟩ => r_iaB (p := 0 + (x106).toNat * 1) rfl un83 is35 rfl rfl (by omega) (by omega) (by omega)) (d_main rfl ?_))
  obtain ⟨A115, c116, rfl, hc117, hm118, hp119⟩ := H.fA 3 rfl
  replace H := H.p4
  refine s_st rfl rfl rfl ty35 rfl rfl H rfl (by show 0 + ((x106).toNat) * 1 + 1 ≤ 6; omega) (fun u hu => by simp [Value.cells] at hu; subst hu; rfl) (fun w H => ?_)
  replace H : Hd w0 F0 w [blk b99 (arr6 (setD hq ((x106).toNat) (.slice A115 ((pairsR J47.us.length R x106).length) c116 : Value))) 83, redI r40 (.slice A93 J47.us.length c94) vM43 vC44 vR45 vK46 J47 C.w C.t C.o sb48 R, osl (kInt .i64) (.slice A100 ((mergedL J47.us.length R).length) c101) (mergedL J47.us.length R), prsS (gg) hq, osl kPair (.slice A115 ((pairsR J47.us.length R x106).length) c116) (pairsR J47.us.length R x106)] [rsl (kHd kPair) (.slice A1 C.J.us.length c2) C.J.us, rsl (kSl kPair) (.slice A1 C.J.us.length c2) ss, rsl kIns (.slice A6 C.J.map.length c7) C.J.map, rsl kIns (.slice A11 C.J.comb.length c12) C.J.comb, rsl kIns (.slice A16 C.J.red.length c17) C.J.red, rsl (kInt .i64) (.slice A21 C.J.marks.length c22) C.J.marks, rsl kA21 (.slice A26 acts.length c27) acts, rsl kA21 (.slice A31 more.length c32) more, gl] := by rw [← arr6_put1 (show (x106).toNat < 6 by omega) (.slice A115 ((pairsR J47.us.length R x106).length) c116)]; exact H
  replace H := H.p3.p3.p3
  refine d_back ⟨_, H⟩ (d_nil (q_blockN (q_then (c_reg (s_1 rfl (s_val rfl rfl (r_add (z := ((i + 1 : Nat) : Int)) rfl rfl rfl (by rw [w64 (by omega) (by omega)]; omega)) (s_1 rfl (s_nil ?_))))))))
  replace H := H.p2.p4.prsU (g := gg) (hv := hq) (i := (x106).toNat) (x := ({ spD0 with pairs := pairsR J47.us.length R x106 } : SpD)) (by omega) |>.h1 (A := prsS (setD gg (x106).toNat ({ spD0 with pairs := pairsR J47.us.length R x106 } : SpD)) (setD hq (x106).toNat (.slice A115 ((pairsR J47.us.length R x106).length) c116 : Value))) |>.p3 |>.p3 |>.p3
  exact q_round (s := (i, gg, hq)) (i + 1, setD gg (x106).toNat ({ spD0 with pairs := pairsR J47.us.length R x106 } : SpD), setD hq (x106).toNat (.slice A115 ((pairsR J47.us.length R x106).length) c116 : Value)) ⟨rfl, rfl, rfl, rfl, rfl, rfl, rfl, trivial⟩ ⟨H, by (try dsimp only); omega, keep_step hg hx107⟩ (by (try dsimp only); omega)
 refine c_exit (q_thenE (q_thenE (q_blockE (q_then (c_seq (c_seq (c_reg (s_1 rfl (s_nil (q_then (c_block (c_loop (σ := Nat) (fun j => [(3, .slice A31 more.length c32), (9, .pointer (some ⟨r40, 0, none⟩)), (10, .int .i64 lo41), (13, .slice A100 ((mergedL J47.us.length R).length) c101), (14, .pointer (some ⟨b99, 0, none⟩)), (16, .int .i64 ((j : Nat) : Int))]) (fun j w => (Hd w0 F0 w [redI r40 (.slice A93 J47.us.length c94) vM43 vC44 vR45 vK46 J47 C.w C.t C.o sb48 R, osl (kInt .i64) (.slice A100 ((mergedL J47.us.length R).length) c101) (mergedL J47.us.length R), blk b99 (arr6 hq) 83, prsS (gg) hq] [rsl (kHd kPair) (.slice A1 C.J.us.length c2) C.J.us, rsl (kSl kPair) (.slice A1 C.J.us.length c2) ss, rsl kIns (.slice A6 C.J.map.length c7) C.J.map, rsl kIns (.slice A11 C.J.comb.length c12) C.J.comb, rsl kIns (.slice A16 C.J.red.length c17) C.J.red, rsl (kInt .i64) (.slice A21 C.J.marks.length c22) C.J.marks, rsl kA21 (.slice A26 acts.length c27) acts, rsl kA21 (.slice A31 more.length c32) more, gl]) ∧ (j ≤ more.length)) (fun j => more.length - j) 0 ⟨rfl, rfl, rfl, rfl, rfl, rfl, trivial⟩ ⟨H, Nat.zero_le _⟩ ?_))))))))))))
 rintro j w ⟨H, hj⟩
 refine c_seq (c_seq (c_reg (s_k 2 rfl (s_val rfl rfl (r_lenL rfl un73 rfl) (s_val rfl rfl (r_lt rfl rfl rfl) (s_1 rfl ?_))))))
 refine s_dec (d := 98) rfl (fun h120 => ?_) (fun h120 => ?_)
 ·refine s_1 rfl (s_val rfl rfl (r_lenL rfl un24 rfl) (s_val rfl rfl (r_gt rfl rfl rfl) (s_1 rfl (s_nil (q_then ?_)))))
  refine c_dec rfl (fun h121 => ?_) (fun h121 => ?_)
  ·refine c_skip (q_then (c_seq (c_block (c_seq (c_reg (s_k 2 rfl ?_))))))
   obtain ⟨⟨⟨a124, ⟨a125, a126, a127, a128, a129, a130, a131, a132⟩, a133⟩, sv134, se135, pv136, pr137⟩, hx123⟩ : ∃ z9, more[j]? = some z9 := ⟨_, List.getElem?_eq_getElem (show j < more.length by omega)⟩
   obtain ⟨A138, c139, A140, c141, rfl, rfl, m142, m143, m144, m145⟩ := H.nestRt 7 rfl hx123
   have th146 := H.thRt 7 rfl hx123
   refine s_val rfl rfl (r_iaE (p := oOf A31 + j * 12) rfl sl73 rfl rfl (by omega) (by omega) th146 rfl) (s_val rfl rfl (r_fa rfl fo79_1 rfl) (s_val rfl rfl (r_ldA (cs := [.int .i64 a125, .int .i64 a126, .int .i64 a127, .int .i64 a128, .int .i64 a129, .int .i64 a130, .int .i64 a131, .int .i64 a132, .slice A138 se135.length c139, .slice A140 pr137.length c141]) rfl ty64 rfl rfl (H.elsRt 7 rfl hx123 1 10 rfl rfl)) (s_alloc rfl rfl rfl zr64 H (fun b147 w H => (s_st rfl rfl rfl ty64 rfl rfl H rfl (Nat.le_of_ble_eq_true rfl) (fun u hu => by simp [Value.cells] at hu; rcases hu with rfl | rfl | rfl | rfl | rfl | rfl | rfl | rfl | rfl | rfl <;> rfl) (fun w H => ?_))))))
   replace H : Hd _ _ _ [blk b147 [.int .i64 a125, .int .i64 a126, .int .i64 a127, .int .i64 a128, .int .i64 a129, .int .i64 a130, .int .i64 a131, .int .i64 a132, .slice A138 se135.length c139, .slice A140 pr137.length c141] 64, redI r40 (.slice A93 J47.us.length c94) vM43 vC44 vR45 vK46 J47 C.w C.t C.o sb48 R, osl (kInt .i64) (.slice A100 ((mergedL J47.us.length R).length) c101) (mergedL J47.us.length R), blk b99 (arr6 hq) 83, prsS (gg) hq] [rsl (kHd kPair) (.slice A1 C.J.us.length c2) C.J.us, rsl (kSl kPair) (.slice A1 C.J.us.length c2) ss, rsl kIns (.slice A6 C.J.map.length c7) C.J.map, rsl kIns (.slice A11 C.J.comb.length c12) C.J.comb, rsl kIns (.slice A16 C.J.red.length c17) C.J.red, rsl (kInt .i64) (.slice A21 C.J.marks.length c22) C.J.marks, rsl kA21 (.slice A26 acts.length c27) acts, rsl kA21 (.slice A31 more.length c32) more, gl] := H
   refine s_nil (q_then (c_seq ?_))
   have hi64 := (wmore.1 _ (at_mem hx123)).1.1.2.1
   dsimp only at hi64
   replace H := H.p4.p4.p4.p4
   refine c_ord (.e 0 (.e 1 (.e 2 (.e 4 (.e 5 (.m 3 (.e 9 (.m 6 (.e 7 (.e 8 (.m 10 (.e 11 (.m 12 (.e 13 (.m 14 .z))))))))))))))) (fun w => ∃ Ar, Hd w0 F0 w (redI r40 (.slice A93 J47.us.length c94) vM43 vC44 vR45 vK46 J47 C.w C.t C.o sb48 R :: osl (kInt .i64) (.slice A100 ((mergedL J47.us.length R).length) c101) (mergedL J47.us.length R) :: blk b99 (arr6 hq) 83 :: prsS (gg) hq :: Ar) [rsl (kHd kPair) (.slice A1 C.J.us.length c2) C.J.us, rsl (kSl kPair) (.slice A1 C.J.us.length c2) ss, rsl kIns (.slice A6 C.J.map.length c7) C.J.map, rsl kIns (.slice A11 C.J.comb.length c12) C.J.comb, rsl kIns (.slice A16 C.J.red.length c17) C.J.red, rsl (kInt .i64) (.slice A21 C.J.marks.length c22) C.J.marks, rsl kA21 (.slice A26 acts.length c27) acts, rsl kA21 (.slice A31 more.length c32) more, gl]) mo (by kernel_rfl) (fun w H => ⟨_, H⟩) H (fun w H => (d_1 rfl (d_1 rfl (d_val rfl rfl rfl (fun w ⟨Ar, H⟩ => r_fa rfl fo64_1 rfl) ?_))))
   refine d_1 rfl (d_val rfl rfl rfl (fun w ⟨Ar, H⟩ => r_lenL rfl un24 rfl) (d_main rfl (s_val rfl rfl (r_ld rfl ty3 rfl (H.cellI 4 rfl rfl)) (d_back ⟨_, H⟩ (d_val rfl rfl rfl (fun w ⟨Ar, H⟩ => r_fa rfl fo64_0 rfl) (d_main rfl (sc (low_ok a126 (((mergedL J47.us.length R).length : Nat) : Int) (by first | assumption | (unfold In64; omega)) (by omega) (by omega)) H l0 rfl rfl (e_fn kn22 rfl rfl) ?_)))))))
   rintro _ _ w ⟨rfl, rfl⟩ H
   obtain ⟨lo148, hl149, hl150, hl151⟩ : ∃ z : Int, IntKind.u64.wrap a126 % (((mergedL J47.us.length R).length : Nat) : Int) = z ∧ 0 ≤ z ∧ z < (((mergedL J47.us.length R).length : Nat) : Int) := ⟨_, rfl, Int.emod_nonneg _ (by omega), Int.emod_lt_of_pos _ (by omega)⟩
   rw [hl149]
   refine d_back ⟨_, H⟩ ?_
   obtain ⟨x152, hx153⟩ : ∃ z9, (mergedL J47.us.length R)[(lo148).toNat]? = some z9 := ⟨_, List.getElem?_eq_getElem (show (lo148).toNat < (mergedL J47.us.length R).length by omega)⟩
   have th154 := H.thA 1 rfl hx153
   refine d_val rfl rfl rfl (fun w ⟨Ar, H⟩ => r_iaE (p := oOf A100 + ((lo148).toNat) * 1) rfl sl24 rfl rfl (by omega) (by omega) th154 (by omega)) (d_val rfl rfl rfl (fun w ⟨Ar, H⟩ => r_ld rfl ty3 rfl (H.elA 1 rfl hx153 (q := 0) rfl rfl)) (d_main rfl ?_))
   replace H := H.p4
   refine s_st rfl rfl rfl ty3 rfl rfl H rfl (Nat.le_of_ble_eq_true rfl) (fun u hu => by simp [Value.cells] at hu; subst hu; rfl) (fun w H => ?_)
   replace H : Hd _ _ _ [blk b147 [.int .i64 2, .int .i64 a126, .int .i64 a127, .int .i64 a128, .int .i64 a129, .int .i64 a130, .int .i64 a131, .int .i64 a132, .slice A138 se135.length c139, .slice A140 pr137.length c141] 64, redI r40 (.slice A93 J47.us.length c94) vM43 vC44 vR45 vK46 J47 C.w C.t C.o sb48 R, osl (kInt .i64) (.slice A100 ((mergedL J47.us.length R).length) c101) (mergedL J47.us.length R), blk b99 (arr6 hq) 83, prsS (gg) hq] [rsl (kHd kPair) (.slice A1 C.J.us.length c2) C.J.us, rsl (kSl kPair) (.slice A1 C.J.us.length c2) ss, rsl kIns (.slice A6 C.J.map.length c7) C.J.map, rsl kIns (.slice A11 C.J.comb.length c12) C.J.comb, rsl kIns (.slice A16 C.J.red.length c17) C.J.red, rsl (kInt .i64) (.slice A21 C.J.marks.length c22) C.J.marks, rsl kA21 (.slice A26 acts.length c27) acts, rsl kA21 (.slice A31 more.length c32) more, gl] := H
   replace H := H.p4.p4.p4.p4
   refine d_back ⟨_, H⟩ (d_val rfl rfl rfl (fun w ⟨Ar, H⟩ => r_fa rfl fo64_3 rfl) (d_main rfl ?_))
   replace H := H.p4
   refine s_st rfl rfl rfl ty3 rfl rfl H rfl (Nat.le_of_ble_eq_true rfl) (fun u hu => by simp [Value.cells] at hu; subst hu; rfl) (fun w H => ?_)
   replace H := H.h1 (A := blk b147 [.int .i64 2, .int .i64 a126, .int .i64 a127, .int .i64 lo41, .int .i64 a129, .int .i64 a130, .int .i64 a131, .int .i64 a132, .slice A138 se135.length c139, .slice A140 pr137.length c141] 64) |>.p4 |>.p4 |>.p4 |>.p4
   refine d_back ⟨_, H⟩ (d_val rfl rfl rfl (fun w ⟨Ar, H⟩ => r_fa rfl fo64_1 rfl) (d_main rfl ?_))
   replace H := H.p4
   refine s_st rfl rfl rfl ty3 rfl rfl H rfl (Nat.le_of_ble_eq_true rfl) (fun u hu => by simp [Value.cells] at hu; subst hu; rfl) (fun w H => ?_)
   replace H := H.h1 (A := blk b147 [.int .i64 2, .int .i64 x152, .int .i64 a127, .int .i64 lo41, .int .i64 a129, .int .i64 a130, .int .i64 a131, .int .i64 a132, .slice A138 se135.length c139, .slice A140 pr137.length c141] 64) |>.p4 |>.p4 |>.p4 |>.p4
   refine d_back ⟨_, H⟩ (d_nil (q_then (c_seq ?_)))
   have hmi := merged_in hx153
   refine c_reg (s_1 rfl (s_val rfl rfl (r_ldA (cs := [.int .i64 2, .int .i64 x152, .int .i64 a127, .int .i64 lo41, .int .i64 a129, .int .i64 a130, .int .i64 a131, .int .i64 a132, .slice A138 se135.length c139, .slice A140 pr137.length c141]) rfl ty64 rfl rfl (H.cellsI 4 rfl rfl)) (sc (rpush_ok r40 (.slice A93 J47.us.length c94) vM43 vC44 vR45 vK46 J47 C.w C.t C.o sb48 R (⟨2, x152, a127, lo41, a129, a130, a131, a132, se135, pr137⟩ : Msg) (.slice A138 se135.length c139) (.slice A140 pr137.length c141) (by first | assumption | omega | exact OkR.pairs (by assumption) | exact OkR.mono (by assumption) (by omega) | (unfold In64; omega)) (by first | assumption | omega | exact OkR.pairs (by assumption) | exact OkR.mono (by assumption) (by omega) | (unfold In64; omega)) (by first | assumption | omega | exact OkR.pairs (by assumption) | exact OkR.mono (by assumption) (by omega) | (unfold In64; omega))) H (lX (fun F hA hR => tw_set (hR _ (List.mem_of_getElem? (i := 7) rfl)) hx123) (lX (fun F hA hR => tw_pairs (hR _ (List.mem_of_getElem? (i := 7) rfl)) hx123) l0)) rfl rfl (e_fn kn50 rfl rfl) ?_)))
   rintro _ _ w ⟨u155, rs156, rfl, rfl, hf157⟩ H
   replace H := H.h2 (A := osl kRec u155 rs156) (B := redI r40 (.slice A93 J47.us.length c94) vM43 vC44 vR45 vK46 J47 C.w C.t C.o sb48 ((pushR J47 R (⟨2, x152, a127, lo41, a129, a130, a131, a132, se135, pr137⟩ : Msg)).1))
   have hpm := push_merged (J := J47) (R := R) (m := (⟨2, x152, a127, lo41, a129, a130, a131, a132, se135, pr137⟩ : Msg)) (fun h => by rcases h with h | h | h; exact h hmi.1; exact h rfl; exact h hp.symm) hmi.2
   rw [hpm.1] at H
   have hrl := len_nil (hf157.trans hpm.2.2)
   replace H : Hd _ _ _ [osl kRec u155 rs156, redI r40 (.slice A93 J47.us.length c94) vM43 vC44 vR45 vK46 J47 C.w C.t C.o sb48 R, osl (kInt .i64) (.slice A100 ((mergedL J47.us.length R).length) c101) (mergedL J47.us.length R), blk b99 (arr6 hq) 83, prsS (gg) hq, blk b147 [.int .i64 2, .int .i64 x152, .int .i64 a127, .int .i64 lo41, .int .i64 a129, .int .i64 a130, .int .i64 a131, .int .i64 a132, .slice A138 se135.length c139, .slice A140 pr137.length c141] 64] [rsl (kHd kPair) (.slice A1 C.J.us.length c2) C.J.us, rsl (kSl kPair) (.slice A1 C.J.us.length c2) ss, rsl kIns (.slice A6 C.J.map.length c7) C.J.map, rsl kIns (.slice A11 C.J.comb.length c12) C.J.comb, rsl kIns (.slice A16 C.J.red.length c17) C.J.red, rsl (kInt .i64) (.slice A21 C.J.marks.length c22) C.J.marks, rsl kA21 (.slice A26 acts.length c27) acts, rsl kA21 (.slice A31 more.length c32) more, gl] := H
   obtain ⟨A158, c159, rfl, hc160, hm161, hp162⟩ := H.fA 0 rfl
   refine s_k 3 rfl (s_alloc rfl rfl rfl zr64 H (fun b163 w H => (s_st rfl rfl rfl ty64 rfl rfl H rfl (Nat.le_of_ble_eq_true rfl) (fun u hu => by simp [Value.cells] at hu; rcases hu with rfl | rfl | rfl | rfl | rfl | rfl | rfl | rfl | rfl | rfl <;> rfl) (fun w H => ?_))))
   replace H := H.h1 (A := blk b163 [.int .i64 (((pushR J47 R (⟨2, x152, a127, lo41, a129, a130, a131, a132, se135, pr137⟩ : Msg)).2.1).kind), .int .i64 (((pushR J47 R (⟨2, x152, a127, lo41, a129, a130, a131, a132, se135, pr137⟩ : Msg)).2.1).sp), .int .i64 (((pushR J47 R (⟨2, x152, a127, lo41, a129, a130, a131, a132, se135, pr137⟩ : Msg)).2.1).att), .int .i64 (((pushR J47 R (⟨2, x152, a127, lo41, a129, a130, a131, a132, se135, pr137⟩ : Msg)).2.1).part), .int .i64 (((pushR J47 R (⟨2, x152, a127, lo41, a129, a130, a131, a132, se135, pr137⟩ : Msg)).2.1).seq), .int .i64 (((pushR J47 R (⟨2, x152, a127, lo41, a129, a130, a131, a132, se135, pr137⟩ : Msg)).2.1).next), .int .i64 (((pushR J47 R (⟨2, x152, a127, lo41, a129, a130, a131, a132, se135, pr137⟩ : Msg)).2.1).ep), .int .i64 (((pushR J47 R (⟨2, x152, a127, lo41, a129, a130, a131, a132, se135, pr137⟩ : Msg)).2.1).why), .slice none 0 0, .slice none 0 0] 64)
   refine s_1 rfl (s_nil (q_then (c_seq (c_ord (.e 0 (.e 1 (.e 2 (.e 3 (.e 4 (.e 5 (.e 6 (.e 7 (.e 8 (.e 9 (.e 10 (.e 11 (.e 12 (.e 13 (.e 14 (.e 15 (.e 16 (.e 17 (.e 18 (.m 19 (.e 20 (.e 21 (.e 22 .z))))))))))))))))))))))) (fun w => ∃ Ar, Hd w0 F0 w (blk b163 [.int .i64 (((pushR J47 R (⟨2, x152, a127, lo41, a129, a130, a131, a132, se135, pr137⟩ : Msg)).2.1).kind), .int .i64 (((pushR J47 R (⟨2, x152, a127, lo41, a129, a130, a131, a132, se135, pr137⟩ : Msg)).2.1).sp), .int .i64 (((pushR J47 R (⟨2, x152, a127, lo41, a129, a130, a131, a132, se135, pr137⟩ : Msg)).2.1).att), .int .i64 (((pushR J47 R (⟨2, x152, a127, lo41, a129, a130, a131, a132, se135, pr137⟩ : Msg)).2.1).part), .int .i64 (((pushR J47 R (⟨2, x152, a127, lo41, a129, a130, a131, a132, se135, pr137⟩ : Msg)).2.1).seq), .int .i64 (((pushR J47 R (⟨2, x152, a127, lo41, a129, a130, a131, a132, se135, pr137⟩ : Msg)).2.1).next), .int .i64 (((pushR J47 R (⟨2, x152, a127, lo41, a129, a130, a131, a132, se135, pr137⟩ : Msg)).2.1).ep), .int .i64 (((pushR J47 R (⟨2, x152, a127, lo41, a129, a130, a131, a132, se135, pr137⟩ : Msg)).2.1).why), .slice none 0 0, .slice none 0 0] 64 :: osl kRec (.slice A158 rs156.length c159) rs156 :: redI r40 (.slice A93 J47.us.length c94) vM43 vC44 vR45 vK46 J47 C.w C.t C.o sb48 R :: osl (kInt .i64) (.slice A100 ((mergedL J47.us.length R).length) c101) (mergedL J47.us.length R) :: blk b99 (arr6 hq) 83 :: prsS (gg) hq :: blk b147 [.int .i64 2, .int .i64 x152, .int .i64 a127, .int .i64 lo41, .int .i64 a129, .int .i64 a130, .int .i64 a131, .int .i64 a132, .slice A138 se135.length c139, .slice A140 pr137.length c141] 64 :: Ar) [rsl (kHd kPair) (.slice A1 C.J.us.length c2) C.J.us, rsl (kSl kPair) (.slice A1 C.J.us.length c2) ss, rsl kIns (.slice A6 C.J.map.length c7) C.J.map, rsl kIns (.slice A11 C.J.comb.length c12) C.J.comb, rsl kIns (.slice A16 C.J.red.length c17) C.J.red, rsl (kInt .i64) (.slice A21 C.J.marks.length c22) C.J.marks, rsl kA21 (.slice A26 acts.length c27) acts, rsl kA21 (.slice A31 more.length c32) more, gl]) mo (by kernel_rfl) (fun w H => ⟨_, H⟩) H (fun w H => ?_)))))
   refine d_val rfl rfl rfl (fun w ⟨Ar, H⟩ => r_fa rfl fo64_5 rfl) (d_val rfl rfl rfl (fun w ⟨Ar, H⟩ => r_ld rfl ty3 rfl (H.cellI 0 rfl rfl)) (d_val rfl rfl rfl (fun w ⟨Ar, H⟩ => r_ne rfl rfl rfl) (d_1 rfl ?_)))
   refine d_dec (d := 131) rfl (fun h164 => ?_) (fun h164 => ?_)
   ·exact (h164 hpm.2.1).elim
   refine d_1 rfl (d_val rfl rfl rfl (fun w ⟨Ar, H⟩ => r_lenL rfl un29 rfl) (d_val rfl rfl rfl (fun w ⟨Ar, H⟩ => r_ne rfl rfl rfl) (d_1 rfl (d_1 rfl ?_))))
   refine d_dec (d := 136) rfl (fun h165 => ?_) (fun h165 => ?_)
   ·exact (h165 (by omega)).elim
   refine d_1 rfl (d_val rfl rfl rfl (fun w ⟨Ar, H⟩ => r_fa rfl fo64_1 rfl) (d_val rfl rfl rfl (fun w ⟨Ar, H⟩ => r_ld rfl ty3 rfl (H.cellI 6 rfl rfl)) (d_val rfl rfl rfl (fun w ⟨Ar, H⟩ => r_fa rfl fo64_2 rfl) (d_val rfl rfl rfl (fun w ⟨Ar, H⟩ => r_ld rfl ty3 rfl (H.cellI 6 rfl rfl)) (d_1 rfl (d_1 rfl ?_))))))
   have th166 := H.thRt 7 rfl hx123
   refine d_val rfl rfl rfl (fun w ⟨Ar, H⟩ => r_iaE (p := oOf A31 + j * 12) rfl sl73 rfl rfl (by omega) (by omega) th166 rfl) (d_val rfl rfl rfl (fun w ⟨Ar, H⟩ => r_fa rfl fo79_2 rfl) (d_val rfl rfl rfl (fun w ⟨Ar, H⟩ => r_ld rfl ty3 rfl (H.elRt 7 rfl hx123 (q := 11) rfl rfl)) (d_main rfl ?_)))
   replace H := H.p2
   refine sc (rwon_ok r40 (.slice A93 J47.us.length c94) vM43 vC44 vR45 vK46 J47 C.w C.t C.o sb48 R x152 a127 a133 (by first | assumption | omega | exact OkR.pairs (by assumption) | exact OkR.mono (by assumption) (by omega) | (unfold In64; omega)) (by first | assumption | omega | exact OkR.pairs (by assumption) | exact OkR.mono (by assumption) (by omega) | (unfold In64; omega)) (by first | assumption | omega | exact OkR.pairs (by assumption) | exact OkR.mono (by assumption) (by omega) | (unfold In64; omega))) H l0 rfl rfl (e_fn kn49 rfl rfl) ?_
   rintro v169 _ w ⟨rs167, rfl, hf168⟩ H
   replace H := H.h2 (A := osl kRec v169 rs167) (B := redI r40 (.slice A93 J47.us.length c94) vM43 vC44 vR45 vK46 J47 C.w C.t C.o sb48 ((wonR J47 C.t R x152 a127 a133).1))
   have hwm := won_merged (J := J47) (t := C.t) (R := R) (att := a127) (cnt := a133) hmi.2
   rw [hwm] at H
   have hwl := len_nil (hf168.trans (congrArg Prod.snd hwm))
   replace H : Hd _ _ _ [osl kRec v169 rs167, redI r40 (.slice A93 J47.us.length c94) vM43 vC44 vR45 vK46 J47 C.w C.t C.o sb48 R, blk b163 [.int .i64 (((pushR J47 R (⟨2, x152, a127, lo41, a129, a130, a131, a132, se135, pr137⟩ : Msg)).2.1).kind), .int .i64 (((pushR J47 R (⟨2, x152, a127, lo41, a129, a130, a131, a132, se135, pr137⟩ : Msg)).2.1).sp), .int .i64 (((pushR J47 R (⟨2, x152, a127, lo41, a129, a130, a131, a132, se135, pr137⟩ : Msg)).2.1).att), .int .i64 (((pushR J47 R (⟨2, x152, a127, lo41, a129, a130, a131, a132, se135, pr137⟩ : Msg)).2.1).part), .int .i64 (((pushR J47 R (⟨2, x152, a127, lo41, a129, a130, a131, a132, se135, pr137⟩ : Msg)).2.1).seq), .int .i64 (((pushR J47 R (⟨2, x152, a127, lo41, a129, a130, a131, a132, se135, pr137⟩ : Msg)).2.1).next), .int .i64 (((pushR J47 R (⟨2, x152, a127, lo41, a129, a130, a131, a132, se135, pr137⟩ : Msg)).2.1).ep), .int .i64 (((pushR J47 R (⟨2, x152, a127, lo41, a129, a130, a131, a132, se135, pr137⟩ : Msg)).2.1).why), .slice none 0 0, .slice none 0 0] 64, osl kRec (.slice A158 rs156.length c159) rs156, osl (kInt .i64) (.slice A100 ((mergedL J47.us.length R).length) c101) (mergedL J47.us.length R), blk b99 (arr6 hq) 83, prsS (gg) hq, blk b147 [.int .i64 2, .int .i64 x152, .int .i64 a127, .int .i64 lo41, .int .i64 a129, .int .i64 a130, .int .i64 a131, .int .i64 a132, .slice A138 se135.length c139, .slice A140 pr137.length c141] 64] [rsl (kHd kPair) (.slice A1 C.J.us.length c2) C.J.us, rsl (kSl kPair) (.slice A1 C.J.us.length c2) ss, rsl kIns (.slice A6 C.J.map.length c7) C.J.map, rsl kIns (.slice A11 C.J.comb.length c12) C.J.comb, rsl kIns (.slice A16 C.J.red.length c17) C.J.red, rsl (kInt .i64) (.slice A21 C.J.marks.length c22) C.J.marks, rsl kA21 (.slice A26 acts.length c27) acts, rsl kA21 (.slice A31 more.length c32) more, gl] := H
   obtain ⟨A170, c171, rfl, hc172, hm173, hp174⟩ := H.fA 0 rfl
   replace H := H.p7.p7.p7.p7.p5.p7.p7
   refine d_back ⟨_, H⟩ (d_val rfl rfl rfl (fun w ⟨Ar, H⟩ => r_lenL rfl un29 rfl) (d_val rfl rfl rfl (fun w ⟨Ar, H⟩ => r_ne rfl rfl rfl) (d_1 rfl (d_nil (q_then ?_)))))
   replace H := H.p7.p6.p6.p6.p6.k5
   refine c_dec rfl (fun h175 => ?_) (fun h175 => ?_)
   ·exact (h175 (by omega)).elim
   refine c_skip (q_blockN (q_then ?_))
   replace H := H.k4
   exact c_reg (s_1 rfl (s_val rfl rfl (r_add (z := ((j + 1 : Nat) : Int)) rfl rfl rfl (by rw [w64 (by omega) (by omega)]; omega)) (s_1 rfl (s_nil (q_round (s := j) (j + 1) ⟨rfl, rfl, rfl, rfl, rfl, rfl, trivial⟩ ⟨H, by (try dsimp only); omega⟩ (by (try dsimp only); omega))))))
  refine c_exit (q_thenE (q_thenE (q_blockE (q_then (c_seq (c_seq (c_reg (s_1 rfl (s_nil (q_then (c_block (c_loop (σ := Nat) (fun j => [(9, .pointer (some ⟨r40, 0, none⟩)), (13, .slice A100 ((mergedL J47.us.length R).length) c101), (14, .pointer (some ⟨b99, 0, none⟩)), (20, .int .i64 ((j : Nat) : Int))]) (fun j w => (Hd w0 F0 w [redI r40 (.slice A93 J47.us.length c94) vM43 vC44 vR45 vK46 J47 C.w C.t C.o sb48 R, osl (kInt .i64) (.slice A100 ((mergedL J47.us.length R).length) c101) (mergedL J47.us.length R), blk b99 (arr6 hq) 83, prsS (gg) hq] [rsl (kHd kPair) (.slice A1 C.J.us.length c2) C.J.us, rsl (kSl kPair) (.slice A1 C.J.us.length c2) ss, rsl kIns (.slice A6 C.J.map.length c7) C.J.map, rsl kIns (.slice A11 C.J.comb.length c12) C.J.comb, rsl kIns (.slice A16 C.J.red.length c17) C.J.red, rsl (kInt .i64) (.slice A21 C.J.marks.length c22) C.J.marks, rsl kA21 (.slice A26 acts.length c27) acts, rsl kA21 (.slice A31 more.length c32) more, gl]) ∧ (j ≤ (mergedL J47.us.length R).length)) (fun j => (mergedL J47.us.length R).length - j) 0 ⟨rfl, rfl, rfl, rfl, trivial⟩ ⟨H, Nat.zero_le _⟩ ?_))))))))))))
  rintro j w ⟨H, hj⟩
  refine c_seq (c_seq (c_reg (s_k 2 rfl (s_val rfl rfl (r_lenL rfl un24 rfl) (s_val rfl rfl (r_lt rfl rfl rfl) (s_nil (q_then ?_)))))))
  refine c_dec rfl (fun h176 => ?_) (fun h176 => ?_)
  ·refine c_skip (q_then (c_seq (c_block (c_seq ?_))))
   obtain ⟨x177, hx178⟩ : ∃ z9, (mergedL J47.us.length R)[j]? = some z9 := ⟨_, List.getElem?_eq_getElem (show j < (mergedL J47.us.length R).length by omega)⟩
   have hmi := merged_in hx178
   refine c_ord (.e 0 (.e 1 (.e 2 (.e 3 (.e 4 (.e 6 (.e 7 (.e 8 (.e 9 (.e 10 (.e 11 (.m 5 (.m 12 (.e 13 .z)))))))))))))) (fun w => ∃ Ar, Hd w0 F0 w (redI r40 (.slice A93 J47.us.length c94) vM43 vC44 vR45 vK46 J47 C.w C.t C.o sb48 R :: osl (kInt .i64) (.slice A100 ((mergedL J47.us.length R).length) c101) (mergedL J47.us.length R) :: blk b99 (arr6 hq) 83 :: prsS (gg) hq :: Ar) [rsl (kHd kPair) (.slice A1 C.J.us.length c2) C.J.us, rsl (kSl kPair) (.slice A1 C.J.us.length c2) ss, rsl kIns (.slice A6 C.J.map.length c7) C.J.map, rsl kIns (.slice A11 C.J.comb.length c12) C.J.comb, rsl kIns (.slice A16 C.J.red.length c17) C.J.red, rsl (kInt .i64) (.slice A21 C.J.marks.length c22) C.J.marks, rsl kA21 (.slice A26 acts.length c27) acts, rsl kA21 (.slice A31 more.length c32) more, gl]) mo (by kernel_rfl) (fun w H => ⟨_, H⟩) H (fun w H => (d_1 rfl (d_1 rfl (d_1 rfl ?_))))
   have th179 := H.thA 1 rfl hx178
   refine d_val rfl rfl rfl (fun w ⟨Ar, H⟩ => r_iaE (p := oOf A100 + j * 1) rfl sl24 rfl rfl (by omega) (by omega) th179 rfl) (d_val rfl rfl rfl (fun w ⟨Ar, H⟩ => r_ld rfl ty3 rfl (H.elA 1 rfl hx178 (q := 0) rfl rfl)) (d_1 rfl (d_1 rfl ?_)))
   have th180 := H.thA 1 rfl hx178
   refine d_val rfl rfl rfl (fun w ⟨Ar, H⟩ => r_iaE (p := oOf A100 + j * 1) rfl sl24 rfl rfl (by omega) (by omega) th180 rfl) (d_val rfl rfl rfl (fun w ⟨Ar, H⟩ => r_ld rfl ty3 rfl (H.elA 1 rfl hx178 (q := 0) rfl rfl)) (d_val rfl rfl rfl (fun w ⟨Ar, H⟩ => r_iaB (p := 0 + (x177).toNat * 1) rfl un83 is35 rfl rfl (by omega) (by omega) (by omega)) ?_))
   obtain ⟨A181, c182, e183, _, _, _⟩ := H.prsForm (i := (x177).toNat) 3 rfl (by omega)
   refine d_val rfl rfl rfl (fun w ⟨Ar, H⟩ => r_ld rfl ty35 rfl (H.cellI 2 rfl ((arr6_at1 (by omega)).trans (congrArg some e183)))) (d_main rfl ?_)
   obtain ⟨hv184, vs185, us186, hsets187, H⟩ := redI_open r40 (.slice A93 J47.us.length c94) vM43 vC44 vR45 vK46 J47 C.w C.t C.o sb48 R H
   replace H : Hd _ _ _ [blk r40 (redC (.slice A93 J47.us.length c94) vM43 vC44 vR45 vK46 J47 C.w C.t C.o R.part R.ep R.g hv184 sb48 vs185) 185, osl (kHd kPair) (.slice A93 J47.us.length c94) J47.us, osl kIns vM43 J47.map, osl kIns vC44 J47.comb, osl kIns vR45 J47.red, osl (kInt .i64) vK46 J47.marks, prsS (R.g) hv184, osl (kHd (kInt .i64)) vs185 us186, stgI 253 sb48 (R.st), osl (kInt .i64) (.slice A100 ((mergedL J47.us.length R).length) c101) (mergedL J47.us.length R), blk b99 (arr6 hq) 83, prsS (gg) hq] [rsl (kHd kPair) (.slice A1 C.J.us.length c2) C.J.us, rsl (kSl kPair) (.slice A1 C.J.us.length c2) ss, rsl kIns (.slice A6 C.J.map.length c7) C.J.map, rsl kIns (.slice A11 C.J.comb.length c12) C.J.comb, rsl kIns (.slice A16 C.J.red.length c17) C.J.red, rsl (kInt .i64) (.slice A21 C.J.marks.length c22) C.J.marks, rsl kA21 (.slice A26 acts.length c27) acts, rsl kA21 (.slice A31 more.length c32) more, gl] := H
   refine sc (rpairs_ok r40 A93 c94 vM43 vC44 vR45 vK46 J47 C.w C.t C.o R.part R.ep R hv184 sb48 vs185 x177 (by first | assumption | omega | exact OkR.pairs (by assumption) | exact OkR.mono (by assumption) (by omega) | (unfold In64; omega)) (by first | assumption | omega | exact OkR.pairs (by assumption) | exact OkR.mono (by assumption) (by omega) | (unfold In64; omega))) H (lA 0 rfl (fun _ h => h) (lA 6 rfl (fun _ h => h) l0)) rfl rfl (e_fn kn52 rfl rfl) ?_
   rintro v188 _ w rfl H
   replace H := H.h1 (A := osl kPair v188 (pairsR J47.us.length R x177)) |>.p9 |>.p9 |>.p9 |>.p9 |>.p9 |>.p9 |>.p9 |>.p9 |>.p9
   replace H := redI_shut r40 (.slice A93 J47.us.length c94) vM43 vC44 vR45 vK46 J47 C.w C.t C.o sb48 R hv184 vs185 us186 hsets187 H
   replace H := H.h1 (A := redI r40 (.slice A93 J47.us.length c94) vM43 vC44 vR45 vK46 J47 C.w C.t C.o sb48 R) |>.p4 |>.p4 |>.p4 |>.p3
   refine d_back ⟨_, H⟩ (d_main rfl (sc (samePairs_ok v188 (.slice A181 ((gg ((x177).toNat)).pairs.length) c182) (pairsR J47.us.length R x177) ((gg ((x177).toNat)).pairs)) H (lA 4 rfl own_rd (lX (fun F hA hR => by rw [← e183]; exact prs_rd (by omega) (hA _ (List.mem_of_getElem? (i := 3) rfl))) l0)) rfl rfl (e_fn kn25 rfl rfl) ?_))
   rintro _ _ w ⟨rfl, rfl⟩ H
   refine d_back ⟨_, H⟩ (d_val rfl rfl rfl (fun w ⟨Ar, H⟩ => r_notP rfl rfl) (d_nil (q_then ?_)))
   replace H := H.k4
   refine c_dec rfl (fun h189 => ?_) (fun h189 => ?_)
   ·exact absurd (hg j _ (by omega) hx178).symm h189
   exact c_skip (q_blockN (q_then (c_reg (s_1 rfl (s_val rfl rfl (r_add (z := ((j + 1 : Nat) : Int)) rfl rfl rfl (by rw [w64 (by omega) (by omega)]; omega)) (s_1 rfl (s_nil (q_round (s := j) (j + 1) ⟨rfl, rfl, rfl, rfl, trivial⟩ ⟨H, by (try dsimp only); omega⟩ (by (try dsimp only); omega)))))))))
  refine c_exit (q_thenE (q_thenE (q_blockE (q_then ?_))))
  replace H := H.k2
  refine c_seq (c_reg (s_1 rfl ?_))
  obtain ⟨hv190, vs191, us192, hsets193, H⟩ := redI_open r40 (.slice A93 J47.us.length c94) vM43 vC44 vR45 vK46 J47 C.w C.t C.o sb48 R H
  replace H := H.h9 (A := blk r40 (redC (.slice A93 J47.us.length c94) vM43 vC44 vR45 vK46 J47 C.w C.t C.o R.part R.ep R.g hv190 sb48 vs191) 185) (B := osl (kHd kPair) (.slice A93 J47.us.length c94) J47.us) (C := osl kIns vM43 J47.map) (D := osl kIns vC44 J47.comb) (E := osl kIns vR45 J47.red) (F := osl (kInt .i64) vK46 J47.marks) (G := prsS (R.g) hv190) (I := osl (kHd (kInt .i64)) vs191 us192) (J := stgI 253 sb48 (R.st))
  refine sc (merged_ok r40 A93 c94 vM43 vC44 vR45 vK46 J47 C.w C.t C.o R.part R.ep R hv190 sb48 vs191 (by first | assumption | omega | exact OkR.pairs (by assumption) | exact OkR.mono (by assumption) (by omega) | (unfold In64; omega))) H (lA 0 rfl (fun _ h => h) l0) rfl rfl (e_fn kn51 rfl rfl) ?_
  rintro v194 _ w rfl H
  replace H := H.h1 (A := osl (kInt .i64) v194 (mergedL J47.us.length R)) |>.p9 |>.p9 |>.p9 |>.p9 |>.p9 |>.p9 |>.p9 |>.p9 |>.p9
  replace H := redI_shut r40 (.slice A93 J47.us.length c94) vM43 vC44 vR45 vK46 J47 C.w C.t C.o sb48 R hv190 vs191 us192 hsets193 H
  replace H := H.h1 (A := redI r40 (.slice A93 J47.us.length c94) vM43 vC44 vR45 vK46 J47 C.w C.t C.o sb48 R)
  refine s_1 rfl (sc (sameInts_ok v194 (.slice A100 ((mergedL J47.us.length R).length) c101) (mergedL J47.us.length R) (mergedL J47.us.length R)) H (lA 1 rfl own_rd (lA 2 rfl own_rd l0)) rfl rfl (e_fn kn33 rfl rfl) ?_)
  rintro _ _ w ⟨rfl, rfl⟩ H
  refine s_1 rfl ?_
  refine s_dec (d := 175) rfl (fun h195 => ?_) (fun h195 => ?_)
  ·refine sc (awake21_ok) H (lR 8 rfl l0) rfl rfl (e_fn kn47 rfl rfl) ?_
   rintro _ _ w ⟨rfl, rfl⟩ H
   refine s_k 2 rfl (s_nil (q_then ?_))
   replace H := H.nil
   replace H : Hd _ _ _ [] [rsl (kHd kPair) (.slice A1 C.J.us.length c2) C.J.us, rsl (kSl kPair) (.slice A1 C.J.us.length c2) ss, rsl kIns (.slice A6 C.J.map.length c7) C.J.map, rsl kIns (.slice A11 C.J.comb.length c12) C.J.comb, rsl kIns (.slice A16 C.J.red.length c17) C.J.red, rsl (kInt .i64) (.slice A21 C.J.marks.length c22) C.J.marks, rsl kA21 (.slice A26 acts.length c27) acts, rsl kA21 (.slice A31 more.length c32) more, gl] := H
   exact c_ret (q_ret1 rfl rfl (fin ⟨rfl, rfl⟩ H))
  exact (h195 rfl).elim
 refine s_k 4 rfl (s_nil (q_then (c_no rfl (c_exit (q_thenE (q_thenE (q_blockE (q_then (c_seq (c_seq (c_reg (s_1 rfl (s_nil (q_then (c_block (c_loop (σ := Nat) (fun j => [(9, .pointer (some ⟨r40, 0, none⟩)), (13, .slice A100 ((mergedL J47.us.length R).length) c101), (14, .pointer (some ⟨b99, 0, none⟩)), (20, .int .i64 ((j : Nat) : Int))]) (fun j w => (Hd w0 F0 w [redI r40 (.slice A93 J47.us.length c94) vM43 vC44 vR45 vK46 J47 C.w C.t C.o sb48 R, osl (kInt .i64) (.slice A100 ((mergedL J47.us.length R).length) c101) (mergedL J47.us.length R), blk b99 (arr6 hq) 83, prsS (gg) hq] [rsl (kHd kPair) (.slice A1 C.J.us.length c2) C.J.us, rsl (kSl kPair) (.slice A1 C.J.us.length c2) ss, rsl kIns (.slice A6 C.J.map.length c7) C.J.map, rsl kIns (.slice A11 C.J.comb.length c12) C.J.comb, rsl kIns (.slice A16 C.J.red.length c17) C.J.red, rsl (kInt .i64) (.slice A21 C.J.marks.length c22) C.J.marks, rsl kA21 (.slice A26 acts.length c27) acts, rsl kA21 (.slice A31 more.length c32) more, gl]) ∧ (j ≤ (mergedL J47.us.length R).length)) (fun j => (mergedL J47.us.length R).length - j) 0 ⟨rfl, rfl, rfl, rfl, trivial⟩ ⟨H, Nat.zero_le _⟩ ?_))))))))))))))))
 rintro j w ⟨H, hj⟩
 refine c_seq (c_seq (c_reg (s_k 2 rfl (s_val rfl rfl (r_lenL rfl un24 rfl) (s_val rfl rfl (r_lt rfl rfl rfl) (s_nil (q_then ?_)))))))
 refine c_dec rfl (fun h196 => ?_) (fun h196 => ?_)
 ·refine c_skip (q_then (c_seq (c_block (c_seq ?_))))
  obtain ⟨x197, hx198⟩ : ∃ z9, (mergedL J47.us.length R)[j]? = some z9 := ⟨_, List.getElem?_eq_getElem (show j < (mergedL J47.us.length R).length by omega)⟩
  have hmi := merged_in hx198
  refine c_ord (.e 0 (.e 1 (.e 2 (.e 3 (.e 4 (.e 6 (.e 7 (.e 8 (.e 9 (.e 10 (.e 11 (.m 5 (.m 12 (.e 13 .z)))))))))))))) (fun w => ∃ Ar, Hd w0 F0 w (redI r40 (.slice A93 J47.us.length c94) vM43 vC44 vR45 vK46 J47 C.w C.t C.o sb48 R :: osl (kInt .i64) (.slice A100 ((mergedL J47.us.length R).length) c101) (mergedL J47.us.length R) :: blk b99 (arr6 hq) 83 :: prsS (gg) hq :: Ar) [rsl (kHd kPair) (.slice A1 C.J.us.length c2) C.J.us, rsl (kSl kPair) (.slice A1 C.J.us.length c2) ss, rsl kIns (.slice A6 C.J.map.length c7) C.J.map, rsl kIns (.slice A11 C.J.comb.length c12) C.J.comb, rsl kIns (.slice A16 C.J.red.length c17) C.J.red, rsl (kInt .i64) (.slice A21 C.J.marks.length c22) C.J.marks, rsl kA21 (.slice A26 acts.length c27) acts, rsl kA21 (.slice A31 more.length c32) more, gl]) mo (by kernel_rfl) (fun w H => ⟨_, H⟩) H (fun w H => (d_1 rfl (d_1 rfl (d_1 rfl ?_))))
  have th199 := H.thA 1 rfl hx198
  refine d_val rfl rfl rfl (fun w ⟨Ar, H⟩ => r_iaE (p := oOf A100 + j * 1) rfl sl24 rfl rfl (by omega) (by omega) th199 rfl) (d_val rfl rfl rfl (fun w ⟨Ar, H⟩ => r_ld rfl ty3 rfl (H.elA 1 rfl hx198 (q := 0) rfl rfl)) (d_1 rfl (d_1 rfl ?_)))
  have th200 := H.thA 1 rfl hx198
  refine d_val rfl rfl rfl (fun w ⟨Ar, H⟩ => r_iaE (p := oOf A100 + j * 1) rfl sl24 rfl rfl (by omega) (by omega) th200 rfl) (d_val rfl rfl rfl (fun w ⟨Ar, H⟩ => r_ld rfl ty3 rfl (H.elA 1 rfl hx198 (q := 0) rfl rfl)) (d_val rfl rfl rfl (fun w ⟨Ar, H⟩ => r_iaB (p := 0 + (x197).toNat * 1) rfl un83 is35 rfl rfl (by omega) (by omega) (by omega)) ?_))
  obtain ⟨A201, c202, e203, _, _, _⟩ := H.prsForm (i := (x197).toNat) 3 rfl (by omega)
  refine d_val rfl rfl rfl (fun w ⟨Ar, H⟩ => r_ld rfl ty35 rfl (H.cellI 2 rfl ((arr6_at1 (by omega)).trans (congrArg some e203)))) (d_main rfl ?_)
  obtain ⟨hv204, vs205, us206, hsets207, H⟩ := redI_open r40 (.slice A93 J47.us.length c94) vM43 vC44 vR45 vK46 J47 C.w C.t C.o sb48 R H
  replace H : Hd _ _ _ [blk r40 (redC (.slice A93 J47.us.length c94) vM43 vC44 vR45 vK46 J47 C.w C.t C.o R.part R.ep R.g hv204 sb48 vs205) 185, osl (kHd kPair) (.slice A93 J47.us.length c94) J47.us, osl kIns vM43 J47.map, osl kIns vC44 J47.comb, osl kIns vR45 J47.red, osl (kInt .i64) vK46 J47.marks, prsS (R.g) hv204, osl (kHd (kInt .i64)) vs205 us206, stgI 253 sb48 (R.st), osl (kInt .i64) (.slice A100 ((mergedL J47.us.length R).length) c101) (mergedL J47.us.length R), blk b99 (arr6 hq) 83, prsS (gg) hq] [rsl (kHd kPair) (.slice A1 C.J.us.length c2) C.J.us, rsl (kSl kPair) (.slice A1 C.J.us.length c2) ss, rsl kIns (.slice A6 C.J.map.length c7) C.J.map, rsl kIns (.slice A11 C.J.comb.length c12) C.J.comb, rsl kIns (.slice A16 C.J.red.length c17) C.J.red, rsl (kInt .i64) (.slice A21 C.J.marks.length c22) C.J.marks, rsl kA21 (.slice A26 acts.length c27) acts, rsl kA21 (.slice A31 more.length c32) more, gl] := H
  refine sc (rpairs_ok r40 A93 c94 vM43 vC44 vR45 vK46 J47 C.w C.t C.o R.part R.ep R hv204 sb48 vs205 x197 (by first | assumption | omega | exact OkR.pairs (by assumption) | exact OkR.mono (by assumption) (by omega) | (unfold In64; omega)) (by first | assumption | omega | exact OkR.pairs (by assumption) | exact OkR.mono (by assumption) (by omega) | (unfold In64; omega))) H (lA 0 rfl (fun _ h => h) (lA 6 rfl (fun _ h => h) l0)) rfl rfl (e_fn kn52 rfl rfl) ?_
  rintro v208 _ w rfl H
  replace H := H.h1 (A := osl kPair v208 (pairsR J47.us.length R x197)) |>.p9 |>.p9 |>.p9 |>.p9 |>.p9 |>.p9 |>.p9 |>.p9 |>.p9
  replace H := redI_shut r40 (.slice A93 J47.us.length c94) vM43 vC44 vR45 vK46 J47 C.w C.t C.o sb48 R hv204 vs205 us206 hsets207 H
  replace H := H.h1 (A := redI r40 (.slice A93 J47.us.length c94) vM43 vC44 vR45 vK46 J47 C.w C.t C.o sb48 R) |>.p4 |>.p4 |>.p4 |>.p3
  refine d_back ⟨_, H⟩ (d_main rfl (sc (samePairs_ok v208 (.slice A201 ((gg ((x197).toNat)).pairs.length) c202) (pairsR J47.us.length R x197) ((gg ((x197).toNat)).pairs)) H (lA 4 rfl own_rd (lX (fun F hA hR => by rw [← e203]; exact prs_rd (by omega) (hA _ (List.mem_of_getElem? (i := 3) rfl))) l0)) rfl rfl (e_fn kn25 rfl rfl) ?_))
  rintro _ _ w ⟨rfl, rfl⟩ H
  refine d_back ⟨_, H⟩ (d_val rfl rfl rfl (fun w ⟨Ar, H⟩ => r_notP rfl rfl) (d_nil (q_then ?_)))
  replace H := H.k4
  refine c_dec rfl (fun h209 => ?_) (fun h209 => ?_)
  ·exact absurd (hg j _ (by omega) hx198).symm h209
  exact c_skip (q_blockN (q_then (c_reg (s_1 rfl (s_val rfl rfl (r_add (z := ((j + 1 : Nat) : Int)) rfl rfl rfl (by rw [w64 (by omega) (by omega)]; omega)) (s_1 rfl (s_nil (q_round (s := j) (j + 1) ⟨rfl, rfl, rfl, rfl, trivial⟩ ⟨H, by (try dsimp only); omega⟩ (by (try dsimp only); omega)))))))))
 refine c_exit (q_thenE (q_thenE (q_blockE (q_then ?_))))
 replace H := H.k2
 refine c_seq (c_reg (s_1 rfl ?_))
 obtain ⟨hv210, vs211, us212, hsets213, H⟩ := redI_open r40 (.slice A93 J47.us.length c94) vM43 vC44 vR45 vK46 J47 C.w C.t C.o sb48 R H
 replace H := H.h9 (A := blk r40 (redC (.slice A93 J47.us.length c94) vM43 vC44 vR45 vK46 J47 C.w C.t C.o R.part R.ep R.g hv210 sb48 vs211) 185) (B := osl (kHd kPair) (.slice A93 J47.us.length c94) J47.us) (C := osl kIns vM43 J47.map) (D := osl kIns vC44 J47.comb) (E := osl kIns vR45 J47.red) (F := osl (kInt .i64) vK46 J47.marks) (G := prsS (R.g) hv210) (I := osl (kHd (kInt .i64)) vs211 us212) (J := stgI 253 sb48 (R.st))
 refine sc (merged_ok r40 A93 c94 vM43 vC44 vR45 vK46 J47 C.w C.t C.o R.part R.ep R hv210 sb48 vs211 (by first | assumption | omega | exact OkR.pairs (by assumption) | exact OkR.mono (by assumption) (by omega) | (unfold In64; omega))) H (lA 0 rfl (fun _ h => h) l0) rfl rfl (e_fn kn51 rfl rfl) ?_
 rintro v214 _ w rfl H
 replace H := H.h1 (A := osl (kInt .i64) v214 (mergedL J47.us.length R)) |>.p9 |>.p9 |>.p9 |>.p9 |>.p9 |>.p9 |>.p9 |>.p9 |>.p9
 replace H := redI_shut r40 (.slice A93 J47.us.length c94) vM43 vC44 vR45 vK46 J47 C.w C.t C.o sb48 R hv210 vs211 us212 hsets213 H
 replace H := H.h1 (A := redI r40 (.slice A93 J47.us.length c94) vM43 vC44 vR45 vK46 J47 C.w C.t C.o sb48 R)
 refine s_1 rfl (sc (sameInts_ok v214 (.slice A100 ((mergedL J47.us.length R).length) c101) (mergedL J47.us.length R) (mergedL J47.us.length R)) H (lA 1 rfl own_rd (lA 2 rfl own_rd l0)) rfl rfl (e_fn kn33 rfl rfl) ?_)
 rintro _ _ w ⟨rfl, rfl⟩ H
 refine s_1 rfl ?_
 refine s_dec (d := 175) rfl (fun h215 => ?_) (fun h215 => ?_)
 ·refine sc (awake21_ok) H (lR 8 rfl l0) rfl rfl (e_fn kn47 rfl rfl) ?_
  rintro _ _ w ⟨rfl, rfl⟩ H
  refine s_k 2 rfl (s_nil (q_then ?_))
  replace H := H.nil
  replace H : Hd _ _ _ [] [rsl (kHd kPair) (.slice A1 C.J.us.length c2) C.J.us, rsl (kSl kPair) (.slice A1 C.J.us.length c2) ss, rsl kIns (.slice A6 C.J.map.length c7) C.J.map, rsl kIns (.slice A11 C.J.comb.length c12) C.J.comb, rsl kIns (.slice A16 C.J.red.length c17) C.J.red, rsl (kInt .i64) (.slice A21 C.J.marks.length c22) C.J.marks, rsl kA21 (.slice A26 acts.length c27) acts, rsl kA21 (.slice A31 more.length c32) more, gl] := H
  exact c_ret (q_ret1 rfl rfl (fin ⟨rfl, rfl⟩ H))
 exact (h215 rfl).elim
theorem reducerOnce_ok (vS vM vC vR vK : Value) (ss : List (List Pair)) (map comb red : List Ins) (marks : List Int) (parts chunk window fuel : Int) (wj : ((∀ x ∈ ss, (∀ p ∈ x, p.key.size ≤ 9223372036854775807 ∧ p.val.size ≤ 9223372036854775807) ∧ x.length ≤ 9223372036854775807) ∧ ss.length ≤ 9223372036854775807) ∧ ((∀ p ∈ map, In64 p.op ∧ In64 p.a ∧ p.s.size ≤ 9223372036854775807) ∧ map.length ≤ 9223372036854775807) ∧ ((∀ p ∈ comb, In64 p.op ∧ In64 p.a ∧ p.s.size ≤ 9223372036854775807) ∧ comb.length ≤ 9223372036854775807) ∧ ((∀ p ∈ red, In64 p.op ∧ In64 p.a ∧ p.s.size ≤ 9223372036854775807) ∧ red.length ≤ 9223372036854775807) ∧ (∀ x ∈ marks, In64 x) ∧ marks.length ≤ 9223372036854775807) (wn : In64 parts ∧ In64 chunk ∧ In64 window ∧ In64 fuel) (cw ct co : Int) (wc : In64 cw ∧ In64 ct ∧ In64 co) (k1 : Int) (g1 : In64 k1) (va : Value) (acts : List (Two A21H)) (wacts : (∀ x ∈ acts, (InT (fun a : A21H => InM a.m ∧ In64 a.n) (fun p : Pair => p.key.size ≤ 9223372036854775807 ∧ p.val.size ≤ 9223372036854775807)) x) ∧ acts.length ≤ 9223372036854775807) (vm : Value) (more : List (Two A21H)) (wmore : (∀ x ∈ more, (InT (fun a : A21H => InM a.m ∧ In64 a.n) (fun p : Pair => p.key.size ≤ 9223372036854775807 ∧ p.val.size ≤ 9223372036854775807)) x) ∧ more.length ≤ 9223372036854775807) :
  Cn Tryz.prog 7 [.agg #[vS, .int .i64 parts, vM, vC, vR, .int .i64 chunk, .int .i64 window, .int .i64 fuel, vK, .int .i64 cw, .int .i64 ct, .int .i64 co], .int .i64 k1, va, vm] [] [rsl (kSl kPair) vS ss, rsl kIns vM map, rsl kIns vC comb, rsl kIns vR red, rsl (kInt .i64) vK marks, rsl kA21 va acts, rsl kA21 vm more, gl] (fun v Bs => v = .bool true ∧ Bs = []) :=
 Cn.heads0 fun us hus => reducerOnceC_ok vS vM vC vR vK ⟨⟨us, parts, map, comb, red, chunk, window, fuel, marks⟩, cw, ct, co⟩ ss (fun i hi => (wj.2.1.1 i hi).2.1) (fun i hi => (wj.2.2.1.1 i hi).2.1) (fun i hi => (wj.2.2.2.1.1 i hi).2.1) k1 g1 va acts wacts vm more wmore
theorem v_foot {P : Program} {W : World} {name : String} {g : Nat} {cs : Array Value} (hg : P.globalNamed name = some g) (h : W.var? P name = some cs) : Old W g := by
 unfold World.var? at h
 rw [hg] at h
 simp only [Option.bind_some] at h
 show g < W.heap.size
 rcases Nat.lt_or_ge g W.heap.size with h' | h'
 ·exact h'
 ·simp [Array.getElem?_eq_none h'] at h
theorem star2 : "*" ++ "errors.errorString" = "*errors.errorString" := by decide
theorem ptrRow (u : TypeId) (h : Tryz.prog.typeName? 3 u = some "*errors.errorString") : u = 409 := typeName_ptr_named (nm := "errors.errorString") (by rw [star2]; kernel_rfl) (by kernel_rfl) (by decide) u (by rw [star2]; exact h)
theorem gn0 : Tryz.prog.globalNamed "internal/strconv.uint64pow10" = some 2 := by kernel_rfl
theorem gt0 : (Tryz.prog.globals[2]?).map (·.type) = some 406 := by kernel_rfl
theorem gn1 : Tryz.prog.globalNamed "strconv.ErrSyntax" = some 0 := by kernel_rfl
theorem gt1 : (Tryz.prog.globals[0]?).map (·.type) = some 370 := by kernel_rfl
theorem gn2 : Tryz.prog.globalNamed "strconv.ErrRange" = some 1 := by kernel_rfl
theorem gt2 : (Tryz.prog.globals[1]?).map (·.type) = some 370 := by kernel_rfl
theorem lu370 : Tryz.prog.underlying 370 = some (.interface (Tryz.prog.methodsAt 370)) := by kernel_rfl
theorem lu406 : Tryz.prog.underlying 406 = some (.array 20 270) := by kernel_rfl
theorem lu270 : Tryz.prog.underlying 270 = some (.int .u64) := by kernel_rfl
theorem lu409 : Tryz.prog.underlying 409 = some (.pointer 411) := by kernel_rfl
theorem lu411 : Tryz.prog.underlying 411 = some (.struct #[⟨ "s", 9, 0, false, "", "errors", 0⟩]) := by kernel_rfl
theorem lu9 : Tryz.prog.underlying 9 = some (.string) := by kernel_rfl
theorem lc270 : Tryz.prog.cellsOf 270 = 1 := by kernel_rfl
theorem lc406 : Tryz.prog.cellsOf 406 = 20 := by kernel_rfl
theorem lc411 : Tryz.prog.cellsOf 411 = 1 := by kernel_rfl
theorem lc9 : Tryz.prog.cellsOf 9 = 1 := by kernel_rfl
theorem gl_laid {W : World} (h : laidMet Tryz.prog Rows.checkOrdersRow.laid W) : gl.P W (Old W) := by
 refine ⟨?_, ?_, ?_⟩
 ·have h0 : laidMet Tryz.prog [("internal/strconv.uint64pow10", Lib.tabData .u64 Lib.pow10Tab)] W := by
   have e : Rows.checkOrdersRow.laid.filter (fun x => x.1 == "internal/strconv.uint64pow10") = [("internal/strconv.uint64pow10", Lib.tabData .u64 Lib.pow10Tab)] := by kernel_rfl
   have := h.filter (fun x => x.1 == "internal/strconv.uint64pow10"); rw [e] at this; exact this
  have hv := Lib.tabIs_of_head gn0 gt0 lu406 lu270 lc270 lc406 h0
  exact ⟨_, gn0, v_foot gn0 hv, _, hv, rfl⟩
 ·have h0 : laidMet Tryz.prog [("strconv.ErrSyntax", Rows.laid_strconv_ErrSyntax)] W := by
   have e : Rows.checkOrdersRow.laid.filter (fun x => x.1 == "strconv.ErrSyntax") = [("strconv.ErrSyntax", Rows.laid_strconv_ErrSyntax)] := by kernel_rfl
   have := h.filter (fun x => x.1 == "strconv.ErrSyntax"); rw [e] at this; exact this
  obtain ⟨a0, s0, hv, -⟩ := laid_sentinel h0 gn1 gt1 lu370 ptrRow lu409 lu411 rfl rfl lu9 lc411 lc9
  exact ⟨_, gn1, v_foot gn1 hv, _, hv, _, _, rfl⟩
 ·have h0 : laidMet Tryz.prog [("strconv.ErrRange", Rows.laid_strconv_ErrRange)] W := by
   have e : Rows.checkOrdersRow.laid.filter (fun x => x.1 == "strconv.ErrRange") = [("strconv.ErrRange", Rows.laid_strconv_ErrRange)] := by kernel_rfl
   have := h.filter (fun x => x.1 == "strconv.ErrRange"); rw [e] at this; exact this
  obtain ⟨a0, s0, hv, -⟩ := laid_sentinel h0 gn2 gt2 lu370 ptrRow lu409 lu411 rfl rfl lu9 lc411 lc9
  exact ⟨_, gn2, v_foot gn2 hv, _, hv, _, _, rfl⟩
end Go.Proofs.YthgehekecfpikaaGreatDoor.X
