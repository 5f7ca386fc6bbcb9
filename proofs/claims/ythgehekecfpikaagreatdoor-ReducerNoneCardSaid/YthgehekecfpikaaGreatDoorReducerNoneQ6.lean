/- ReducerNone: texts N8, N9, N10, L2, L3, L4, G1, joined by a program of ours; what nothing names is left out. -/
import Derived.Test.YthgehekecfpikaaGreatDoorReducerNoneQ5
import Derived.Test.YthgehekecfpikaaGreatDoorRows
import Derived.LaidSub
import Derived.Lib.LaidTab
import Derived.Stop.LaidErr
set_option linter.unusedVariables false
set_option linter.unusedSimpArgs false
set_option maxHeartbeats 8000000
namespace Go.Proofs.YthgehekecfpikaaGreatDoor.X
open Go
theorem rwon_ok (r : Nat) (vS : Value) (vM : Value) (vC : Value) (vR : Value) (vK : Value) (J : Job) (cw : Int) (ct : Int) (co : Int) (sb : Nat) (R : Red) (sp : Int) (att : Int) (cnt : Int) (h6 : J.us.length ≤ 6) (hB : OkR 100000 R) (hmk : J.marks.length ≤ 1000) :
    Cn Tryz.prog 49 [.pointer (some ⟨r, 0, none⟩), .int .i64 sp, .int .i64 att, .int .i64 cnt] [redI r vS vM vC vR vK J cw ct co sb R] [] (fun v Bs => ∃ rs : List Rec, Bs = [osl kRec v rs, redI r vS vM vC vR vK J cw ct co sb ((wonR J ct R sp att cnt).1)] ∧ (rs.map Rec.p = (wonR J ct R sp att cnt).2)) := by
 intro w0 F0 H
 obtain ⟨hv1, vs2, us3, hsets4, H⟩ := redI_open r vS vM vC vR vK J cw ct co sb R H
 replace H : Hd _ _ _ [blk r (redC vS vM vC vR vK J cw ct co R.part R.ep R.g hv1 sb vs2) 185, osl (kHd kPair) vS J.us, osl kIns vM J.map, osl kIns vC J.comb, osl kIns vR J.red, osl (kInt .i64) vK J.marks, prsS (R.g) hv1, osl (kHd (kInt .i64)) vs2 us3, stgI 253 sb (R.st)] [] := H
 obtain ⟨A5, c6, rfl, hc7, hm8, hp9⟩ := H.fA 1 rfl
 refine enter Tryz.func49 rfl rfl (Nat.le_of_ble_eq_true rfl) (c_seq (c_reg (s_1 rfl (s_nil (q_then (c_seq ?_))))))
 by_cases hin10 : 0 ≤ sp ∧ sp < ((J.us.length : Nat) : Int)
 ·refine c_reg (s_k 2 rfl (sc (at_ok r A5 J.us.length c6 vM vC vR vK J cw ct co R.part R.ep R.g hv1 sb vs2 sp (by first | assumption | omega) (by first | assumption | omega)) H (lA 0 rfl (fun _ h => h) l0) rfl rfl (e_fn kn118 rfl rfl) ?_))
  rintro _ _ w ⟨rfl, rfl⟩ H
  refine s_1 rfl (s_nil (q_then (c_seq (c_seq (c_reg (s_1 rfl (s_val rfl rfl (r_peq rfl un178 rfl rfl) (s_k 2 rfl (s_val rfl rfl (r_nilP rfl rfl) (s_val rfl rfl (r_fa rfl fo181_0 rfl) (s_val rfl rfl (r_ld rfl ty4 rfl (H.cellI 0 rfl (redC_at0 (by omega)))) (s_k 2 rfl ?_))))))))))))
  refine s_boo (d := 21) (b := (R.g ((sp).toNat)).merged) rfl (fun h11 => ?_) (fun h11 => ?_)
  ·refine s_k 12 rfl (s_k 6 rfl (s_nil (q_then (c_yes rfl (c_seq (c_reg (s_1 rfl (s_nil (q_then (c_ret (q_thenR (q_ret1 rfl rfl ?_))))))))))))
   have e : wonR J ct R sp att cnt = (R, []) := if_pos (.inr (.inl (by simpa using h11)))
   replace H := H.newnil kRec |>.p9 |>.p9 |>.p9 |>.p9 |>.p9 |>.p9 |>.p9 |>.p9 |>.p9
   replace H := redI_shut r (.slice A5 J.us.length c6) vM vC vR vK J cw ct co sb R hv1 vs2 us3 hsets4 H
   replace H := H.h1 (A := redI r (.slice A5 J.us.length c6) vM vC vR vK J cw ct co sb R) |>.p1
   exact fin ⟨[], by rw [e] <;> rfl, by rw [e]; rfl⟩ H
  refine s_1 rfl (s_val rfl rfl (r_nilP rfl rfl) (s_val rfl rfl (r_fa rfl fo181_2 rfl) (s_val rfl rfl (r_ld rfl ty4 rfl (H.cellI 0 rfl (redC_at2 (by omega)))) (s_k 2 rfl ?_))))
  refine s_boo (d := 27) (b := (R.g ((sp).toNat)).told) rfl (fun h12 => ?_) (fun h12 => ?_)
  ·refine s_k 12 rfl (s_nil (q_then (c_yes rfl (c_seq (c_reg (s_1 rfl (s_nil (q_then (c_ret (q_thenR (q_ret1 rfl rfl ?_)))))))))))
   have e : wonR J ct R sp att cnt = (R, []) := if_pos (.inr (.inr (.inl (by simpa using h12))))
   replace H := H.newnil kRec |>.p9 |>.p9 |>.p9 |>.p9 |>.p9 |>.p9 |>.p9 |>.p9 |>.p9
   replace H := redI_shut r (.slice A5 J.us.length c6) vM vC vR vK J cw ct co sb R hv1 vs2 us3 hsets4 H
   replace H := H.h1 (A := redI r (.slice A5 J.us.length c6) vM vC vR vK J cw ct co sb R) |>.p1
   exact fin ⟨[], by rw [e] <;> rfl, by rw [e]; rfl⟩ H
  refine s_1 rfl (s_val rfl rfl (r_lt rfl rfl rfl) (s_k 2 rfl ?_))
  refine s_dec (d := 31) rfl (fun h13 => ?_) (fun h13 => ?_)
  ·refine s_k 8 rfl (s_nil (q_then (c_yes rfl (c_seq (c_reg (s_1 rfl (s_nil (q_then (c_ret (q_thenR (q_ret1 rfl rfl ?_)))))))))))
   have e : wonR J ct R sp att cnt = (R, []) := if_pos (.inr (.inr (.inr (.inl h13))))
   replace H := H.newnil kRec |>.p9 |>.p9 |>.p9 |>.p9 |>.p9 |>.p9 |>.p9 |>.p9 |>.p9
   replace H := redI_shut r (.slice A5 J.us.length c6) vM vC vR vK J cw ct co sb R hv1 vs2 us3 hsets4 H
   replace H := H.h1 (A := redI r (.slice A5 J.us.length c6) vM vC vR vK J cw ct co sb R) |>.p1
   exact fin ⟨[], by rw [e] <;> rfl, by rw [e]; rfl⟩ H
  refine s_k 2 rfl (s_val rfl rfl (r_nilP rfl rfl) (s_val rfl rfl (r_fa rfl fo185_0 rfl) (s_val rfl rfl (r_fa rfl fo28_2 rfl) (s_val rfl rfl (r_ld rfl ty3 rfl (H.cellI 0 rfl rfl)) (s_val rfl rfl (r_gt rfl rfl rfl) (s_1 rfl (s_nil (q_then ?_))))))))
  refine c_dec rfl (fun h14 => ?_) (fun h14 => ?_)
  ·refine c_seq (c_reg (s_1 rfl (s_nil (q_then (c_ret (q_thenR (q_ret1 rfl rfl ?_)))))))
   have e : wonR J ct R sp att cnt = (R, []) := if_pos (.inr (.inr (.inr (.inr (by omega)))))
   replace H := H.newnil kRec |>.p9 |>.p9 |>.p9 |>.p9 |>.p9 |>.p9 |>.p9 |>.p9 |>.p9
   replace H := redI_shut r (.slice A5 J.us.length c6) vM vC vR vK J cw ct co sb R hv1 vs2 us3 hsets4 H
   replace H := H.h1 (A := redI r (.slice A5 J.us.length c6) vM vC vR vK J cw ct co sb R) |>.p1
   exact fin ⟨[], by rw [e] <;> rfl, by rw [e]; rfl⟩ H
  refine c_skip (q_then (c_seq (c_reg (s_k 5 rfl (s_val rfl rfl (r_nilP rfl rfl) (s_val rfl rfl (r_fa rfl fo181_2 rfl) (s_st rfl rfl rfl ty4 rfl rfl H rfl (by show 14 + ((sp).toNat) * 5 + 2 + 1 ≤ 46; omega) (fun u hu => by simp [Value.cells] at hu; subst hu; rfl) (fun w H => ?_))))))))
  replace H : Hd w0 F0 w [blk r (redC (.slice A5 J.us.length c6) vM vC vR vK J cw ct co R.part R.ep (setD R.g ((sp).toNat) { R.g ((sp).toNat) with told := true }) hv1 sb vs2) 185, osl (kHd kPair) (.slice A5 J.us.length c6) J.us, osl kIns vM J.map, osl kIns vC J.comb, osl kIns vR J.red, osl (kInt .i64) vK J.marks, prsS (R.g) hv1, osl (kHd (kInt .i64)) vs2 us3, stgI 253 sb (R.st)] [] := by rw [← redC_put2 (show (sp).toNat < 6 by omega) true]; exact H
  refine s_val rfl rfl (r_nilP rfl rfl) (s_val rfl rfl (r_fa rfl fo181_3 rfl) (s_st rfl rfl rfl ty3 rfl rfl H rfl (by show 14 + ((sp).toNat) * 5 + 3 + 1 ≤ 46; omega) (fun u hu => by simp [Value.cells] at hu; subst hu; rfl) (fun w H => ?_)))
  replace H : Hd w0 F0 w [blk r (redC (.slice A5 J.us.length c6) vM vC vR vK J cw ct co R.part R.ep (setD (setD R.g ((sp).toNat) { R.g ((sp).toNat) with told := true }) ((sp).toNat) { (setD R.g ((sp).toNat) { R.g ((sp).toNat) with told := true }) ((sp).toNat) with att := att }) hv1 sb vs2) 185, osl (kHd kPair) (.slice A5 J.us.length c6) J.us, osl kIns vM J.map, osl kIns vC J.comb, osl kIns vR J.red, osl (kInt .i64) vK J.marks, prsS (R.g) hv1, osl (kHd (kInt .i64)) vs2 us3, stgI 253 sb (R.st)] [] := by rw [← redC_put3 (show (sp).toNat < 6 by omega) att]; exact H
  refine s_val rfl rfl (r_nilP rfl rfl) (s_val rfl rfl (r_fa rfl fo181_4 rfl) (s_st rfl rfl rfl ty3 rfl rfl H rfl (by show 14 + ((sp).toNat) * 5 + 4 + 1 ≤ 46; omega) (fun u hu => by simp [Value.cells] at hu; subst hu; rfl) (fun w H => ?_)))
  replace H : Hd w0 F0 w [blk r (redC (.slice A5 J.us.length c6) vM vC vR vK J cw ct co R.part R.ep (setD (setD (setD R.g ((sp).toNat) { R.g ((sp).toNat) with told := true }) ((sp).toNat) { (setD R.g ((sp).toNat) { R.g ((sp).toNat) with told := true }) ((sp).toNat) with att := att }) ((sp).toNat) { (setD (setD R.g ((sp).toNat) { R.g ((sp).toNat) with told := true }) ((sp).toNat) { (setD R.g ((sp).toNat) { R.g ((sp).toNat) with told := true }) ((sp).toNat) with att := att }) ((sp).toNat) with cnt := cnt }) hv1 sb vs2) 185, osl (kHd kPair) (.slice A5 J.us.length c6) J.us, osl kIns vM J.map, osl kIns vC J.comb, osl kIns vR J.red, osl (kInt .i64) vK J.marks, prsS (R.g) hv1, osl (kHd (kInt .i64)) vs2 us3, stgI 253 sb (R.st)] [] := by rw [← redC_put4 (show (sp).toNat < 6 by omega) cnt]; exact H
  refine s_nil (q_then (c_seq ?_))
  rw [show setD (setD (setD R.g ((sp).toNat) { R.g ((sp).toNat) with told := true }) ((sp).toNat) { (setD R.g ((sp).toNat) { R.g ((sp).toNat) with told := true }) ((sp).toNat) with att := att }) ((sp).toNat) { (setD (setD R.g ((sp).toNat) { R.g ((sp).toNat) with told := true }) ((sp).toNat) { (setD R.g ((sp).toNat) { R.g ((sp).toNat) with told := true }) ((sp).toNat) with att := att }) ((sp).toNat) with cnt := cnt } = setD R.g (sp).toNat { R.g (sp).toNat with told := true, att := att, cnt := cnt } from by simp only [setD_setD, setD_self]] at H
  replace H : Hd _ _ _ [blk r (redC (.slice A5 J.us.length c6) vM vC vR vK J cw ct co R.part R.ep (setD R.g (sp).toNat { R.g (sp).toNat with told := true, att := att, cnt := cnt }) hv1 sb vs2) 185, osl (kHd kPair) (.slice A5 J.us.length c6) J.us, osl kIns vM J.map, osl kIns vC J.comb, osl kIns vR J.red, osl (kInt .i64) vK J.marks, prsS (R.g) hv1, osl (kHd (kInt .i64)) vs2 us3, stgI 253 sb (R.st)] [] := H
  rw [prsS_congr (g := R.g) (g' := setD R.g (sp).toNat { R.g (sp).toNat with told := true, att := att, cnt := cnt }) (setD_pairs rfl)] at H
  replace H : Hd _ _ _ [blk r (redC (.slice A5 J.us.length c6) vM vC vR vK J cw ct co R.part R.ep (setD R.g (sp).toNat { R.g (sp).toNat with told := true, att := att, cnt := cnt }) hv1 sb vs2) 185, osl (kHd kPair) (.slice A5 J.us.length c6) J.us, osl kIns vM J.map, osl kIns vC J.comb, osl kIns vR J.red, osl (kInt .i64) vK J.marks, prsS (setD R.g (sp).toNat { R.g (sp).toNat with told := true, att := att, cnt := cnt }) hv1, osl (kHd (kInt .i64)) vs2 us3, stgI 253 sb (R.st)] [] := H
  have hB2 : OkR 100000 ({ R with g := setD R.g (sp).toNat { R.g (sp).toNat with told := true, att := att, cnt := cnt } } : Red) := ⟨fun i => by show (setD R.g (sp).toNat { R.g (sp).toNat with told := true, att := att, cnt := cnt } i).pairs.length ≤ 1000; rw [← setD_pairs (k := (sp).toNat) (x := { R.g (sp).toNat with told := true, att := att, cnt := cnt }) rfl]; exact hB.pairs i, hB.st, hB.sets, hB.setl⟩
  replace H := H.h9 (A := blk r (redC (.slice A5 J.us.length c6) vM vC vR vK J cw ct co (({ R with g := setD R.g (sp).toNat { R.g (sp).toNat with told := true, att := att, cnt := cnt } } : Red).part) (({ R with g := setD R.g (sp).toNat { R.g (sp).toNat with told := true, att := att, cnt := cnt } } : Red).ep) (({ R with g := setD R.g (sp).toNat { R.g (sp).toNat with told := true, att := att, cnt := cnt } } : Red).g) hv1 sb vs2) 185) (G := prsS (({ R with g := setD R.g (sp).toNat { R.g (sp).toNat with told := true, att := att, cnt := cnt } } : Red).g) hv1) (J := stgI 253 sb (({ R with g := setD R.g (sp).toNat { R.g (sp).toNat with told := true, att := att, cnt := cnt } } : Red).st))
  replace H := redI_shut r (.slice A5 J.us.length c6) vM vC vR vK J cw ct co sb ({ R with g := setD R.g (sp).toNat { R.g (sp).toNat with told := true, att := att, cnt := cnt } } : Red) hv1 vs2 us3 hsets4 H
  replace H := H.h1 (A := redI r (.slice A5 J.us.length c6) vM vC vR vK J cw ct co sb ({ R with g := setD R.g (sp).toNat { R.g (sp).toNat with told := true, att := att, cnt := cnt } } : Red))
  refine c_reg (s_k 3 rfl (sc (looks_ok r (.slice A5 J.us.length c6) vM vC vR vK J cw ct co sb ({ R with g := setD R.g (sp).toNat { R.g (sp).toNat with told := true, att := att, cnt := cnt } } : Red) sp (by first | assumption | omega) (by first | assumption | omega) (by first | assumption | omega) (by first | assumption | omega)) H l0 rfl rfl (e_fn kn119 rfl rfl) ?_))
  rintro v17 _ w ⟨rs15, rfl, hf16⟩ H
  replace H := H.h2 (A := osl kRec v17 rs15) (B := redI r (.slice A5 J.us.length c6) vM vC vR vK J cw ct co sb ((looksR J ({ R with g := setD R.g (sp).toNat { R.g (sp).toNat with told := true, att := att, cnt := cnt } } : Red) (sp).toNat).1))
  refine s_1 rfl (s_nil (q_then (c_ret (q_ret1 rfl rfl ?_))))
  have e : wonR J ct R sp att cnt = looksR J ({ R with g := setD R.g (sp).toNat { R.g (sp).toNat with told := true, att := att, cnt := cnt } } : Red) (sp).toNat := if_neg (fun h => by rcases h with h | h | h | h | h; exact h hin10; exact absurd h (by rw [h11]; decide); exact absurd h (by rw [h12]; decide); omega; omega)
  exact fin ⟨rs15, by rw [e] <;> rfl, by rw [e]; exact hf16⟩ H
 refine c_reg (s_k 2 rfl (sc (at_no r A5 J.us.length c6 vM vC vR vK J cw ct co R.part R.ep R.g hv1 sb vs2 sp (by first | assumption | omega)) H (lA 0 rfl (fun _ h => h) l0) rfl rfl (e_fn kn118 rfl rfl) ?_))
 rintro _ _ w ⟨rfl, rfl⟩ H
 refine s_1 rfl (s_nil (q_then (c_seq (c_seq (c_reg (s_1 rfl (s_val rfl rfl (r_peq rfl un178 rfl rfl) (s_k 12 rfl (s_k 12 rfl (s_1 rfl (s_nil (q_then (c_yes rfl (c_seq (c_reg (s_1 rfl (s_nil (q_then (c_ret (q_thenR (q_ret1 rfl rfl ?_)))))))))))))))))))))
 have e : wonR J ct R sp att cnt = (R, []) := if_pos (.inl hin10)
 replace H := H.newnil kRec |>.p9 |>.p9 |>.p9 |>.p9 |>.p9 |>.p9 |>.p9 |>.p9 |>.p9
 replace H := redI_shut r (.slice A5 J.us.length c6) vM vC vR vK J cw ct co sb R hv1 vs2 us3 hsets4 H
 replace H := H.h1 (A := redI r (.slice A5 J.us.length c6) vM vC vR vK J cw ct co sb R) |>.p1
 exact fin ⟨[], by rw [e] <;> rfl, by rw [e]; rfl⟩ H
theorem rwon_nil (sp : Int) (att : Int) (cnt : Int) :
    Cn Tryz.prog 49 [.pointer none, .int .i64 sp, .int .i64 att, .int .i64 cnt] [] [] (fun v Bs => v = .slice none 0 0 ∧ Bs = []) := by
 intro w0 F0 H
 refine enter Tryz.func49 rfl rfl (Nat.le_of_ble_eq_true rfl) (c_seq (c_reg (s_1 rfl (s_nil (q_then (c_seq (c_reg (s_k 2 rfl (sc (at_nil sp) H l0 rfl rfl (e_fn kn118 rfl rfl) ?_)))))))))
 rintro _ _ w ⟨rfl, rfl⟩ H
 refine s_1 rfl (s_nil (q_then ?_))
 replace H : Hd _ _ _ [] [] := H
 exact c_seq (c_seq (c_reg (s_1 rfl (s_val rfl rfl (r_peq rfl un178 rfl rfl) (s_k 12 rfl (s_k 12 rfl (s_1 rfl (s_nil (q_then (c_yes rfl (c_seq (c_reg (s_1 rfl (s_nil (q_then (c_ret (q_thenR (q_ret1 rfl rfl (fin ⟨rfl, rfl⟩ H)))))))))))))))))))
theorem rpush_ok (r : Nat) (vS : Value) (vM : Value) (vC : Value) (vR : Value) (vK : Value) (J : Job) (cw : Int) (ct : Int) (co : Int) (sb : Nat) (R : Red) (m : Msg) (vset : Value) (vps : Value) (h6 : J.us.length ≤ 6) (hB : OkR 99999 R) (hmk : J.marks.length ≤ 1000) :
    Cn Tryz.prog 50 [.pointer (some ⟨r, 0, none⟩), .agg #[.int .i64 m.kind, .int .i64 m.sp, .int .i64 m.att, .int .i64 m.part, .int .i64 m.seq, .int .i64 m.next, .int .i64 m.ep, .int .i64 m.why, vset, vps]] [redI r vS vM vC vR vK J cw ct co sb R] [rsl (kInt .i64) vset m.set, rsl kPair vps m.pairs] (fun v Bs => ∃ u : Value, ∃ rs : List Rec, v = .tuple #[.agg #[.int .i64 (((pushR J R m).2.1).kind), .int .i64 (((pushR J R m).2.1).sp), .int .i64 (((pushR J R m).2.1).att), .int .i64 (((pushR J R m).2.1).part), .int .i64 (((pushR J R m).2.1).seq), .int .i64 (((pushR J R m).2.1).next), .int .i64 (((pushR J R m).2.1).ep), .int .i64 (((pushR J R m).2.1).why), .slice none 0 0, .slice none 0 0], u] ∧ Bs = [osl kRec u rs, redI r vS vM vC vR vK J cw ct co sb ((pushR J R m).1)] ∧ (rs.map Rec.p = (pushR J R m).2.2)) := by
 intro w0 F0 H
 obtain ⟨A1, c2, rfl, hc3, hm4, hp5⟩ := H.fR 0 rfl
 obtain ⟨A6, c7, rfl, hc8, hm9, hp10⟩ := H.fR 1 rfl
 replace H : Hd _ _ _ [redI r vS vM vC vR vK J cw ct co sb R] [rsl (kInt .i64) (.slice A1 m.set.length c2) m.set, rsl kPair (.slice A6 m.pairs.length c7) m.pairs] := H
 obtain ⟨hv11, vs12, us13, hsets14, H⟩ := redI_open r vS vM vC vR vK J cw ct co sb R H
 replace H := H.h9 (A := blk r (redC vS vM vC vR vK J cw ct co R.part R.ep R.g hv11 sb vs12) 185) (B := osl (kHd kPair) vS J.us) (C := osl kIns vM J.map) (D := osl kIns vC J.comb) (E := osl kIns vR J.red) (F := osl (kInt .i64) vK J.marks) (G := prsS (R.g) hv11) (I := osl (kHd (kInt .i64)) vs12 us13) (J := stgI 253 sb (R.st))
 obtain ⟨A15, c16, rfl, hc17, hm18, hp19⟩ := H.fA 1 rfl
 refine enter Tryz.func50 rfl rfl (Nat.le_of_ble_eq_true rfl) (c_seq (c_reg (s_box rfl rfl rfl rfl H (fun b20 w H => (s_alloc rfl rfl rfl zr64 H (fun b21 w H => ?_))))))
 replace H := H.h2 (A := blk b21 [.int .i64 0, .int .i64 0, .int .i64 0, .int .i64 0, .int .i64 0, .int .i64 0, .int .i64 0, .int .i64 0, .slice none 0 0, .slice none 0 0] 64) (B := blk b20 [.int .i64 m.kind, .int .i64 m.sp, .int .i64 m.att, .int .i64 m.part, .int .i64 m.seq, .int .i64 m.next, .int .i64 m.ep, .int .i64 m.why, .slice A1 m.set.length c2, .slice A6 m.pairs.length c7] 64)
 refine s_1 rfl (s_nil (q_then (c_seq ?_)))
 by_cases hin22 : 0 ≤ m.sp ∧ m.sp < ((J.us.length : Nat) : Int)
 ·refine c_reg (s_1 rfl (s_val rfl rfl (r_fa rfl fo64_1 rfl) (s_val rfl rfl (r_ld rfl ty3 rfl (H.cellI 1 rfl rfl)) (sc (at_ok r A15 J.us.length c16 vM vC vR vK J cw ct co R.part R.ep R.g hv11 sb vs12 m.sp (by first | assumption | omega) (by first | assumption | omega)) H (lA 2 rfl (fun _ h => h) l0) rfl rfl (e_fn kn118 rfl rfl) ?_))))
  rintro _ _ w ⟨rfl, rfl⟩ H
  refine s_1 rfl (s_nil (q_then (c_seq (c_seq (c_draw mo (by kernel_rfl) H (u_1 rfl (u_val rfl rfl (fun w H => r_peq rfl un178 rfl rfl) (u_1 rfl (u_val rfl rfl (fun w H => r_fa rfl fo64_0 rfl) (u_val rfl rfl (fun w H => r_ld rfl ty3 rfl (H.cellI 1 rfl rfl)) (u_val rfl rfl (fun w H => r_ne rfl rfl rfl) (u_k 2 rfl ?_))))))))))))
  refine u_dec (d := 20) rfl (fun h23 => ?_) (fun h23 => ?_)
  ·refine u_k 8 rfl (u_end (fun w H => (q_then (c_yes rfl (c_seq (c_reg (s_val rfl rfl (r_bd (parts := []) (vs := []) (cs := [.int .i64 0, .int .i64 0, .int .i64 0, .int .i64 0, .int .i64 0, .int .i64 0, .int .i64 0, .int .i64 0, .slice none 0 0, .slice none 0 0]) rfl bd64 rfl rfl) (s_st rfl rfl rfl ty64 rfl rfl H rfl (Nat.le_of_ble_eq_true rfl) (fun u hu => by simp [Value.cells] at hu; rcases hu with rfl | rfl | rfl | rfl | rfl | rfl | rfl | rfl | rfl | rfl <;> rfl) (fun w H => (s_1 rfl (s_nil (q_then (c_ret (q_thenR (q_retCT (cs := [.int .i64 0, .int .i64 0, .int .i64 0, .int .i64 0, .int .i64 0, .int .i64 0, .int .i64 0, .int .i64 0, .slice none 0 0, .slice none 0 0]) (v := .slice none 0 0) rfl rfl rfl ty64 rfl (H.cellsI 0 rfl rfl) ?_)))))))))))))))
   have e : pushR J R m = (R, msg0, []) := pushR_no (.inr (.inl (by omega)))
   replace H := H.newnil kRec |>.pick 11 rfl |>.pick 11 rfl |>.pick 11 rfl |>.pick 11 rfl |>.pick 11 rfl |>.pick 11 rfl |>.pick 11 rfl |>.pick 11 rfl |>.pick 11 rfl |>.k10
   replace H := redI_shut r (.slice A15 J.us.length c16) vM vC vR vK J cw ct co sb R hv11 vs12 us13 hsets14 H
   replace H := H.h1 (A := redI r (.slice A15 J.us.length c16) vM vC vR vK J cw ct co sb R) |>.p1
   exact fin ⟨(.slice none 0 0), [], by rw [e] <;> rfl, by rw [e] <;> rfl, by rw [e]; rfl⟩ H
  refine u_val rfl rfl (fun w H => r_fa rfl fo64_3 rfl) (u_val rfl rfl (fun w H => r_ld rfl ty3 rfl (H.cellI 1 rfl rfl)) (u_1 rfl (u_val rfl rfl (fun w H => r_nilP rfl rfl) (u_val rfl rfl (fun w H => r_fa rfl fo185_1 rfl) (u_val rfl rfl (fun w H => r_ld rfl ty3 rfl (H.cellI 2 rfl rfl)) (u_val rfl rfl (fun w H => r_ne rfl rfl rfl) (u_1 rfl (u_end (fun w H => (q_then ?_))))))))))
  refine c_dec rfl (fun h24 => ?_) (fun h24 => ?_)
  ·refine c_seq (c_reg (s_val rfl rfl (r_bd (parts := []) (vs := []) (cs := [.int .i64 0, .int .i64 0, .int .i64 0, .int .i64 0, .int .i64 0, .int .i64 0, .int .i64 0, .int .i64 0, .slice none 0 0, .slice none 0 0]) rfl bd64 rfl rfl) (s_st rfl rfl rfl ty64 rfl rfl H rfl (Nat.le_of_ble_eq_true rfl) (fun u hu => by simp [Value.cells] at hu; rcases hu with rfl | rfl | rfl | rfl | rfl | rfl | rfl | rfl | rfl | rfl <;> rfl) (fun w H => ?_))))
   replace H : Hd _ _ _ [blk b21 [.int .i64 0, .int .i64 0, .int .i64 0, .int .i64 0, .int .i64 0, .int .i64 0, .int .i64 0, .int .i64 0, .slice none 0 0, .slice none 0 0] 64, blk b20 [.int .i64 m.kind, .int .i64 m.sp, .int .i64 m.att, .int .i64 m.part, .int .i64 m.seq, .int .i64 m.next, .int .i64 m.ep, .int .i64 m.why, .slice A1 m.set.length c2, .slice A6 m.pairs.length c7] 64, blk r (redC (.slice A15 J.us.length c16) vM vC vR vK J cw ct co R.part R.ep R.g hv11 sb vs12) 185, osl (kHd kPair) (.slice A15 J.us.length c16) J.us, osl kIns vM J.map, osl kIns vC J.comb, osl kIns vR J.red, osl (kInt .i64) vK J.marks, prsS (R.g) hv11, osl (kHd (kInt .i64)) vs12 us13, stgI 253 sb (R.st)] [rsl (kInt .i64) (.slice A1 m.set.length c2) m.set, rsl kPair (.slice A6 m.pairs.length c7) m.pairs] := H
   refine s_1 rfl (s_nil (q_then (c_ret (q_thenR (q_retCT (cs := [.int .i64 0, .int .i64 0, .int .i64 0, .int .i64 0, .int .i64 0, .int .i64 0, .int .i64 0, .int .i64 0, .slice none 0 0, .slice none 0 0]) (v := .slice none 0 0) rfl rfl rfl ty64 rfl (H.cellsI 0 rfl rfl) ?_)))))
   have e : pushR J R m = (R, msg0, []) := pushR_no (.inr (.inr (by omega)))
   replace H := H.newnil kRec |>.pick 11 rfl |>.pick 11 rfl |>.pick 11 rfl |>.pick 11 rfl |>.pick 11 rfl |>.pick 11 rfl |>.pick 11 rfl |>.pick 11 rfl |>.pick 11 rfl |>.k10
   replace H := redI_shut r (.slice A15 J.us.length c16) vM vC vR vK J cw ct co sb R hv11 vs12 us13 hsets14 H
   replace H := H.h1 (A := redI r (.slice A15 J.us.length c16) vM vC vR vK J cw ct co sb R) |>.p1
   exact fin ⟨(.slice none 0 0), [], by rw [e] <;> rfl, by rw [e] <;> rfl, by rw [e]; rfl⟩ H
  refine c_skip (q_then (c_seq (c_ord (.e 0 (.e 1 (.e 2 (.e 3 (.e 4 (.e 5 (.e 6 (.e 7 (.e 8 (.e 9 (.e 10 (.e 11 (.e 12 (.m 13 (.m 14 .z))))))))))))))) (fun w => ∃ Ar, Hd w0 F0 w (blk b21 [.int .i64 0, .int .i64 0, .int .i64 0, .int .i64 0, .int .i64 0, .int .i64 0, .int .i64 0, .int .i64 0, .slice none 0 0, .slice none 0 0] 64 :: blk b20 [.int .i64 m.kind, .int .i64 m.sp, .int .i64 m.att, .int .i64 m.part, .int .i64 m.seq, .int .i64 m.next, .int .i64 m.ep, .int .i64 m.why, .slice A1 m.set.length c2, .slice A6 m.pairs.length c7] 64 :: blk r (redC (.slice A15 J.us.length c16) vM vC vR vK J cw ct co R.part R.ep R.g hv11 sb vs12) 185 :: osl (kHd kPair) (.slice A15 J.us.length c16) J.us :: osl kIns vM J.map :: osl kIns vC J.comb :: osl kIns vR J.red :: osl (kInt .i64) vK J.marks :: prsS (R.g) hv11 :: osl (kHd (kInt .i64)) vs12 us13 :: stgI 253 sb (R.st) :: Ar) [rsl (kInt .i64) (.slice A1 m.set.length c2) m.set, rsl kPair (.slice A6 m.pairs.length c7) m.pairs]) mo (by kernel_rfl) (fun w H => ⟨_, H⟩) H (fun w H => ?_))))
  refine d_val rfl rfl rfl (fun w ⟨Ar, H⟩ => r_fa rfl fo64_1 rfl) (d_val rfl rfl rfl (fun w ⟨Ar, H⟩ => r_ld rfl ty3 rfl (H.cellI 1 rfl rfl)) (d_val rfl rfl rfl (fun w ⟨Ar, H⟩ => r_fa rfl fo64_2 rfl) (d_val rfl rfl rfl (fun w ⟨Ar, H⟩ => r_ld rfl ty3 rfl (H.cellI 1 rfl rfl)) (d_1 rfl (d_val rfl rfl rfl (fun w ⟨Ar, H⟩ => r_nilP rfl rfl) (d_val rfl rfl rfl (fun w ⟨Ar, H⟩ => r_fa rfl fo185_1 rfl) (d_val rfl rfl rfl (fun w ⟨Ar, H⟩ => r_ld rfl ty3 rfl (H.cellI 2 rfl rfl)) (d_1 rfl (d_val rfl rfl rfl (fun w ⟨Ar, H⟩ => r_nilP rfl rfl) (d_val rfl rfl rfl (fun w ⟨Ar, H⟩ => r_fa rfl fo185_2 rfl) (d_val rfl rfl rfl (fun w ⟨Ar, H⟩ => r_ld rfl ty3 rfl (H.cellI 2 rfl rfl)) (d_val rfl rfl rfl (fun w ⟨Ar, H⟩ => r_bd (parts := [(0, .const (.int .i64 3)), (1, .tmp 31), (2, .tmp 33), (3, .tmp 37), (6, .tmp 41)]) (vs := [.int .i64 3, .int .i64 m.sp, .int .i64 m.att, .int .i64 R.part, .int .i64 R.ep]) (cs := [.int .i64 3, .int .i64 m.sp, .int .i64 m.att, .int .i64 R.part, .int .i64 0, .int .i64 0, .int .i64 R.ep, .int .i64 0, .slice none 0 0, .slice none 0 0]) rfl bd64 rfl rfl) ?_))))))))))))
  refine d_main rfl (s_alloc rfl rfl rfl zr64 H (fun b25 w H => ?_))
  replace H : Hd _ _ _ [blk b25 [.int .i64 0, .int .i64 0, .int .i64 0, .int .i64 0, .int .i64 0, .int .i64 0, .int .i64 0, .int .i64 0, .slice none 0 0, .slice none 0 0] 64, blk b21 [.int .i64 0, .int .i64 0, .int .i64 0, .int .i64 0, .int .i64 0, .int .i64 0, .int .i64 0, .int .i64 0, .slice none 0 0, .slice none 0 0] 64, blk b20 [.int .i64 m.kind, .int .i64 m.sp, .int .i64 m.att, .int .i64 m.part, .int .i64 m.seq, .int .i64 m.next, .int .i64 m.ep, .int .i64 m.why, .slice A1 m.set.length c2, .slice A6 m.pairs.length c7] 64, blk r (redC (.slice A15 J.us.length c16) vM vC vR vK J cw ct co R.part R.ep R.g hv11 sb vs12) 185, osl (kHd kPair) (.slice A15 J.us.length c16) J.us, osl kIns vM J.map, osl kIns vC J.comb, osl kIns vR J.red, osl (kInt .i64) vK J.marks, prsS (R.g) hv11, osl (kHd (kInt .i64)) vs12 us13, stgI 253 sb (R.st)] [rsl (kInt .i64) (.slice A1 m.set.length c2) m.set, rsl kPair (.slice A6 m.pairs.length c7) m.pairs] := H
  replace H := H.pick 11 rfl |>.pick 11 rfl |>.pick 11 rfl |>.pick 11 rfl |>.pick 11 rfl |>.pick 11 rfl |>.pick 11 rfl |>.pick 11 rfl |>.pick 11 rfl |>.pick 11 rfl |>.pick 11 rfl
  refine d_back ⟨_, H⟩ (d_main rfl ?_)
  replace H := H.pick 11 rfl
  refine s_st rfl rfl rfl ty64 rfl rfl H rfl (Nat.le_of_ble_eq_true rfl) (fun u hu => by simp [Value.cells] at hu; rcases hu with rfl | rfl | rfl | rfl | rfl | rfl | rfl | rfl | rfl | rfl <;> rfl) (fun w H => ?_)
  replace H := H.h1 (A := blk b25 [.int .i64 3, .int .i64 m.sp, .int .i64 m.att, .int .i64 R.part, .int .i64 0, .int .i64 0, .int .i64 R.ep, .int .i64 0, .slice none 0 0, .slice none 0 0] 64) |>.pick 11 rfl |>.pick 11 rfl |>.pick 11 rfl |>.pick 11 rfl |>.pick 11 rfl |>.pick 11 rfl |>.pick 11 rfl |>.pick 11 rfl |>.pick 11 rfl |>.pick 11 rfl |>.pick 11 rfl
  refine d_back ⟨_, H⟩ (d_nil (q_then (c_seq (c_reg (s_1 rfl (s_nil (q_then (c_seq (c_seq (c_reg (s_1 rfl (s_val rfl rfl (r_nilP rfl rfl) (s_val rfl rfl (r_fa rfl fo181_0 rfl) (s_val rfl rfl (r_ld rfl ty4 rfl (H.cellI 2 rfl (redC_at0 (by omega)))) (s_val rfl rfl (r_not rfl rfl rfl) (s_1 rfl ?_))))))))))))))))
  refine s_boo (d := 48) (b := !((R.g ((m.sp).toNat)).merged)) rfl (fun h26 => ?_) (fun h26 => ?_)
  ·refine s_val rfl rfl (r_fa rfl fo64_9 rfl) (s_val rfl rfl (r_ld rfl ty35 rfl (H.cellI 1 rfl rfl)) (s_val rfl rfl (r_lenL rfl un35 rfl) (s_val rfl rfl (r_le rfl rfl rfl) (s_k 2 rfl ?_))))
   refine s_dec (d := 54) rfl (fun h27 => ?_) (fun h27 => ?_)
   ·refine s_val rfl rfl (r_fa rfl fo64_9 rfl) (s_val rfl rfl (r_ld rfl ty35 rfl (H.cellI 1 rfl rfl)) (sc (pMayL_ok (.slice A6 m.pairs.length c7) m.pairs) H (lR 1 rfl l0) rfl rfl (e_fn kn120 rfl rfl) ?_))
    rintro _ _ w ⟨rfl, rfl⟩ H
    refine s_1 rfl (s_nil (q_then ?_))
    refine c_dec rfl (fun h28 => ?_) (fun h28 => ?_)
    ·refine c_seq ?_
     replace H := H.sel 12 [0, 1, 2, 3, 4, 5, 6, 7, 8, 9, 11, 10] [] rfl (by kernel_rfl)
     replace H : Hd _ _ _ [blk b21 [.int .i64 0, .int .i64 0, .int .i64 0, .int .i64 0, .int .i64 0, .int .i64 0, .int .i64 0, .int .i64 0, .slice none 0 0, .slice none 0 0] 64, blk b20 [.int .i64 m.kind, .int .i64 m.sp, .int .i64 m.att, .int .i64 m.part, .int .i64 m.seq, .int .i64 m.next, .int .i64 m.ep, .int .i64 m.why, .slice A1 m.set.length c2, .slice A6 m.pairs.length c7] 64, blk r (redC (.slice A15 J.us.length c16) vM vC vR vK J cw ct co R.part R.ep R.g hv11 sb vs12) 185, osl (kHd kPair) (.slice A15 J.us.length c16) J.us, osl kIns vM J.map, osl kIns vC J.comb, osl kIns vR J.red, osl (kInt .i64) vK J.marks, prsS (R.g) hv11, osl (kHd (kInt .i64)) vs12 us13, blk b25 [.int .i64 3, .int .i64 m.sp, .int .i64 m.att, .int .i64 R.part, .int .i64 0, .int .i64 0, .int .i64 R.ep, .int .i64 0, .slice none 0 0, .slice none 0 0] 64, stgI 253 sb (R.st)] [rsl (kInt .i64) (.slice A1 m.set.length c2) m.set, rsl kPair (.slice A6 m.pairs.length c7) m.pairs] := H
     refine c_ord (.e 0 (.e 1 (.e 2 (.e 3 (.e 4 (.e 5 (.e 6 (.e 7 (.e 8 (.e 9 (.e 10 (.e 11 (.m 12 .z))))))))))))) (fun w => ∃ Ar, Hd w0 F0 w (blk b21 [.int .i64 0, .int .i64 0, .int .i64 0, .int .i64 0, .int .i64 0, .int .i64 0, .int .i64 0, .int .i64 0, .slice none 0 0, .slice none 0 0] 64 :: blk b20 [.int .i64 m.kind, .int .i64 m.sp, .int .i64 m.att, .int .i64 m.part, .int .i64 m.seq, .int .i64 m.next, .int .i64 m.ep, .int .i64 m.why, .slice A1 m.set.length c2, .slice A6 m.pairs.length c7] 64 :: blk r (redC (.slice A15 J.us.length c16) vM vC vR vK J cw ct co R.part R.ep R.g hv11 sb vs12) 185 :: osl (kHd kPair) (.slice A15 J.us.length c16) J.us :: osl kIns vM J.map :: osl kIns vC J.comb :: osl kIns vR J.red :: osl (kInt .i64) vK J.marks :: prsS (R.g) hv11 :: osl (kHd (kInt .i64)) vs12 us13 :: blk b25 [.int .i64 3, .int .i64 m.sp, .int .i64 m.att, .int .i64 R.part, .int .i64 0, .int .i64 0, .int .i64 R.ep, .int .i64 0, .slice none 0 0, .slice none 0 0] 64 :: Ar) [rsl (kInt .i64) (.slice A1 m.set.length c2) m.set, rsl kPair (.slice A6 m.pairs.length c7) m.pairs]) mo (by kernel_rfl) (fun w H => ⟨_, H⟩) H (fun w H => ?_)
     refine d_1 rfl (d_val rfl rfl rfl (fun w ⟨Ar, H⟩ => r_nilP rfl rfl) (d_val rfl rfl rfl (fun w ⟨Ar, H⟩ => r_fa rfl fo185_4 rfl) (d_val rfl rfl rfl (fun w ⟨Ar, H⟩ => r_ld rfl ty183 rfl (H.cellI 2 rfl rfl)) (d_val rfl rfl rfl (fun w ⟨Ar, H⟩ => r_fa rfl fo64_1 rfl) (d_val rfl rfl rfl (fun w ⟨Ar, H⟩ => r_ld rfl ty3 rfl (H.cellI 1 rfl rfl)) (d_val rfl rfl rfl (fun w ⟨Ar, H⟩ => r_fa rfl fo64_2 rfl) (d_val rfl rfl rfl (fun w ⟨Ar, H⟩ => r_ld rfl ty3 rfl (H.cellI 1 rfl rfl)) (d_val rfl rfl rfl (fun w ⟨Ar, H⟩ => r_fa rfl fo64_4 rfl) (d_val rfl rfl rfl (fun w ⟨Ar, H⟩ => r_ld rfl ty3 rfl (H.cellI 1 rfl rfl)) (d_val rfl rfl rfl (fun w ⟨Ar, H⟩ => r_fa rfl fo64_9 rfl) (d_val rfl rfl rfl (fun w ⟨Ar, H⟩ => r_ld rfl ty35 rfl (H.cellI 1 rfl rfl)) (d_main rfl ?_))))))))))))
     replace H := H.pick 11 rfl
     refine sc (stPut_ok sb R.st m.sp m.att m.seq (.slice A6 m.pairs.length c7) m.pairs (by first | assumption | omega)) H (lR 1 rfl l0) rfl rfl (e_fn kn121 rfl rfl) ?_
     rintro _ _ w ⟨rfl, rfl⟩ H
     replace H := H.h1 (A := stgI 253 sb (sgPut R.st m.sp m.att m.seq m.pairs)) |>.pick 11 rfl |>.pick 11 rfl |>.pick 11 rfl |>.pick 11 rfl |>.pick 11 rfl |>.pick 11 rfl |>.pick 11 rfl |>.pick 11 rfl |>.pick 11 rfl |>.pick 11 rfl |>.pick 11 rfl
     refine d_back ⟨_, H⟩ (d_nil (q_then (c_reg (s_1 rfl (s_val rfl rfl (r_fa rfl fo64_1 rfl) (s_val rfl rfl (r_ld rfl ty3 rfl (H.cellI 1 rfl rfl)) (s_1 rfl ?_)))))))
     have hB2 : OkR 100000 ({ R with st := sgPut R.st m.sp m.att m.seq m.pairs } : Red) := ⟨hB.pairs, hB.st.put (by omega), Nat.le_succ_of_le hB.sets, hB.setl⟩
     replace H := H.pick 11 rfl |>.pick 10 rfl |>.pick 10 rfl |>.pick 10 rfl |>.pick 10 rfl |>.pick 10 rfl |>.pick 10 rfl |>.pick 10 rfl |>.pick 10 rfl |>.h9 (A := blk r (redC (.slice A15 J.us.length c16) vM vC vR vK J cw ct co (({ R with st := sgPut R.st m.sp m.att m.seq m.pairs } : Red).part) (({ R with st := sgPut R.st m.sp m.att m.seq m.pairs } : Red).ep) (({ R with st := sgPut R.st m.sp m.att m.seq m.pairs } : Red).g) hv11 sb vs12) 185) (G := prsS (({ R with st := sgPut R.st m.sp m.att m.seq m.pairs } : Red).g) hv11) (J := stgI 253 sb (({ R with st := sgPut R.st m.sp m.att m.seq m.pairs } : Red).st))
     replace H := redI_shut r (.slice A15 J.us.length c16) vM vC vR vK J cw ct co sb ({ R with st := sgPut R.st m.sp m.att m.seq m.pairs } : Red) hv11 vs12 us13 hsets14 H
     replace H := H.h1 (A := redI r (.slice A15 J.us.length c16) vM vC vR vK J cw ct co sb ({ R with st := sgPut R.st m.sp m.att m.seq m.pairs } : Red))
     refine sc (looks_ok r (.slice A15 J.us.length c16) vM vC vR vK J cw ct co sb ({ R with st := sgPut R.st m.sp m.att m.seq m.pairs } : Red) m.sp (by first | assumption | omega) (by first | assumption | omega) (by first | assumption | omega) (by first | assumption | omega)) H l0 rfl rfl (e_fn kn119 rfl rfl) ?_
     rintro v31 _ w ⟨rs29, rfl, hf30⟩ H
     obtain ⟨R32, hR33⟩ : ∃ z : Red, z = (looksR J ({ R with st := sgPut R.st m.sp m.att m.seq m.pairs } : Red) (m.sp).toNat).1 := ⟨_, rfl⟩
     rw [← hR33] at H
     replace H : Hd _ _ _ [osl kRec v31 rs29, redI r (.slice A15 J.us.length c16) vM vC vR vK J cw ct co sb R32, blk b21 [.int .i64 0, .int .i64 0, .int .i64 0, .int .i64 0, .int .i64 0, .int .i64 0, .int .i64 0, .int .i64 0, .slice none 0 0, .slice none 0 0] 64, blk b20 [.int .i64 m.kind, .int .i64 m.sp, .int .i64 m.att, .int .i64 m.part, .int .i64 m.seq, .int .i64 m.next, .int .i64 m.ep, .int .i64 m.why, .slice A1 m.set.length c2, .slice A6 m.pairs.length c7] 64, blk b25 [.int .i64 3, .int .i64 m.sp, .int .i64 m.att, .int .i64 R.part, .int .i64 0, .int .i64 0, .int .i64 R.ep, .int .i64 0, .slice none 0 0, .slice none 0 0] 64] [rsl (kInt .i64) (.slice A1 m.set.length c2) m.set, rsl kPair (.slice A6 m.pairs.length c7) m.pairs] := H
     replace H := H.p1
     obtain ⟨hv34, vs35, us36, hsets37, H⟩ := redI_open r (.slice A15 J.us.length c16) vM vC vR vK J cw ct co sb R32 H
     replace H := H.h9 (A := blk r (redC (.slice A15 J.us.length c16) vM vC vR vK J cw ct co R32.part R32.ep R32.g hv34 sb vs35) 185) (B := osl (kHd kPair) (.slice A15 J.us.length c16) J.us) (C := osl kIns vM J.map) (D := osl kIns vC J.comb) (E := osl kIns vR J.red) (F := osl (kInt .i64) vK J.marks) (G := prsS (R32.g) hv34) (I := osl (kHd (kInt .i64)) vs35 us36) (J := stgI 253 sb (R32.st))
     refine s_1 rfl (s_nil (q_then (c_seq (c_ord (.e 0 (.e 1 (.e 2 (.e 3 (.e 4 (.e 5 (.e 6 (.e 7 (.m 8 (.e 9 (.m 10 .z))))))))))) (fun w => ∃ Ar, Hd w0 F0 w (blk r (redC (.slice A15 J.us.length c16) vM vC vR vK J cw ct co R32.part R32.ep R32.g hv34 sb vs35) 185 :: osl (kHd kPair) (.slice A15 J.us.length c16) J.us :: osl kIns vM J.map :: osl kIns vC J.comb :: osl kIns vR J.red :: osl (kInt .i64) vK J.marks :: prsS (R32.g) hv34 :: osl (kHd (kInt .i64)) vs35 us36 :: stgI 253 sb (R32.st) :: osl kRec v31 rs29 :: blk b21 [.int .i64 0, .int .i64 0, .int .i64 0, .int .i64 0, .int .i64 0, .int .i64 0, .int .i64 0, .int .i64 0, .slice none 0 0, .slice none 0 0] 64 :: blk b20 [.int .i64 m.kind, .int .i64 m.sp, .int .i64 m.att, .int .i64 m.part, .int .i64 m.seq, .int .i64 m.next, .int .i64 m.ep, .int .i64 m.why, .slice A1 m.set.length c2, .slice A6 m.pairs.length c7] 64 :: Ar) [rsl (kInt .i64) (.slice A1 m.set.length c2) m.set, rsl kPair (.slice A6 m.pairs.length c7) m.pairs]) mo (by kernel_rfl) (fun w H => ⟨_, H⟩) H (fun w H => ?_)))))
     refine d_1 rfl (d_val rfl rfl rfl (fun w ⟨Ar, H⟩ => r_nilP rfl rfl) (d_val rfl rfl rfl (fun w ⟨Ar, H⟩ => r_fa rfl fo185_4 rfl) (d_val rfl rfl rfl (fun w ⟨Ar, H⟩ => r_ld rfl ty183 rfl (H.cellI 0 rfl rfl)) (d_val rfl rfl rfl (fun w ⟨Ar, H⟩ => r_fa rfl fo64_1 rfl) (d_val rfl rfl rfl (fun w ⟨Ar, H⟩ => r_ld rfl ty3 rfl (H.cellI 11 rfl rfl)) (d_val rfl rfl rfl (fun w ⟨Ar, H⟩ => r_fa rfl fo64_2 rfl) (d_val rfl rfl rfl (fun w ⟨Ar, H⟩ => r_ld rfl ty3 rfl (H.cellI 11 rfl rfl)) (d_main rfl ?_))))))))
     replace H := H.p8
     refine sc (stNext_ok sb R32.st m.sp m.att) H l0 rfl rfl (e_fn kn122 rfl rfl) ?_
     rintro _ _ w ⟨rfl, rfl⟩ H
     replace H := H.p8.p8.p8.p8.p8.p8.p8.p8
     refine d_back ⟨_, H⟩ (d_val rfl rfl rfl (fun w ⟨Ar, H⟩ => r_fa rfl fo64_5 rfl) (d_main rfl ?_))
     replace H := H.pick 12 rfl
     refine s_st rfl rfl rfl ty3 rfl rfl H rfl (Nat.le_of_ble_eq_true rfl) (fun u hu => by simp [Value.cells] at hu; subst hu; rfl) (fun w H => ?_)
     replace H := H.h1 (A := blk b25 [.int .i64 3, .int .i64 m.sp, .int .i64 m.att, .int .i64 R.part, .int .i64 0, .int .i64 (sgNext R32.st m.sp m.att), .int .i64 R.ep, .int .i64 0, .slice none 0 0, .slice none 0 0] 64) |>.pick 12 rfl |>.pick 12 rfl |>.pick 12 rfl |>.pick 12 rfl |>.pick 12 rfl |>.pick 12 rfl |>.pick 12 rfl |>.pick 12 rfl |>.pick 12 rfl |>.pick 12 rfl |>.pick 12 rfl |>.pick 12 rfl
     refine d_back ⟨_, H⟩ (d_nil (q_then (c_seq (c_seq (c_reg (s_1 rfl (s_val rfl rfl (r_nilP rfl rfl) (s_val rfl rfl (r_fa rfl fo181_0 rfl) (s_val rfl rfl (r_ld rfl ty4 rfl (H.cellI 0 rfl (redC_at0 (by omega)))) (s_nil (q_then ?_)))))))))))
     refine c_cond (b := (R32.g ((m.sp).toNat)).merged) rfl (fun h38 => ?_) (fun h38 => ?_)
     ·refine c_reg (s_val rfl rfl (r_fa rfl fo64_5 rfl) ?_)
      replace H := H.pick 12 rfl
      refine s_st rfl rfl rfl ty3 rfl rfl H rfl (Nat.le_of_ble_eq_true rfl) (fun u hu => by simp [Value.cells] at hu; subst hu; rfl) (fun w H => ?_)
      replace H := H.h1 (A := blk b25 [.int .i64 3, .int .i64 m.sp, .int .i64 m.att, .int .i64 R.part, .int .i64 0, .int .i64 40, .int .i64 R.ep, .int .i64 0, .slice none 0 0, .slice none 0 0] 64)
      refine s_nil (q_then (c_seq (c_reg (s_val rfl rfl (r_ldA (cs := [.int .i64 3, .int .i64 m.sp, .int .i64 m.att, .int .i64 R.part, .int .i64 0, .int .i64 40, .int .i64 R.ep, .int .i64 0, .slice none 0 0, .slice none 0 0]) rfl ty64 rfl rfl (H.cellsI 0 rfl rfl)) (s_1 rfl ?_)))))
      replace H := H.pick 11 rfl
      refine s_st rfl rfl rfl ty64 rfl rfl H rfl (Nat.le_of_ble_eq_true rfl) (fun u hu => by simp [Value.cells] at hu; rcases hu with rfl | rfl | rfl | rfl | rfl | rfl | rfl | rfl | rfl | rfl <;> rfl) (fun w H => ?_)
      replace H := H.h1 (A := blk b21 [.int .i64 3, .int .i64 m.sp, .int .i64 m.att, .int .i64 R.part, .int .i64 0, .int .i64 40, .int .i64 R.ep, .int .i64 0, .slice none 0 0, .slice none 0 0] 64)
      refine s_1 rfl (s_nil (q_then (c_ret (q_retCT (cs := [.int .i64 3, .int .i64 m.sp, .int .i64 m.att, .int .i64 R.part, .int .i64 0, .int .i64 40, .int .i64 R.ep, .int .i64 0, .slice none 0 0, .slice none 0 0]) (v := v31) rfl rfl rfl ty64 rfl (H.cellsI 0 rfl rfl) ?_))))
      have hno : ¬ pushNo J R m := fun h => by rcases h with h | h | h; exact h hin22; omega; omega
      have ht : pushTakes R m := ⟨by simpa using h26, by omega, by simpa using h28⟩
      have hp := looks_part J ({ R with st := sgPut R.st m.sp m.att m.seq m.pairs } : Red) (m.sp).toNat
      rw [← hR33] at hp
      have e : pushR J R m = (R32, ⟨3, m.sp, m.att, R.part, 0, 40, R.ep, 0, [], []⟩, (looksR J ({ R with st := sgPut R.st m.sp m.att m.seq m.pairs } : Red) (m.sp).toNat).2) := by rw [pushR_yes hno, pushS_yes ht, ← hR33, ackR_is hp.1 hp.2 (if_pos (by simpa using h38))]
      replace H := H.pick 11 rfl |>.pick 11 rfl |>.pick 11 rfl |>.pick 11 rfl |>.pick 11 rfl |>.pick 11 rfl |>.pick 11 rfl |>.pick 11 rfl |>.pick 11 rfl |>.pick 11 rfl |>.k10
      replace H := redI_shut r (.slice A15 J.us.length c16) vM vC vR vK J cw ct co sb R32 hv34 vs35 us36 hsets37 H
      replace H := H.h1 (A := redI r (.slice A15 J.us.length c16) vM vC vR vK J cw ct co sb R32) |>.p1
      exact fin ⟨v31, rs29, by rw [e] <;> rfl, by rw [e] <;> rfl, by rw [e]; exact hf30⟩ H
     refine c_skip (q_then (c_seq (c_reg (s_val rfl rfl (r_ldA (cs := [.int .i64 3, .int .i64 m.sp, .int .i64 m.att, .int .i64 R.part, .int .i64 0, .int .i64 (sgNext R32.st m.sp m.att), .int .i64 R.ep, .int .i64 0, .slice none 0 0, .slice none 0 0]) rfl ty64 rfl rfl (H.cellsI 12 rfl rfl)) (s_1 rfl ?_)))))
     replace H := H.pick 10 rfl
     refine s_st rfl rfl rfl ty64 rfl rfl H rfl (Nat.le_of_ble_eq_true rfl) (fun u hu => by simp [Value.cells] at hu; rcases hu with rfl | rfl | rfl | rfl | rfl | rfl | rfl | rfl | rfl | rfl <;> rfl) (fun w H => ?_)
     replace H := H.h1 (A := blk b21 [.int .i64 3, .int .i64 m.sp, .int .i64 m.att, .int .i64 R.part, .int .i64 0, .int .i64 (sgNext R32.st m.sp m.att), .int .i64 R.ep, .int .i64 0, .slice none 0 0, .slice none 0 0] 64)
     refine s_1 rfl (s_nil (q_then (c_ret (q_retCT (cs := [.int .i64 3, .int .i64 m.sp, .int .i64 m.att, .int .i64 R.part, .int .i64 0, .int .i64 (sgNext R32.st m.sp m.att), .int .i64 R.ep, .int .i64 0, .slice none 0 0, .slice none 0 0]) (v := v31) rfl rfl rfl ty64 rfl (H.cellsI 0 rfl rfl) ?_))))
     have hno : ¬ pushNo J R m := fun h => by rcases h with h | h | h; exact h hin22; omega; omega
     have ht : pushTakes R m := ⟨by simpa using h26, by omega, by simpa using h28⟩
     have hp := looks_part J ({ R with st := sgPut R.st m.sp m.att m.seq m.pairs } : Red) (m.sp).toNat
     rw [← hR33] at hp
     have e : pushR J R m = (R32, ⟨3, m.sp, m.att, R.part, 0, sgNext R32.st m.sp m.att, R.ep, 0, [], []⟩, (looksR J ({ R with st := sgPut R.st m.sp m.att m.seq m.pairs } : Red) (m.sp).toNat).2) := by rw [pushR_yes hno, pushS_yes ht, ← hR33, ackR_is hp.1 hp.2 (if_neg (by simpa using h38))]
     replace H := H.pick 10 rfl |>.pick 10 rfl |>.pick 10 rfl |>.pick 10 rfl |>.pick 10 rfl |>.pick 10 rfl |>.pick 10 rfl |>.pick 10 rfl |>.pick 10 rfl |>.pick 10 rfl |>.k10
     replace H := redI_shut r (.slice A15 J.us.length c16) vM vC vR vK J cw ct co sb R32 hv34 vs35 us36 hsets37 H
     replace H := H.h1 (A := redI r (.slice A15 J.us.length c16) vM vC vR vK J cw ct co sb R32) |>.p1
     exact fin ⟨v31, rs29, by rw [e] <;> rfl, by rw [e] <;> rfl, by rw [e]; exact hf30⟩ H
    refine c_skip (q_then (c_seq (c_ord (.e 0 (.e 1 (.e 2 (.e 3 (.e 4 (.e 5 (.e 6 (.e 7 (.m 8 (.e 9 (.m 10 .z))))))))))) (fun w => ∃ Ar, Hd w0 F0 w (blk b21 [.int .i64 0, .int .i64 0, .int .i64 0, .int .i64 0, .int .i64 0, .int .i64 0, .int .i64 0, .int .i64 0, .slice none 0 0, .slice none 0 0] 64 :: blk b20 [.int .i64 m.kind, .int .i64 m.sp, .int .i64 m.att, .int .i64 m.part, .int .i64 m.seq, .int .i64 m.next, .int .i64 m.ep, .int .i64 m.why, .slice A1 m.set.length c2, .slice A6 m.pairs.length c7] 64 :: blk r (redC (.slice A15 J.us.length c16) vM vC vR vK J cw ct co R.part R.ep R.g hv11 sb vs12) 185 :: osl (kHd kPair) (.slice A15 J.us.length c16) J.us :: osl kIns vM J.map :: osl kIns vC J.comb :: osl kIns vR J.red :: osl (kInt .i64) vK J.marks :: prsS (R.g) hv11 :: osl (kHd (kInt .i64)) vs12 us13 :: stgI 253 sb (R.st) :: Ar) [rsl (kInt .i64) (.slice A1 m.set.length c2) m.set, rsl kPair (.slice A6 m.pairs.length c7) m.pairs]) mo (by kernel_rfl) (fun w H => ⟨_, H⟩) H (fun w H => ?_))))
    refine d_1 rfl (d_val rfl rfl rfl (fun w ⟨Ar, H⟩ => r_nilP rfl rfl) (d_val rfl rfl rfl (fun w ⟨Ar, H⟩ => r_fa rfl fo185_4 rfl) (d_val rfl rfl rfl (fun w ⟨Ar, H⟩ => r_ld rfl ty183 rfl (H.cellI 2 rfl rfl)) (d_val rfl rfl rfl (fun w ⟨Ar, H⟩ => r_fa rfl fo64_1 rfl) (d_val rfl rfl rfl (fun w ⟨Ar, H⟩ => r_ld rfl ty3 rfl (H.cellI 1 rfl rfl)) (d_val rfl rfl rfl (fun w ⟨Ar, H⟩ => r_fa rfl fo64_2 rfl) (d_val rfl rfl rfl (fun w ⟨Ar, H⟩ => r_ld rfl ty3 rfl (H.cellI 1 rfl rfl)) (d_main rfl ?_))))))))
    replace H := H.pick 10 rfl
    replace H : Hd _ _ _ [stgI 253 sb (R.st), blk b21 [.int .i64 0, .int .i64 0, .int .i64 0, .int .i64 0, .int .i64 0, .int .i64 0, .int .i64 0, .int .i64 0, .slice none 0 0, .slice none 0 0] 64, blk b20 [.int .i64 m.kind, .int .i64 m.sp, .int .i64 m.att, .int .i64 m.part, .int .i64 m.seq, .int .i64 m.next, .int .i64 m.ep, .int .i64 m.why, .slice A1 m.set.length c2, .slice A6 m.pairs.length c7] 64, blk r (redC (.slice A15 J.us.length c16) vM vC vR vK J cw ct co R.part R.ep R.g hv11 sb vs12) 185, osl (kHd kPair) (.slice A15 J.us.length c16) J.us, osl kIns vM J.map, osl kIns vC J.comb, osl kIns vR J.red, osl (kInt .i64) vK J.marks, prsS (R.g) hv11, osl (kHd (kInt .i64)) vs12 us13, blk b25 [.int .i64 3, .int .i64 m.sp, .int .i64 m.att, .int .i64 R.part, .int .i64 0, .int .i64 0, .int .i64 R.ep, .int .i64 0, .slice none 0 0, .slice none 0 0] 64] [rsl (kInt .i64) (.slice A1 m.set.length c2) m.set, rsl kPair (.slice A6 m.pairs.length c7) m.pairs] := H
    refine sc (stNext_ok sb R.st m.sp m.att) H l0 rfl rfl (e_fn kn122 rfl rfl) ?_
    rintro _ _ w ⟨rfl, rfl⟩ H
    replace H := H.pick 10 rfl |>.pick 10 rfl |>.pick 10 rfl |>.pick 10 rfl |>.pick 10 rfl |>.pick 10 rfl |>.pick 10 rfl |>.pick 10 rfl |>.pick 10 rfl |>.pick 10 rfl
    refine d_back ⟨_, H⟩ (d_val rfl rfl rfl (fun w ⟨Ar, H⟩ => r_fa rfl fo64_5 rfl) (d_main rfl ?_))
    replace H := H.pick 11 rfl
    refine s_st rfl rfl rfl ty3 rfl rfl H rfl (Nat.le_of_ble_eq_true rfl) (fun u hu => by simp [Value.cells] at hu; subst hu; rfl) (fun w H => ?_)
    replace H := H.h1 (A := blk b25 [.int .i64 3, .int .i64 m.sp, .int .i64 m.att, .int .i64 R.part, .int .i64 0, .int .i64 (sgNext R.st m.sp m.att), .int .i64 R.ep, .int .i64 0, .slice none 0 0, .slice none 0 0] 64) |>.pick 11 rfl |>.pick 11 rfl |>.pick 11 rfl |>.pick 11 rfl |>.pick 11 rfl |>.pick 11 rfl |>.pick 11 rfl |>.pick 11 rfl |>.pick 11 rfl |>.pick 11 rfl |>.pick 11 rfl
    refine d_back ⟨_, H⟩ (d_nil (q_then (c_seq (c_seq (c_reg (s_1 rfl (s_val rfl rfl (r_nilP rfl rfl) (s_val rfl rfl (r_fa rfl fo181_0 rfl) (s_val rfl rfl (r_ld rfl ty4 rfl (H.cellI 2 rfl (redC_at0 (by omega)))) (s_nil (q_then ?_)))))))))))
    refine c_cond (b := (R.g ((m.sp).toNat)).merged) rfl (fun h39 => ?_) (fun h39 => ?_)
    ·refine c_reg (s_val rfl rfl (r_fa rfl fo64_5 rfl) ?_)
     replace H := H.pick 11 rfl
     refine s_st rfl rfl rfl ty3 rfl rfl H rfl (Nat.le_of_ble_eq_true rfl) (fun u hu => by simp [Value.cells] at hu; subst hu; rfl) (fun w H => ?_)
     replace H := H.h1 (A := blk b25 [.int .i64 3, .int .i64 m.sp, .int .i64 m.att, .int .i64 R.part, .int .i64 0, .int .i64 40, .int .i64 R.ep, .int .i64 0, .slice none 0 0, .slice none 0 0] 64)
     refine s_nil (q_then (c_seq (c_reg (s_val rfl rfl (r_ldA (cs := [.int .i64 3, .int .i64 m.sp, .int .i64 m.att, .int .i64 R.part, .int .i64 0, .int .i64 40, .int .i64 R.ep, .int .i64 0, .slice none 0 0, .slice none 0 0]) rfl ty64 rfl rfl (H.cellsI 0 rfl rfl)) (s_1 rfl ?_)))))
     replace H := H.p1
     refine s_st rfl rfl rfl ty64 rfl rfl H rfl (Nat.le_of_ble_eq_true rfl) (fun u hu => by simp [Value.cells] at hu; rcases hu with rfl | rfl | rfl | rfl | rfl | rfl | rfl | rfl | rfl | rfl <;> rfl) (fun w H => ?_)
     replace H := H.h1 (A := blk b21 [.int .i64 3, .int .i64 m.sp, .int .i64 m.att, .int .i64 R.part, .int .i64 0, .int .i64 40, .int .i64 R.ep, .int .i64 0, .slice none 0 0, .slice none 0 0] 64)
     refine s_1 rfl (s_nil (q_then (c_ret (q_retCT (cs := [.int .i64 3, .int .i64 m.sp, .int .i64 m.att, .int .i64 R.part, .int .i64 0, .int .i64 40, .int .i64 R.ep, .int .i64 0, .slice none 0 0, .slice none 0 0]) (v := .slice none 0 0) rfl rfl rfl ty64 rfl (H.cellsI 0 rfl rfl) ?_))))
     have hno : ¬ pushNo J R m := fun h => by rcases h with h | h | h; exact h hin22; omega; omega
     have ht : ¬ pushTakes R m := fun h => absurd h.2.2 (by simpa using h28)
     have e : pushR J R m = (R, ⟨3, m.sp, m.att, R.part, 0, 40, R.ep, 0, [], []⟩, []) := by rw [pushR_yes hno, pushS_no ht, ackR_is rfl rfl (if_pos (by simpa using h39))]
     replace H := H.newnil kRec |>.pick 12 rfl |>.pick 12 rfl |>.pick 12 rfl |>.pick 12 rfl |>.pick 12 rfl |>.pick 12 rfl |>.pick 12 rfl |>.pick 12 rfl |>.pick 12 rfl |>.k10
     replace H := redI_shut r (.slice A15 J.us.length c16) vM vC vR vK J cw ct co sb R hv11 vs12 us13 hsets14 H
     replace H := H.h1 (A := redI r (.slice A15 J.us.length c16) vM vC vR vK J cw ct co sb R) |>.p1
     exact fin ⟨(.slice none 0 0), [], by rw [e] <;> rfl, by rw [e] <;> rfl, by rw [e]; rfl⟩ H
    refine c_skip (q_then (c_seq (c_reg (s_val rfl rfl (r_ldA (cs := [.int .i64 3, .int .i64 m.sp, .int .i64 m.att, .int .i64 R.part, .int .i64 0, .int .i64 (sgNext R.st m.sp m.att), .int .i64 R.ep, .int .i64 0, .slice none 0 0, .slice none 0 0]) rfl ty64 rfl rfl (H.cellsI 11 rfl rfl)) (s_1 rfl (s_st rfl rfl rfl ty64 rfl rfl H rfl (Nat.le_of_ble_eq_true rfl) (fun u hu => by simp [Value.cells] at hu; rcases hu with rfl | rfl | rfl | rfl | rfl | rfl | rfl | rfl | rfl | rfl <;> rfl) (fun w H => ?_)))))))
    replace H := H.h1 (A := blk b21 [.int .i64 3, .int .i64 m.sp, .int .i64 m.att, .int .i64 R.part, .int .i64 0, .int .i64 (sgNext R.st m.sp m.att), .int .i64 R.ep, .int .i64 0, .slice none 0 0, .slice none 0 0] 64)
    refine s_1 rfl (s_nil (q_then (c_ret (q_retCT (cs := [.int .i64 3, .int .i64 m.sp, .int .i64 m.att, .int .i64 R.part, .int .i64 0, .int .i64 (sgNext R.st m.sp m.att), .int .i64 R.ep, .int .i64 0, .slice none 0 0, .slice none 0 0]) (v := .slice none 0 0) rfl rfl rfl ty64 rfl (H.cellsI 0 rfl rfl) ?_))))
    have hno : ¬ pushNo J R m := fun h => by rcases h with h | h | h; exact h hin22; omega; omega
    have ht : ¬ pushTakes R m := fun h => absurd h.2.2 (by simpa using h28)
    have e : pushR J R m = (R, ⟨3, m.sp, m.att, R.part, 0, sgNext R.st m.sp m.att, R.ep, 0, [], []⟩, []) := by rw [pushR_yes hno, pushS_no ht, ackR_is rfl rfl (if_neg (by simpa using h39))]
    replace H := H.newnil kRec |>.pick 11 rfl |>.pick 11 rfl |>.pick 11 rfl |>.pick 11 rfl |>.pick 11 rfl |>.pick 11 rfl |>.pick 11 rfl |>.pick 11 rfl |>.pick 11 rfl |>.k10
    replace H := redI_shut r (.slice A15 J.us.length c16) vM vC vR vK J cw ct co sb R hv11 vs12 us13 hsets14 H
    replace H := H.h1 (A := redI r (.slice A15 J.us.length c16) vM vC vR vK J cw ct co sb R) |>.p1
    exact fin ⟨(.slice none 0 0), [], by rw [e] <;> rfl, by rw [e] <;> rfl, by rw [e]; rfl⟩ H
   refine s_k 4 rfl (s_nil (q_then (c_no rfl (c_skip (q_then (c_seq (c_ord (.e 0 (.e 1 (.e 2 (.e 3 (.e 4 (.e 5 (.e 6 (.e 7 (.m 8 (.e 9 (.m 10 .z))))))))))) (fun w => ∃ Ar, Hd w0 F0 w (blk b21 [.int .i64 0, .int .i64 0, .int .i64 0, .int .i64 0, .int .i64 0, .int .i64 0, .int .i64 0, .int .i64 0, .slice none 0 0, .slice none 0 0] 64 :: blk b20 [.int .i64 m.kind, .int .i64 m.sp, .int .i64 m.att, .int .i64 m.part, .int .i64 m.seq, .int .i64 m.next, .int .i64 m.ep, .int .i64 m.why, .slice A1 m.set.length c2, .slice A6 m.pairs.length c7] 64 :: blk r (redC (.slice A15 J.us.length c16) vM vC vR vK J cw ct co R.part R.ep R.g hv11 sb vs12) 185 :: osl (kHd kPair) (.slice A15 J.us.length c16) J.us :: osl kIns vM J.map :: osl kIns vC J.comb :: osl kIns vR J.red :: osl (kInt .i64) vK J.marks :: prsS (R.g) hv11 :: osl (kHd (kInt .i64)) vs12 us13 :: stgI 253 sb (R.st) :: Ar) [rsl (kInt .i64) (.slice A1 m.set.length c2) m.set, rsl kPair (.slice A6 m.pairs.length c7) m.pairs]) mo (by kernel_rfl) (fun w H => ⟨_, H⟩) H (fun w H => ?_))))))))
   refine d_1 rfl (d_val rfl rfl rfl (fun w ⟨Ar, H⟩ => r_nilP rfl rfl) (d_val rfl rfl rfl (fun w ⟨Ar, H⟩ => r_fa rfl fo185_4 rfl) (d_val rfl rfl rfl (fun w ⟨Ar, H⟩ => r_ld rfl ty183 rfl (H.cellI 2 rfl rfl)) (d_val rfl rfl rfl (fun w ⟨Ar, H⟩ => r_fa rfl fo64_1 rfl) (d_val rfl rfl rfl (fun w ⟨Ar, H⟩ => r_ld rfl ty3 rfl (H.cellI 1 rfl rfl)) (d_val rfl rfl rfl (fun w ⟨Ar, H⟩ => r_fa rfl fo64_2 rfl) (d_val rfl rfl rfl (fun w ⟨Ar, H⟩ => r_ld rfl ty3 rfl (H.cellI 1 rfl rfl)) (d_main rfl ?_))))))))
   replace H := H.pick 10 rfl
   refine sc (stNext_ok sb R.st m.sp m.att) H l0 rfl rfl (e_fn kn122 rfl rfl) ?_
   rintro _ _ w ⟨rfl, rfl⟩ H
   replace H := H.pick 10 rfl |>.pick 10 rfl |>.pick 10 rfl |>.pick 10 rfl |>.pick 10 rfl |>.pick 10 rfl |>.pick 10 rfl |>.pick 10 rfl |>.pick 10 rfl |>.pick 10 rfl
   refine d_back ⟨_, H⟩ (d_val rfl rfl rfl (fun w ⟨Ar, H⟩ => r_fa rfl fo64_5 rfl) (d_main rfl ?_))
   replace H := H.pick 11 rfl
   refine s_st rfl rfl rfl ty3 rfl rfl H rfl (Nat.le_of_ble_eq_true rfl) (fun u hu => by simp [Value.cells] at hu; subst hu; rfl) (fun w H => ?_)
   replace H := H.h1 (A := blk b25 [.int .i64 3, .int .i64 m.sp, .int .i64 m.att, .int .i64 R.part, .int .i64 0, .int .i64 (sgNext R.st m.sp m.att), .int .i64 R.ep, .int .i64 0, .slice none 0 0, .slice none 0 0] 64) |>.pick 11 rfl |>.pick 11 rfl |>.pick 11 rfl |>.pick 11 rfl |>.pick 11 rfl |>.pick 11 rfl |>.pick 11 rfl |>.pick 11 rfl |>.pick 11 rfl |>.pick 11 rfl |>.pick 11 rfl
   refine d_back ⟨_, H⟩ (d_nil (q_then (c_seq (c_seq (c_reg (s_1 rfl (s_val rfl rfl (r_nilP rfl rfl) (s_val rfl rfl (r_fa rfl fo181_0 rfl) (s_val rfl rfl (r_ld rfl ty4 rfl (H.cellI 2 rfl (redC_at0 (by omega)))) (s_nil (q_then ?_)))))))))))
   refine c_cond (b := (R.g ((m.sp).toNat)).merged) rfl (fun h40 => ?_) (fun h40 => ?_)
   ·refine c_reg (s_val rfl rfl (r_fa rfl fo64_5 rfl) ?_)
    replace H := H.pick 11 rfl
    refine s_st rfl rfl rfl ty3 rfl rfl H rfl (Nat.le_of_ble_eq_true rfl) (fun u hu => by simp [Value.cells] at hu; subst hu; rfl) (fun w H => ?_)
    replace H := H.h1 (A := blk b25 [.int .i64 3, .int .i64 m.sp, .int .i64 m.att, .int .i64 R.part, .int .i64 0, .int .i64 40, .int .i64 R.ep, .int .i64 0, .slice none 0 0, .slice none 0 0] 64)
    refine s_nil (q_then (c_seq (c_reg (s_val rfl rfl (r_ldA (cs := [.int .i64 3, .int .i64 m.sp, .int .i64 m.att, .int .i64 R.part, .int .i64 0, .int .i64 40, .int .i64 R.ep, .int .i64 0, .slice none 0 0, .slice none 0 0]) rfl ty64 rfl rfl (H.cellsI 0 rfl rfl)) (s_1 rfl ?_)))))
    replace H := H.p1
    refine s_st rfl rfl rfl ty64 rfl rfl H rfl (Nat.le_of_ble_eq_true rfl) (fun u hu => by simp [Value.cells] at hu; rcases hu with rfl | rfl | rfl | rfl | rfl | rfl | rfl | rfl | rfl | rfl <;> rfl) (fun w H => ?_)
    replace H := H.h1 (A := blk b21 [.int .i64 3, .int .i64 m.sp, .int .i64 m.att, .int .i64 R.part, .int .i64 0, .int .i64 40, .int .i64 R.ep, .int .i64 0, .slice none 0 0, .slice none 0 0] 64)
    refine s_1 rfl (s_nil (q_then (c_ret (q_retCT (cs := [.int .i64 3, .int .i64 m.sp, .int .i64 m.att, .int .i64 R.part, .int .i64 0, .int .i64 40, .int .i64 R.ep, .int .i64 0, .slice none 0 0, .slice none 0 0]) (v := .slice none 0 0) rfl rfl rfl ty64 rfl (H.cellsI 0 rfl rfl) ?_))))
    have hno : ¬ pushNo J R m := fun h => by rcases h with h | h | h; exact h hin22; omega; omega
    have ht : ¬ pushTakes R m := fun h => by have h1 := h.1; have h2 := h.2.1; first | omega | (simp_all)
    have e : pushR J R m = (R, ⟨3, m.sp, m.att, R.part, 0, 40, R.ep, 0, [], []⟩, []) := by rw [pushR_yes hno, pushS_no ht, ackR_is rfl rfl (if_pos (by simpa using h40))]
    replace H := H.newnil kRec |>.pick 12 rfl |>.pick 12 rfl |>.pick 12 rfl |>.pick 12 rfl |>.pick 12 rfl |>.pick 12 rfl |>.pick 12 rfl |>.pick 12 rfl |>.pick 12 rfl |>.k10
    replace H := redI_shut r (.slice A15 J.us.length c16) vM vC vR vK J cw ct co sb R hv11 vs12 us13 hsets14 H
    replace H := H.h1 (A := redI r (.slice A15 J.us.length c16) vM vC vR vK J cw ct co sb R) |>.p1
    exact fin ⟨(.slice none 0 0), [], by rw [e] <;> rfl, by rw [e] <;> rfl, by rw [e]; rfl⟩ H
   refine c_skip (q_then (c_seq (c_reg (s_val rfl rfl (r_ldA (cs := [.int .i64 3, .int .i64 m.sp, .int .i64 m.att, .int .i64 R.part, .int .i64 0, .int .i64 (sgNext R.st m.sp m.att), .int .i64 R.ep, .int .i64 0, .slice none 0 0, .slice none 0 0]) rfl ty64 rfl rfl (H.cellsI 11 rfl rfl)) (s_1 rfl (s_st rfl rfl rfl ty64 rfl rfl H rfl (Nat.le_of_ble_eq_true rfl) (fun u hu => by simp [Value.cells] at hu; rcases hu with rfl | rfl | rfl | rfl | rfl | rfl | rfl | rfl | rfl | rfl <;> rfl) (fun w H => ?_)))))))
   replace H := H.h1 (A := blk b21 [.int .i64 3, .int .i64 m.sp, .int .i64 m.att, .int .i64 R.part, .int .i64 0, .int .i64 (sgNext R.st m.sp m.att), .int .i64 R.ep, .int .i64 0, .slice none 0 0, .slice none 0 0] 64)
   refine s_1 rfl (s_nil (q_then (c_ret (q_retCT (cs := [.int .i64 3, .int .i64 m.sp, .int .i64 m.att, .int .i64 R.part, .int .i64 0, .int .i64 (sgNext R.st m.sp m.att), .int .i64 R.ep, .int .i64 0, .slice none 0 0, .slice none 0 0]) (v := .slice none 0 0) rfl rfl rfl ty64 rfl (H.cellsI 0 rfl rfl) ?_))))
   have hno : ¬ pushNo J R m := fun h => by rcases h with h | h | h; exact h hin22; omega; omega
   have ht : ¬ pushTakes R m := fun h => by have h1 := h.1; have h2 := h.2.1; first | omega | (simp_all)
   have e : pushR J R m = (R, ⟨3, m.sp, m.att, R.part, 0, sgNext R.st m.sp m.att, R.ep, 0, [], []⟩, []) := by rw [pushR_yes hno, pushS_no ht, ackR_is rfl rfl (if_neg (by simpa using h40))]
   replace H := H.newnil kRec |>.pick 11 rfl |>.pick 11 rfl |>.pick 11 rfl |>.pick 11 rfl |>.pick 11 rfl |>.pick 11 rfl |>.pick 11 rfl |>.pick 11 rfl |>.pick 11 rfl |>.k10
   replace H := redI_shut r (.slice A15 J.us.length c16) vM vC vR vK J cw ct co sb R hv11 vs12 us13 hsets14 H
   replace H := H.h1 (A := redI r (.slice A15 J.us.length c16) vM vC vR vK J cw ct co sb R) |>.p1
   exact fin ⟨(.slice none 0 0), [], by rw [e] <;> rfl, by rw [e] <;> rfl, by rw [e]; rfl⟩ H
  refine s_k 10 rfl (s_nil (q_then (c_no rfl (c_skip (q_then (c_seq (c_ord (.e 0 (.e 1 (.e 2 (.e 3 (.e 4 (.e 5 (.e 6 (.e 7 (.m 8 (.e 9 (.m 10 .z))))))))))) (fun w => ∃ Ar, Hd w0 F0 w (blk b21 [.int .i64 0, .int .i64 0, .int .i64 0, .int .i64 0, .int .i64 0, .int .i64 0, .int .i64 0, .int .i64 0, .slice none 0 0, .slice none 0 0] 64 :: blk b20 [.int .i64 m.kind, .int .i64 m.sp, .int .i64 m.att, .int .i64 m.part, .int .i64 m.seq, .int .i64 m.next, .int .i64 m.ep, .int .i64 m.why, .slice A1 m.set.length c2, .slice A6 m.pairs.length c7] 64 :: blk r (redC (.slice A15 J.us.length c16) vM vC vR vK J cw ct co R.part R.ep R.g hv11 sb vs12) 185 :: osl (kHd kPair) (.slice A15 J.us.length c16) J.us :: osl kIns vM J.map :: osl kIns vC J.comb :: osl kIns vR J.red :: osl (kInt .i64) vK J.marks :: prsS (R.g) hv11 :: osl (kHd (kInt .i64)) vs12 us13 :: stgI 253 sb (R.st) :: Ar) [rsl (kInt .i64) (.slice A1 m.set.length c2) m.set, rsl kPair (.slice A6 m.pairs.length c7) m.pairs]) mo (by kernel_rfl) (fun w H => ⟨_, H⟩) H (fun w H => ?_))))))))
  refine d_1 rfl (d_val rfl rfl rfl (fun w ⟨Ar, H⟩ => r_nilP rfl rfl) (d_val rfl rfl rfl (fun w ⟨Ar, H⟩ => r_fa rfl fo185_4 rfl) (d_val rfl rfl rfl (fun w ⟨Ar, H⟩ => r_ld rfl ty183 rfl (H.cellI 2 rfl rfl)) (d_val rfl rfl rfl (fun w ⟨Ar, H⟩ => r_fa rfl fo64_1 rfl) (d_val rfl rfl rfl (fun w ⟨Ar, H⟩ => r_ld rfl ty3 rfl (H.cellI 1 rfl rfl)) (d_val rfl rfl rfl (fun w ⟨Ar, H⟩ => r_fa rfl fo64_2 rfl) (d_val rfl rfl rfl (fun w ⟨Ar, H⟩ => r_ld rfl ty3 rfl (H.cellI 1 rfl rfl)) (d_main rfl ?_))))))))
  replace H := H.pick 10 rfl
  refine sc (stNext_ok sb R.st m.sp m.att) H l0 rfl rfl (e_fn kn122 rfl rfl) ?_
  rintro _ _ w ⟨rfl, rfl⟩ H
  replace H := H.pick 10 rfl |>.pick 10 rfl |>.pick 10 rfl |>.pick 10 rfl |>.pick 10 rfl |>.pick 10 rfl |>.pick 10 rfl |>.pick 10 rfl |>.pick 10 rfl |>.pick 10 rfl
  refine d_back ⟨_, H⟩ (d_val rfl rfl rfl (fun w ⟨Ar, H⟩ => r_fa rfl fo64_5 rfl) (d_main rfl ?_))
  replace H := H.pick 11 rfl
  refine s_st rfl rfl rfl ty3 rfl rfl H rfl (Nat.le_of_ble_eq_true rfl) (fun u hu => by simp [Value.cells] at hu; subst hu; rfl) (fun w H => ?_)
  replace H := H.h1 (A := blk b25 [.int .i64 3, .int .i64 m.sp, .int .i64 m.att, .int .i64 R.part, .int .i64 0, .int .i64 (sgNext R.st m.sp m.att), .int .i64 R.ep, .int .i64 0, .slice none 0 0, .slice none 0 0] 64) |>.pick 11 rfl |>.pick 11 rfl |>.pick 11 rfl |>.pick 11 rfl |>.pick 11 rfl |>.pick 11 rfl |>.pick 11 rfl |>.pick 11 rfl |>.pick 11 rfl |>.pick 11 rfl |>.pick 11 rfl
  refine d_back ⟨_, H⟩ (d_nil (q_then (c_seq (c_seq (c_reg (s_1 rfl (s_val rfl rfl (r_nilP rfl rfl) (s_val rfl rfl (r_fa rfl fo181_0 rfl) (s_val rfl rfl (r_ld rfl ty4 rfl (H.cellI 2 rfl (redC_at0 (by omega)))) (s_nil (q_then ?_)))))))))))
  refine c_cond (b := (R.g ((m.sp).toNat)).merged) rfl (fun h41 => ?_) (fun h41 => ?_)
  ·refine c_reg (s_val rfl rfl (r_fa rfl fo64_5 rfl) ?_)
   replace H := H.pick 11 rfl
   refine s_st rfl rfl rfl ty3 rfl rfl H rfl (Nat.le_of_ble_eq_true rfl) (fun u hu => by simp [Value.cells] at hu; subst hu; rfl) (fun w H => ?_)
   replace H := H.h1 (A := blk b25 [.int .i64 3, .int .i64 m.sp, .int .i64 m.att, .int .i64 R.part, .int .i64 0, .int .i64 40, .int .i64 R.ep, .int .i64 0, .slice none 0 0, .slice none 0 0] 64)
   refine s_nil (q_then (c_seq (c_reg (s_val rfl rfl (r_ldA (cs := [.int .i64 3, .int .i64 m.sp, .int .i64 m.att, .int .i64 R.part, .int .i64 0, .int .i64 40, .int .i64 R.ep, .int .i64 0, .slice none 0 0, .slice none 0 0]) rfl ty64 rfl rfl (H.cellsI 0 rfl rfl)) (s_1 rfl ?_)))))
   replace H := H.p1
   refine s_st rfl rfl rfl ty64 rfl rfl H rfl (Nat.le_of_ble_eq_true rfl) (fun u hu => by simp [Value.cells] at hu; rcases hu with rfl | rfl | rfl | rfl | rfl | rfl | rfl | rfl | rfl | rfl <;> rfl) (fun w H => ?_)
   replace H := H.h1 (A := blk b21 [.int .i64 3, .int .i64 m.sp, .int .i64 m.att, .int .i64 R.part, .int .i64 0, .int .i64 40, .int .i64 R.ep, .int .i64 0, .slice none 0 0, .slice none 0 0] 64)
   refine s_1 rfl (s_nil (q_then (c_ret (q_retCT (cs := [.int .i64 3, .int .i64 m.sp, .int .i64 m.att, .int .i64 R.part, .int .i64 0, .int .i64 40, .int .i64 R.ep, .int .i64 0, .slice none 0 0, .slice none 0 0]) (v := .slice none 0 0) rfl rfl rfl ty64 rfl (H.cellsI 0 rfl rfl) ?_))))
   have hno : ¬ pushNo J R m := fun h => by rcases h with h | h | h; exact h hin22; omega; omega
   have ht : ¬ pushTakes R m := fun h => by have h1 := h.1; have h2 := h.2.1; first | omega | (simp_all)
   have e : pushR J R m = (R, ⟨3, m.sp, m.att, R.part, 0, 40, R.ep, 0, [], []⟩, []) := by rw [pushR_yes hno, pushS_no ht, ackR_is rfl rfl (if_pos (by simpa using h41))]
   replace H := H.newnil kRec |>.pick 12 rfl |>.pick 12 rfl |>.pick 12 rfl |>.pick 12 rfl |>.pick 12 rfl |>.pick 12 rfl |>.pick 12 rfl |>.pick 12 rfl |>.pick 12 rfl |>.k10
   replace H := redI_shut r (.slice A15 J.us.length c16) vM vC vR vK J cw ct co sb R hv11 vs12 us13 hsets14 H
   replace H := H.h1 (A := redI r (.slice A15 J.us.length c16) vM vC vR vK J cw ct co sb R) |>.p1
   exact fin ⟨(.slice none 0 0), [], by rw [e] <;> rfl, by rw [e] <;> rfl, by rw [e]; rfl⟩ H
  refine c_skip (q_then (c_seq (c_reg (s_val rfl rfl (r_ldA (cs := [.int .i64 3, .int .i64 m.sp, .int .i64 m.att, .int .i64 R.part, .int .i64 0, .int .i64 (sgNext R.st m.sp m.att), .int .i64 R.ep, .int .i64 0, .slice none 0 0, .slice none 0 0]) rfl ty64 rfl rfl (H.cellsI 11 rfl rfl)) (s_1 rfl (s_st rfl rfl rfl ty64 rfl rfl H rfl (Nat.le_of_ble_eq_true rfl) (fun u hu => by simp [Value.cells] at hu; rcases hu with rfl | rfl | rfl | rfl | rfl | rfl | rfl | rfl | rfl | rfl <;> rfl) (fun w H => ?_)))))))
  replace H := H.h1 (A := blk b21 [.int .i64 3, .int .i64 m.sp, .int .i64 m.att, .int .i64 R.part, .int .i64 0, .int .i64 (sgNext R.st m.sp m.att), .int .i64 R.ep, .int .i64 0, .slice none 0 0, .slice none 0 0] 64)
  refine s_1 rfl (s_nil (q_then (c_ret (q_retCT (cs := [.int .i64 3, .int .i64 m.sp, .int .i64 m.att, .int .i64 R.part, .int .i64 0, .int .i64 (sgNext R.st m.sp m.att), .int .i64 R.ep, .int .i64 0, .slice none 0 0, .slice none 0 0]) (v := .slice none 0 0) rfl rfl rfl ty64 rfl (H.cellsI 0 rfl rfl) ?_))))
  have hno : ¬ pushNo J R m := fun h => by rcases h with h | h | h; exact h hin22; omega; omega
  have ht : ¬ pushTakes R m := fun h => by have h1 := h.1; have h2 := h.2.1; first | omega | (simp_all)
  have e : pushR J R m = (R, ⟨3, m.sp, m.att, R.part, 0, sgNext R.st m.sp m.att, R.ep, 0, [], []⟩, []) := by rw [pushR_yes hno, pushS_no ht, ackR_is rfl rfl (if_neg (by simpa using h41))]
  replace H := H.newnil kRec |>.pick 11 rfl |>.pick 11 rfl |>.pick 11 rfl |>.pick 11 rfl |>.pick 11 rfl |>.pick 11 rfl |>.pick 11 rfl |>.pick 11 rfl |>.pick 11 rfl |>.k10
  replace H := redI_shut r (.slice A15 J.us.length c16) vM vC vR vK J cw ct co sb R hv11 vs12 us13 hsets14 H
  replace H := H.h1 (A := redI r (.slice A15 J.us.length c16) vM vC vR vK J cw ct co sb R) |>.p1
  exact fin ⟨(.slice none 0 0), [], by rw [e] <;> rfl, by rw [e] <;> rfl, by rw [e]; rfl⟩ H
 refine c_reg (s_1 rfl (s_val rfl rfl (r_fa rfl fo64_1 rfl) (s_val rfl rfl (r_ld rfl ty3 rfl (H.cellI 1 rfl rfl)) (sc (at_no r A15 J.us.length c16 vM vC vR vK J cw ct co R.part R.ep R.g hv11 sb vs12 m.sp (by first | assumption | omega)) H (lA 2 rfl (fun _ h => h) l0) rfl rfl (e_fn kn118 rfl rfl) ?_))))
 rintro _ _ w ⟨rfl, rfl⟩ H
 refine s_1 rfl (s_nil (q_then (c_seq (c_seq (c_draw mo (by kernel_rfl) H (u_1 rfl (u_val rfl rfl (fun w H => r_peq rfl un178 rfl rfl) (u_k 12 rfl (u_k 2 rfl (u_end (fun w H => (q_then (c_yes rfl (c_seq (c_reg (s_val rfl rfl (r_bd (parts := []) (vs := []) (cs := [.int .i64 0, .int .i64 0, .int .i64 0, .int .i64 0, .int .i64 0, .int .i64 0, .int .i64 0, .int .i64 0, .slice none 0 0, .slice none 0 0]) rfl bd64 rfl rfl) (s_st rfl rfl rfl ty64 rfl rfl H rfl (Nat.le_of_ble_eq_true rfl) (fun u hu => by simp [Value.cells] at hu; rcases hu with rfl | rfl | rfl | rfl | rfl | rfl | rfl | rfl | rfl | rfl <;> rfl) (fun w H => (s_1 rfl (s_nil (q_then (c_ret (q_thenR (q_retCT (cs := [.int .i64 0, .int .i64 0, .int .i64 0, .int .i64 0, .int .i64 0, .int .i64 0, .int .i64 0, .int .i64 0, .slice none 0 0, .slice none 0 0]) (v := .slice none 0 0) rfl rfl rfl ty64 rfl (H.cellsI 0 rfl rfl) ?_))))))))))))))))))))))))
 have e : pushR J R m = (R, msg0, []) := pushR_no (.inl hin22)
 replace H := H.newnil kRec |>.pick 11 rfl |>.pick 11 rfl |>.pick 11 rfl |>.pick 11 rfl |>.pick 11 rfl |>.pick 11 rfl |>.pick 11 rfl |>.pick 11 rfl |>.pick 11 rfl |>.k10
 replace H := redI_shut r (.slice A15 J.us.length c16) vM vC vR vK J cw ct co sb R hv11 vs12 us13 hsets14 H
 replace H := H.h1 (A := redI r (.slice A15 J.us.length c16) vM vC vR vK J cw ct co sb R) |>.p1
 exact fin ⟨(.slice none 0 0), [], by rw [e] <;> rfl, by rw [e] <;> rfl, by rw [e]; rfl⟩ H
theorem rpush_nil (m : Msg) (vset : Value) (vps : Value) :
    Cn Tryz.prog 50 [.pointer none, .agg #[.int .i64 m.kind, .int .i64 m.sp, .int .i64 m.att, .int .i64 m.part, .int .i64 m.seq, .int .i64 m.next, .int .i64 m.ep, .int .i64 m.why, vset, vps]] [] [rsl (kInt .i64) vset m.set, rsl kPair vps m.pairs] (fun v Bs => v = .tuple #[.agg #[.int .i64 0, .int .i64 0, .int .i64 0, .int .i64 0, .int .i64 0, .int .i64 0, .int .i64 0, .int .i64 0, .slice none 0 0, .slice none 0 0], .slice none 0 0] ∧ Bs = []) := by
 intro w0 F0 H
 obtain ⟨A1, c2, rfl, hc3, hm4, hp5⟩ := H.fR 0 rfl
 obtain ⟨A6, c7, rfl, hc8, hm9, hp10⟩ := H.fR 1 rfl
 refine enter Tryz.func50 rfl rfl (Nat.le_of_ble_eq_true rfl) (c_seq (c_reg (s_box rfl rfl rfl rfl H (fun b11 w H => (s_alloc rfl rfl rfl zr64 H (fun b12 w H => (s_1 rfl (s_nil (q_then ?_)))))))))
 replace H : Hd _ _ _ [blk b12 [.int .i64 0, .int .i64 0, .int .i64 0, .int .i64 0, .int .i64 0, .int .i64 0, .int .i64 0, .int .i64 0, .slice none 0 0, .slice none 0 0] 64, blk b11 [.int .i64 m.kind, .int .i64 m.sp, .int .i64 m.att, .int .i64 m.part, .int .i64 m.seq, .int .i64 m.next, .int .i64 m.ep, .int .i64 m.why, .slice A1 m.set.length c2, .slice A6 m.pairs.length c7] 64] [rsl (kInt .i64) (.slice A1 m.set.length c2) m.set, rsl kPair (.slice A6 m.pairs.length c7) m.pairs] := H
 refine c_seq (c_reg (s_1 rfl (s_val rfl rfl (r_fa rfl fo64_1 rfl) (s_val rfl rfl (r_ld rfl ty3 rfl (H.cellI 1 rfl rfl)) (sc (at_nil m.sp) H l0 rfl rfl (e_fn kn118 rfl rfl) ?_)))))
 rintro _ _ w ⟨rfl, rfl⟩ H
 refine s_1 rfl (s_nil (q_then (c_seq (c_seq (c_draw mo (by kernel_rfl) H (u_1 rfl (u_val rfl rfl (fun w H => r_peq rfl un178 rfl rfl) (u_k 12 rfl (u_k 2 rfl (u_end (fun w H => (q_then (c_yes rfl (c_seq (c_reg (s_val rfl rfl (r_bd (parts := []) (vs := []) (cs := [.int .i64 0, .int .i64 0, .int .i64 0, .int .i64 0, .int .i64 0, .int .i64 0, .int .i64 0, .int .i64 0, .slice none 0 0, .slice none 0 0]) rfl bd64 rfl rfl) (s_st rfl rfl rfl ty64 rfl rfl H rfl (Nat.le_of_ble_eq_true rfl) (fun u hu => by simp [Value.cells] at hu; rcases hu with rfl | rfl | rfl | rfl | rfl | rfl | rfl | rfl | rfl | rfl <;> rfl) (fun w H => (s_1 rfl (s_nil (q_then (c_ret (q_thenR (q_retCT (cs := [.int .i64 0, .int .i64 0, .int .i64 0, .int .i64 0, .int .i64 0, .int .i64 0, .int .i64 0, .int .i64 0, .slice none 0 0, .slice none 0 0]) (v := .slice none 0 0) rfl rfl rfl ty64 rfl (H.cellsI 0 rfl rfl) ?_))))))))))))))))))))))))
 replace H := H.nil
 exact fin ⟨rfl, rfl⟩ H
theorem rpairs_nil (s : Int) :
    Cn Tryz.prog 52 [.pointer none, .int .i64 s] [] [] (fun v Bs => v = .slice none 0 0 ∧ Bs = []) := by
 intro w0 F0 H
 refine enter Tryz.func52 rfl rfl (Nat.le_of_ble_eq_true rfl) (c_seq (c_reg (s_1 rfl (s_nil (q_then (c_seq (c_reg (s_k 2 rfl (sc (at_nil s) H l0 rfl rfl (e_fn kn118 rfl rfl) ?_)))))))))
 rintro _ _ w ⟨rfl, rfl⟩ H
 refine s_1 rfl (s_nil (q_then ?_))
 replace H : Hd _ _ _ [] [] := H
 exact c_seq (c_seq (c_reg (s_1 rfl (s_val rfl rfl (r_peq rfl un178 rfl rfl) (s_nil (q_then (c_yes rfl (c_seq (c_reg (s_1 rfl (s_nil (q_then (c_ret (q_thenR (q_ret1 rfl rfl (fin ⟨rfl, rfl⟩ H))))))))))))))))
theorem snaps_ok (r : Nat) (A : Option Addr) (c : Nat) (vM2 : Value) (vC2 : Value) (vR2 : Value) (vK2 : Value) (J2 : Job) (cw : Int) (ct : Int) (co : Int) (part : Int) (ep : Int) (R : Red) (hv : Nat → Value) (sb : Nat) (vs : Value) (us : List (Value × List Int)) (hred : ∀ i ∈ J2.red, In64 i.a) (hf64 : In64 J2.fuel) (hus6 : J2.us.length ≤ 6) (hbp : ∀ i, (R.g i).pairs.length ≤ 1000) (hsets : us.map (fun u => u.2) = R.sets) (hul : us.length ≤ 100000) (hsl : ∀ u ∈ us, u.2.length ≤ 1000) :
    Cn Tryz.prog 59 [.pointer (some ⟨r, 0, none⟩)] [] [blk r (redC (.slice A J2.us.length c) vM2 vC2 vR2 vK2 J2 cw ct co part ep R.g hv sb vs) 185, prsS (R.g) hv, rsl kIns vR2 J2.red, rsl (kHd (kInt .i64)) vs us, gl] (fun v Bs => ∃ zs : List (Two Int), Bs = [osl kSnap v zs] ∧ (zs.map snapP = snapsR dg J2 R)) := by
 intro w0 F0 H
 obtain ⟨A1, c2, rfl, hc3, hm4, hp5⟩ := H.fR 3 rfl
 refine enter Tryz.func59 rfl rfl (Nat.le_of_ble_eq_true rfl) (c_seq (c_reg (s_1 rfl (s_nil (q_then ?_)))))
 replace H : Hd _ _ _ [] [blk r (redC (.slice A J2.us.length c) vM2 vC2 vR2 vK2 J2 cw ct co part ep R.g hv sb (.slice A1 us.length c2)) 185, prsS (R.g) hv, rsl kIns vR2 J2.red, rsl (kHd (kInt .i64)) (.slice A1 us.length c2) us, gl] := H
 refine c_seq (c_seq (c_reg (s_1 rfl (s_val rfl rfl (r_peq rfl un75 rfl rfl) (s_nil (q_then (c_no rfl (c_skip (q_then (c_seq (c_reg (s_1 rfl (s_nil (q_then (c_seq (c_seq (c_reg (s_1 rfl (s_val rfl rfl (r_nilP rfl rfl) (s_val rfl rfl (r_fa rfl fo185_5 rfl) (s_val rfl rfl (r_ld rfl ty144 rfl (H.cellRI 0 rfl rfl)) (s_val rfl rfl (r_lenL rfl un144 rfl) (s_1 rfl (s_nil (q_then (c_block ?_))))))))))))))))))))))))))
 replace H := H.newnil kSnapF
 replace H := Hd.tw0 (α := Int) H
 replace H := H.h1 (A := twS ([] : List (Two Int))) |>.h2 (B := osl kSnapF (.slice none 0 0) (([] : List (Two Int)).map twF)) |>.p1
 refine c_loop (σ := Nat × Value × List (Two Int)) (fun (k, q, zs) => [(0, .pointer (some ⟨r, 0, none⟩)), (2, .slice none 0 0), (3, q), (13, .slice A1 us.length c2), (14, .int .i64 ((us.length : Nat) : Int)), (15, .int .i64 ((k : Nat) : Int))]) (fun (k, q, zs) w => (Hd w0 F0 w [osl kSnapF q (zs.map twF), twS zs] [blk r (redC (.slice A J2.us.length c) vM2 vC2 vR2 vK2 J2 cw ct co part ep R.g hv sb (.slice A1 us.length c2)) 185, prsS (R.g) hv, rsl kIns vR2 J2.red, rsl (kHd (kInt .i64)) (.slice A1 us.length c2) us, gl]) ∧ (k ≤ us.length) ∧ (zs.map snapP = (snapsR dg J2 R).take k)) (fun (k, q, zs) => us.length - k) (0, .slice none 0 0, []) ⟨rfl, rfl, rfl, rfl, rfl, rfl, trivial⟩ ⟨H, Nat.zero_le _, rfl⟩ ?_
 rintro ⟨k, q, zs⟩ w ⟨H, hk, hz⟩
 have hzl : zs.length = k := by have h1 := congrArg List.length hz; rw [List.length_map, List.length_take, snaps_len hsets] at h1; omega
 have hzl2 : (zs.map twF).length = zs.length := List.length_map ..
 refine c_seq (c_reg (s_val rfl rfl (r_lt rfl rfl rfl) (s_nil (q_then (c_seq ?_)))))
 refine c_dec rfl (fun h6 => ?_) (fun h6 => ?_)
 ·refine c_skip (q_then (c_seq (c_block (c_seq (c_reg ?_)))))
  obtain ⟨⟨u9, x7⟩, hx8⟩ : ∃ z9, us[k]? = some z9 := ⟨_, List.getElem?_eq_getElem (show k < us.length by omega)⟩
  obtain ⟨A10, c11, rfl, hc12, hm13⟩ := H.nestR 3 rfl hx8
  have hxl : x7.length ≤ 1000 := hsl _ (at_mem hx8)
  have th14 := H.thRd 3 rfl hx8
  refine s_val rfl rfl (r_iaE (p := oOf A1 + k * 1) rfl sl144 rfl rfl (by omega) (by omega) th14 rfl) (s_val rfl rfl (r_ld rfl ty24 rfl (H.elRd 3 rfl hx8 rfl)) (s_1 rfl (s_nil (q_then (c_seq (c_reg (s_k 2 rfl (sc (of_ok r A c vM2 vC2 vR2 vK2 J2 cw ct co part ep R hv sb (.slice A1 us.length c2) (.slice A10 x7.length c11) x7 (by first | assumption | omega) (by first | assumption | omega) (by first | assumption | omega) (by first | assumption | omega)) H (lR 0 rfl (lR 1 rfl (lX (fun F hA hR => nest_rsl (hR _ (List.mem_of_getElem? (i := 3) rfl)) hx8) (lR 2 rfl (lR 4 rfl l0))))) rfl rfl (e_fn kn131 rfl rfl) ?_))))))))
  rintro _ _ w ⟨u15, rfl, rfl⟩ H
  refine s_k 5 rfl (s_nil (q_then ?_))
  replace H : Hd _ _ _ [osl kPair u15 ((eachM dg J2.red (srt (runsOf J2.us.length R x7)) J2.fuel false).1), osl kSnapF q (zs.map twF), twS zs] [blk r (redC (.slice A J2.us.length c) vM2 vC2 vR2 vK2 J2 cw ct co part ep R.g hv sb (.slice A1 us.length c2)) 185, prsS (R.g) hv, rsl kIns vR2 J2.red, rsl (kHd (kInt .i64)) (.slice A1 us.length c2) us, gl] := H
  refine c_reg (s_k 2 rfl (sc (cloneInt_ok (.slice A10 x7.length c11) x7 (by first | assumption | omega)) H (lX (fun F hA hR => nest_rsl (hR _ (List.mem_of_getElem? (i := 3) rfl)) hx8) l0) rfl rfl (e_fn kn129 rfl rfl) ?_))
  rintro v16 _ w rfl H
  refine s_k 2 rfl ?_
  obtain ⟨A17, c18, rfl, hc19, hm20, hp21⟩ := H.fA 0 rfl
  obtain ⟨A22, c23, rfl, hc24, hm25, hp26⟩ := H.fA 1 rfl
  refine s_val rfl rfl (r_bd (parts := [(0, .tmp 27), (1, .tmp 28), (2, .tmp 29)]) (vs := [.slice A17 x7.length c18, .int .i64 ((eachM dg J2.red (srt (runsOf J2.us.length R x7)) J2.fuel false).2), .slice A22 (((eachM dg J2.red (srt (runsOf J2.us.length R x7)) J2.fuel false).1).length) c23]) (cs := [.slice A17 x7.length c18, .int .i64 ((eachM dg J2.red (srt (runsOf J2.us.length R x7)) J2.fuel false).2), .slice A22 (((eachM dg J2.red (srt (runsOf J2.us.length R x7)) J2.fuel false).1).length) c23]) rfl bd195 rfl rfl) (s_bsl (parts := [(0, .tmp 30)]) (vs := [.agg #[.slice A17 x7.length c18, .int .i64 ((eachM dg J2.red (srt (runsOf J2.us.length R x7)) J2.fuel false).2), .slice A22 (((eachM dg J2.red (srt (runsOf J2.us.length R x7)) J2.fuel false).1).length) c23]]) (cs := [.slice A17 x7.length c18, .int .i64 ((eachM dg J2.red (srt (runsOf J2.us.length R x7)) J2.fuel false).2), .slice A22 (((eachM dg J2.red (srt (runsOf J2.us.length R x7)) J2.fuel false).1).length) c23]) rfl rfl rfl sl94 zr195 rfl (by decide) (by decide) rfl rfl H (fun b27 w H => ?_))
  replace H := H.p3
  refine s_appF (xs := zs.map twF) (ys := [(⟨(eachM dg J2.red (srt (runsOf J2.us.length R x7)) J2.fuel false).2, ⟨A17, x7.length, c18⟩, ⟨A22, ((eachM dg J2.red (srt (runsOf J2.us.length R x7)) J2.fuel false).1).length, c23⟩⟩ : TwoF Int)]) rfl rfl rfl sl94 zr195 rfl (by decide) rfl rfl H (by first | omega | (simp only [List.length_append, List.length_cons, List.length_nil]; omega)) (fun F hA hR => blk_rsl (hA _ (List.mem_of_getElem? (i := 0) rfl)) rfl (by decide) (RepsR.flat_eq.2 rfl)) (fun v28 w H => (s_1 rfl (s_nil (q_blockN (q_then ?_)))))
  replace H : Hd _ _ _ [osl kSnapF v28 ((zs.map twF) ++ [(⟨(eachM dg J2.red (srt (runsOf J2.us.length R x7)) J2.fuel false).2, ⟨A17, x7.length, c18⟩, ⟨A22, ((eachM dg J2.red (srt (runsOf J2.us.length R x7)) J2.fuel false).1).length, c23⟩⟩ : TwoF Int)]), blk b27 [.slice A17 x7.length c18, .int .i64 ((eachM dg J2.red (srt (runsOf J2.us.length R x7)) J2.fuel false).2), .slice A22 (((eachM dg J2.red (srt (runsOf J2.us.length R x7)) J2.fuel false).1).length) c23] 195, osl (kInt .i64) (.slice A17 x7.length c18) x7, osl kPair (.slice A22 (((eachM dg J2.red (srt (runsOf J2.us.length R x7)) J2.fuel false).1).length) c23) ((eachM dg J2.red (srt (runsOf J2.us.length R x7)) J2.fuel false).1), twS zs] [blk r (redC (.slice A J2.us.length c) vM2 vC2 vR2 vK2 J2 cw ct co part ep R.g hv sb (.slice A1 us.length c2)) 185, prsS (R.g) hv, rsl kIns vR2 J2.red, rsl (kHd (kInt .i64)) (.slice A1 us.length c2) us, gl] := H
  refine c_reg (s_val rfl rfl (r_add (z := ((k + 1 : Nat) : Int)) rfl rfl rfl (by rw [w64 (by omega) (by omega)]; omega)) (s_1 rfl (s_nil ?_)))
  replace H := H.p4.p4.p4.k4
  replace H := Hd.twN (r := (⟨(ofR dg J2 R x7).2, .slice A17 x7.length c18, x7, .slice A22 (((eachM dg J2.red (srt (runsOf J2.us.length R x7)) J2.fuel false).1).length) c23, (ofR dg J2 R x7).1⟩ : Two Int)) H
  replace H : Hd w0 F0 w [twS (zs ++ [(⟨(ofR dg J2 R x7).2, .slice A17 x7.length c18, x7, .slice A22 (((eachM dg J2.red (srt (runsOf J2.us.length R x7)) J2.fuel false).1).length) c23, (ofR dg J2 R x7).1⟩ : Two Int)]), osl kSnapF v28 ((zs ++ [(⟨(ofR dg J2 R x7).2, .slice A17 x7.length c18, x7, .slice A22 (((eachM dg J2.red (srt (runsOf J2.us.length R x7)) J2.fuel false).1).length) c23, (ofR dg J2 R x7).1⟩ : Two Int)]).map twF)] [blk r (redC (.slice A J2.us.length c) vM2 vC2 vR2 vK2 J2 cw ct co part ep R.g hv sb (.slice A1 us.length c2)) 185, prsS (R.g) hv, rsl kIns vR2 J2.red, rsl (kHd (kInt .i64)) (.slice A1 us.length c2) us, gl] := by rw [List.map_append]; exact H
  replace H := H.p1
  have hz2 : (zs ++ [(⟨(ofR dg J2 R x7).2, .slice A17 x7.length c18, x7, .slice A22 (((eachM dg J2.red (srt (runsOf J2.us.length R x7)) J2.fuel false).1).length) c23, (ofR dg J2 R x7).1⟩ : Two Int)]).map snapP = (snapsR dg J2 R).take (k + 1) := by rw [List.map_append, hz, snaps_step hsets hx8]; rfl
  exact q_round (s := (k, undef, zs)) (k + 1, v28, zs ++ [(⟨(ofR dg J2 R x7).2, .slice A17 x7.length c18, x7, .slice A22 (((eachM dg J2.red (srt (runsOf J2.us.length R x7)) J2.fuel false).1).length) c23, (ofR dg J2 R x7).1⟩ : Two Int)]) ⟨rfl, rfl, rfl, rfl, rfl, rfl, trivial⟩ ⟨H, by (try dsimp only); omega, hz2⟩ (by (try dsimp only); omega)
 refine c_exit (q_thenE (q_thenE (q_blockE (q_then (c_seq (c_reg (s_k 2 rfl (s_nil (q_then (c_ret (q_ret1 rfl rfl ?_)))))))))))
 replace H := H.h2 (A := osl kSnapF q (zs.map twF)) (B := twS zs)
 replace H := Hd.twI H
 replace H := H.h1 (A := osl kSnap q zs)
 exact fin ⟨zs, rfl, by rw [hz, List.take_of_length_le (by rw [snaps_len hsets]; omega)]⟩ H
theorem snaps_nil  :
    Cn Tryz.prog 59 [.pointer none] [] [] (fun v Bs => v = .slice none 0 0 ∧ Bs = []) := by
 intro w0 F0 H
 refine enter Tryz.func59 rfl rfl (Nat.le_of_ble_eq_true rfl) (c_seq (c_reg (s_1 rfl (s_nil (q_then (c_seq (c_seq (c_reg (s_1 rfl (s_val rfl rfl (r_peq rfl un75 rfl rfl) (s_nil (q_then (c_yes rfl (c_seq (c_reg (s_1 rfl (s_nil (q_then (c_ret (q_thenR (q_ret1 rfl rfl ?_)))))))))))))))))))))
 replace H : Hd _ _ _ [] [] := H
 exact fin ⟨rfl, rfl⟩ H
theorem hello_nil  :
    Cn Tryz.prog 61 [.pointer none] [] [] (fun v Bs => v = .agg #[.int .i64 0, .int .i64 0, .int .i64 0, .int .i64 0, .int .i64 0, .int .i64 0, .int .i64 0, .int .i64 0, .slice none 0 0, .slice none 0 0] ∧ Bs = []) := by
 intro w0 F0 H
 refine enter Tryz.func61 rfl rfl (Nat.le_of_ble_eq_true rfl) (c_seq (c_reg (s_alloc rfl rfl rfl zr64 H (fun b1 w H => (s_nil (q_then ?_))))))
 replace H : Hd _ _ _ [blk b1 [.int .i64 0, .int .i64 0, .int .i64 0, .int .i64 0, .int .i64 0, .int .i64 0, .int .i64 0, .int .i64 0, .slice none 0 0, .slice none 0 0] 64] [] := H
 refine c_seq (c_seq (c_reg (s_1 rfl (s_val rfl rfl (r_peq rfl un75 rfl rfl) (s_nil (q_then (c_yes rfl (c_seq (c_reg (s_val rfl rfl (r_bd (parts := []) (vs := []) (cs := [.int .i64 0, .int .i64 0, .int .i64 0, .int .i64 0, .int .i64 0, .int .i64 0, .int .i64 0, .int .i64 0, .slice none 0 0, .slice none 0 0]) rfl bd64 rfl rfl) (s_st rfl rfl rfl ty64 rfl rfl H rfl (Nat.le_of_ble_eq_true rfl) (fun u hu => by simp [Value.cells] at hu; rcases hu with rfl | rfl | rfl | rfl | rfl | rfl | rfl | rfl | rfl | rfl <;> rfl) (fun w H => (s_nil (q_then (c_ret (q_thenR (q_retC (cs := [.int .i64 0, .int .i64 0, .int .i64 0, .int .i64 0, .int .i64 0, .int .i64 0, .int .i64 0, .int .i64 0, .slice none 0 0, .slice none 0 0]) rfl rfl ty64 rfl (H.cellsI 0 rfl rfl) ?_)))))))))))))))))
 replace H := H.nil
 exact fin ⟨rfl, rfl⟩ H
theorem staged_nil  :
    Cn Tryz.prog 57 [.pointer none] [] [] (fun v Bs => v = .int .i64 0 ∧ Bs = []) := by
 intro w0 F0 H
 refine enter Tryz.func57 rfl rfl (Nat.le_of_ble_eq_true rfl) (c_seq (c_reg (s_1 rfl (s_nil (q_then (c_seq (c_seq (c_reg (s_1 rfl (s_val rfl rfl (r_peq rfl un75 rfl rfl) (s_nil (q_then (c_yes rfl (c_seq (c_reg (s_1 rfl (s_nil (q_then (c_ret (q_thenR (q_ret1 rfl rfl ?_)))))))))))))))))))))
 replace H : Hd _ _ _ [] [] := H
 exact fin ⟨rfl, rfl⟩ H
theorem small21_ok  :
    Cn Tryz.prog 117 [] [] [] (fun v Bs => ∃ vS : Value, ∃ vP : Value, ∃ vK : Value, ∃ u : Value, v = .agg #[vS, .int .i64 1, vP, .slice none 0 0, vP, .int .i64 1, .int .i64 1, .int .i64 9, vK, .int .i64 1, .int .i64 2, .int .i64 1] ∧ Bs = [osl (kHd kPair) vS [(u, oneR), (nilS, [])], osl kIns vP firstP, osl (kInt .i64) vK [1]]) := by
 intro w0 F0 H
 refine enter Tryz.func117 rfl rfl (Nat.le_of_ble_eq_true rfl) (c_seq (c_reg (s_alloc rfl rfl rfl zr28 H (fun b1 w H => (s_nil (q_then ?_))))))
 replace H : Hd _ _ _ [blk b1 [.slice none 0 0, .int .i64 0, .slice none 0 0, .slice none 0 0, .slice none 0 0, .int .i64 0, .int .i64 0, .int .i64 0, .slice none 0 0, .int .i64 0, .int .i64 0, .int .i64 0] 28] [] := H
 refine c_seq (c_reg (s_val rfl rfl (r_bd (parts := [(0, .const (.int .i64 6))]) (vs := [.int .i64 6]) (cs := [.int .i64 6, .int .i64 0, .string ⟨#[]⟩]) rfl bd223 rfl rfl) (s_val rfl rfl (r_bd (parts := [(0, .const (.int .i64 7))]) (vs := [.int .i64 7]) (cs := [.int .i64 7, .int .i64 0, .string ⟨#[]⟩]) rfl bd223 rfl rfl) (s_val rfl rfl (r_bd (parts := [(0, .const (.int .i64 4))]) (vs := [.int .i64 4]) (cs := [.int .i64 4, .int .i64 0, .string ⟨#[]⟩]) rfl bd223 rfl rfl) (s_val rfl rfl (r_bd (parts := [(0, .const (.int .i64 23))]) (vs := [.int .i64 23]) (cs := [.int .i64 23, .int .i64 0, .string ⟨#[]⟩]) rfl bd223 rfl rfl) (s_bsl (parts := [(0, .tmp 2), (1, .tmp 3), (2, .tmp 4), (3, .tmp 5)]) (vs := [.agg #[.int .i64 6, .int .i64 0, .string ⟨#[]⟩], .agg #[.int .i64 7, .int .i64 0, .string ⟨#[]⟩], .agg #[.int .i64 4, .int .i64 0, .string ⟨#[]⟩], .agg #[.int .i64 23, .int .i64 0, .string ⟨#[]⟩]]) (cs := [.int .i64 6, .int .i64 0, .string ⟨#[]⟩, .int .i64 7, .int .i64 0, .string ⟨#[]⟩, .int .i64 4, .int .i64 0, .string ⟨#[]⟩, .int .i64 23, .int .i64 0, .string ⟨#[]⟩]) rfl rfl rfl sl23 zr223 rfl (by decide) (by decide) rfl rfl H (fun b2 w H => ?_)))))))
 replace H := H.h1 (A := blk b2 [.int .i64 6, .int .i64 0, .string ⟨#[]⟩, .int .i64 7, .int .i64 0, .string ⟨#[]⟩, .int .i64 4, .int .i64 0, .string ⟨#[]⟩, .int .i64 23, .int .i64 0, .string ⟨#[]⟩] 223)
 refine s_1 rfl (s_nil (q_then (c_seq (c_reg (s_val rfl rfl (r_bd (parts := [(0, .const (.string ⟨#[98]⟩)), (1, .const (.string ⟨#[49]⟩))]) (vs := [.string ⟨#[98]⟩, .string ⟨#[49]⟩]) (cs := [.string ⟨#[98]⟩, .string ⟨#[49]⟩]) rfl bd106 rfl rfl) (s_bsl (parts := [(0, .tmp 7)]) (vs := [.agg #[.string ⟨#[98]⟩, .string ⟨#[49]⟩]]) (cs := [.string ⟨#[98]⟩, .string ⟨#[49]⟩]) rfl rfl rfl sl35 zr106 rfl (by decide) (by decide) rfl rfl H (fun b3 w H => (s_bsl (parts := [(0, .tmp 8), (1, .const (.slice none 0 0))]) (vs := [.slice (some ⟨b3, 0, none⟩) 1 1, .slice none 0 0]) (cs := [.slice (some ⟨b3, 0, none⟩) 1 1, .slice none 0 0]) rfl rfl rfl sl22 zr35 rfl (by decide) (by decide) rfl rfl H (fun b4 w H => (s_k 2 rfl (s_bsl (parts := [(0, .const (.int .i64 1))]) (vs := [.int .i64 1]) (cs := [.int .i64 1]) rfl rfl rfl sl24 zr3 rfl (by decide) (by decide) rfl rfl H (fun b5 w H => (s_val rfl rfl (r_bd (parts := [(0, .tmp 9), (1, .const (.int .i64 1)), (2, .tmp 10), (4, .tmp 11), (5, .const (.int .i64 1)), (6, .const (.int .i64 1)), (7, .const (.int .i64 9)), (8, .tmp 12)]) (vs := [.slice (some ⟨b4, 0, none⟩) 2 2, .int .i64 1, .slice (some ⟨b2, 0, none⟩) 4 4, .slice (some ⟨b2, 0, none⟩) 4 4, .int .i64 1, .int .i64 1, .int .i64 9, .slice (some ⟨b5, 0, none⟩) 1 1]) (cs := [.slice (some ⟨b4, 0, none⟩) 2 2, .int .i64 1, .slice (some ⟨b2, 0, none⟩) 4 4, .slice none 0 0, .slice (some ⟨b2, 0, none⟩) 4 4, .int .i64 1, .int .i64 1, .int .i64 9, .slice (some ⟨b5, 0, none⟩) 1 1]) rfl bd26 rfl rfl) ?_)))))))))))))
 refine s_val rfl rfl (r_bd (parts := [(0, .tmp 13), (1, .const (.int .i64 1)), (2, .const (.int .i64 2)), (3, .const (.int .i64 1))]) (vs := [.agg #[.slice (some ⟨b4, 0, none⟩) 2 2, .int .i64 1, .slice (some ⟨b2, 0, none⟩) 4 4, .slice none 0 0, .slice (some ⟨b2, 0, none⟩) 4 4, .int .i64 1, .int .i64 1, .int .i64 9, .slice (some ⟨b5, 0, none⟩) 1 1], .int .i64 1, .int .i64 2, .int .i64 1]) (cs := [.slice (some ⟨b4, 0, none⟩) 2 2, .int .i64 1, .slice (some ⟨b2, 0, none⟩) 4 4, .slice none 0 0, .slice (some ⟨b2, 0, none⟩) 4 4, .int .i64 1, .int .i64 1, .int .i64 9, .slice (some ⟨b5, 0, none⟩) 1 1, .int .i64 1, .int .i64 2, .int .i64 1]) rfl bd28 rfl rfl) ?_
 replace H := H.p4
 refine s_st rfl rfl rfl ty28 rfl rfl H rfl (Nat.le_of_ble_eq_true rfl) (fun u hu => by simp [Value.cells] at hu; rcases hu with rfl | rfl | rfl | rfl | rfl | rfl | rfl | rfl | rfl | rfl | rfl | rfl <;> rfl) (fun w H => ?_)
 replace H : Hd _ _ _ [blk b1 [.slice (some ⟨b4, 0, none⟩) 2 2, .int .i64 1, .slice (some ⟨b2, 0, none⟩) 4 4, .slice none 0 0, .slice (some ⟨b2, 0, none⟩) 4 4, .int .i64 1, .int .i64 1, .int .i64 9, .slice (some ⟨b5, 0, none⟩) 1 1, .int .i64 1, .int .i64 2, .int .i64 1] 28, blk b5 [.int .i64 1] 3, blk b4 [.slice (some ⟨b3, 0, none⟩) 1 1, .slice none 0 0] 35, blk b3 [.string ⟨#[98]⟩, .string ⟨#[49]⟩] 106, blk b2 [.int .i64 6, .int .i64 0, .string ⟨#[]⟩, .int .i64 7, .int .i64 0, .string ⟨#[]⟩, .int .i64 4, .int .i64 0, .string ⟨#[]⟩, .int .i64 23, .int .i64 0, .string ⟨#[]⟩] 223] [] := H
 refine s_nil (q_then (c_ret (q_retC (cs := [.slice (some ⟨b4, 0, none⟩) 2 2, .int .i64 1, .slice (some ⟨b2, 0, none⟩) 4 4, .slice none 0 0, .slice (some ⟨b2, 0, none⟩) 4 4, .int .i64 1, .int .i64 1, .int .i64 9, .slice (some ⟨b5, 0, none⟩) 1 1, .int .i64 1, .int .i64 2, .int .i64 1]) rfl rfl ty28 rfl (H.cellsI 0 rfl rfl) ?_)))
 replace H := H.p3
 replace H : Hd w0 F0 w [osl kPair (.slice (some ⟨b3, 0, none⟩) 1 1) oneR, blk b1 [.slice (some ⟨b4, 0, none⟩) 2 2, .int .i64 1, .slice (some ⟨b2, 0, none⟩) 4 4, .slice none 0 0, .slice (some ⟨b2, 0, none⟩) 4 4, .int .i64 1, .int .i64 1, .int .i64 9, .slice (some ⟨b5, 0, none⟩) 1 1, .int .i64 1, .int .i64 2, .int .i64 1] 28, blk b5 [.int .i64 1] 3, blk b4 [.slice (some ⟨b3, 0, none⟩) 1 1, .slice none 0 0] 35, blk b2 [.int .i64 6, .int .i64 0, .string ⟨#[]⟩, .int .i64 7, .int .i64 0, .string ⟨#[]⟩, .int .i64 4, .int .i64 0, .string ⟨#[]⟩, .int .i64 23, .int .i64 0, .string ⟨#[]⟩] 223] [] := H.turn (fun F h => blk_osl h rfl (by decide) rfl)
 replace H := H.p4
 replace H : Hd w0 F0 w [osl kIns (.slice (some ⟨b2, 0, none⟩) 4 4) firstP, osl kPair (.slice (some ⟨b3, 0, none⟩) 1 1) oneR, blk b1 [.slice (some ⟨b4, 0, none⟩) 2 2, .int .i64 1, .slice (some ⟨b2, 0, none⟩) 4 4, .slice none 0 0, .slice (some ⟨b2, 0, none⟩) 4 4, .int .i64 1, .int .i64 1, .int .i64 9, .slice (some ⟨b5, 0, none⟩) 1 1, .int .i64 1, .int .i64 2, .int .i64 1] 28, blk b5 [.int .i64 1] 3, blk b4 [.slice (some ⟨b3, 0, none⟩) 1 1, .slice none 0 0] 35] [] := H.turn (fun F h => blk_osl h rfl (by decide) rfl)
 replace H := H.p3
 replace H : Hd w0 F0 w [osl (kInt .i64) (.slice (some ⟨b5, 0, none⟩) 1 1) [1], osl kIns (.slice (some ⟨b2, 0, none⟩) 4 4) firstP, osl kPair (.slice (some ⟨b3, 0, none⟩) 1 1) oneR, blk b1 [.slice (some ⟨b4, 0, none⟩) 2 2, .int .i64 1, .slice (some ⟨b2, 0, none⟩) 4 4, .slice none 0 0, .slice (some ⟨b2, 0, none⟩) 4 4, .int .i64 1, .int .i64 1, .int .i64 9, .slice (some ⟨b5, 0, none⟩) 1 1, .int .i64 1, .int .i64 2, .int .i64 1] 28, blk b4 [.slice (some ⟨b3, 0, none⟩) 1 1, .slice none 0 0] 35] [] := H.turn (fun F h => blk_osl h rfl (by decide) rfl)
 replace H := H.newnil kPair |>.p2 |>.p1 |>.p3 |>.p5 |>.k5
 replace H : Hd w0 F0 w [osl kHdr (.slice (some ⟨b4, 0, none⟩) 2 2) (hdr1 ([(.slice (some ⟨b3, 0, none⟩) 1 1, oneR), (nilS, [])] : List (Value × List Pair))), osl kPair (.slice (some ⟨b3, 0, none⟩) 1 1) oneR, osl kPair (.slice none 0 0) [], osl kIns (.slice (some ⟨b2, 0, none⟩) 4 4) firstP, osl (kInt .i64) (.slice (some ⟨b5, 0, none⟩) 1 1) [1]] [] := H.turn (fun F h => blk_osl h rfl (by decide) rfl)
 replace H := H.p2.p2
 replace H := Hd.stI (Bs := [osl kPair (.slice (some ⟨b3, 0, none⟩) 1 1) oneR, osl kPair (.slice none 0 0) []]) H
 replace H := H.h1 (A := inS kPair ([(.slice (some ⟨b3, 0, none⟩) 1 1, oneR), (nilS, [])] : List (Value × List Pair))) |>.p1 |>.hdI |>.h1 (A := osl (kHd kPair) (.slice (some ⟨b4, 0, none⟩) 2 2) [(.slice (some ⟨b3, 0, none⟩) 1 1, oneR), (nilS, [])])
 exact fin ⟨(.slice (some ⟨b4, 0, none⟩) 2 2), (.slice (some ⟨b2, 0, none⟩) 4 4), (.slice (some ⟨b5, 0, none⟩) 1 1), (.slice (some ⟨b3, 0, none⟩) 1 1), rfl, rfl⟩ H
theorem awake21_ok  :
    Cn Tryz.prog 47 [] [] [gl] (fun v Bs => v = .bool true ∧ Bs = []) := by
 intro w0 F0 H
 refine enter Tryz.func47 rfl rfl (Nat.le_of_ble_eq_true rfl) (c_seq (c_reg (s_1 rfl (s_nil (q_then (c_seq (c_reg (sc (small21_ok) H l0 rfl rfl (e_fn kn117 rfl rfl) ?_))))))))
 rintro _ _ w ⟨vS1, vP2, vK3, u4, rfl, rfl⟩ H
 replace H : Hd _ _ _ [osl (kHd kPair) vS1 [(u4, oneR), (nilS, [])], osl kIns vP2 firstP, osl (kInt .i64) vK3 [1]] [gl] := H
 refine sc (redNew_ok vS1 vP2 (.slice none 0 0) vP2 vK3 (small21 u4) 0 1 (.slice none 0 0) [] (by first | assumption | omega | exact small21_may _ | exact ⟨small21_home _, by decide⟩ | exact OkR.pairs (by assumption) | (unfold In64; omega) | exact (fun r h => by cases h) | decide | (simp only [List.length_nil]; omega) | exact in64_first) (by first | assumption | omega | exact small21_may _ | exact ⟨small21_home _, by decide⟩ | exact OkR.pairs (by assumption) | (unfold In64; omega) | exact (fun r h => by cases h) | decide | (simp only [List.length_nil]; omega) | exact in64_first) (by first | assumption | omega | exact small21_may _ | exact ⟨small21_home _, by decide⟩ | exact OkR.pairs (by assumption) | (unfold In64; omega) | exact (fun r h => by cases h) | decide | (simp only [List.length_nil]; omega) | exact in64_first) (by first | assumption | omega | exact small21_may _ | exact ⟨small21_home _, by decide⟩ | exact OkR.pairs (by assumption) | (unfold In64; omega) | exact (fun r h => by cases h) | decide | (simp only [List.length_nil]; omega) | exact in64_first) (by first | assumption | omega | exact small21_may _ | exact ⟨small21_home _, by decide⟩ | exact OkR.pairs (by assumption) | (unfold In64; omega) | exact (fun r h => by cases h) | decide | (simp only [List.length_nil]; omega) | exact in64_first) (by first | assumption | omega | exact small21_may _ | exact ⟨small21_home _, by decide⟩ | exact OkR.pairs (by assumption) | (unfold In64; omega) | exact (fun r h => by cases h) | decide | (simp only [List.length_nil]; omega) | exact in64_first)) H (lA 0 rfl own_rd (lA 1 rfl own_rd (lX (fun F _ _ => rsl_nil _ _ F trivial (by decide)) (lA 1 rfl own_rd (lA 2 rfl own_rd (lX (fun F _ _ => rsl_nil _ _ F trivial (by decide)) l0)))))) rfl rfl (e_fn kn56 rfl rfl) ?_
 rintro _ _ w ⟨r5, vS6, vM7, vC8, vR9, vK10, J11, hv12, sb13, vs14, us15, rfl, rfl, hf16, hf17⟩ H
 replace H := H.h9 (A := blk r5 (redC vS6 vM7 vC8 vR9 vK10 J11 ((small21 u4).w) ((small21 u4).t) ((small21 u4).o) 0 1 ((newR J11.us.length 0 1 ([].map Rec.p)).g) hv12 sb13 vs14) 185) (B := osl (kHd kPair) vS6 J11.us) (C := osl kIns vM7 J11.map) (D := osl kIns vC8 J11.comb) (E := osl kIns vR9 J11.red) (F := osl (kInt .i64) vK10 J11.marks) (G := prsS ((newR J11.us.length 0 1 ([].map Rec.p)).g) hv12) (I := osl (kHd (kInt .i64)) vs14 us15) (J := stgI 253 sb13 ([]))
 have hsj := hf16
 have hall := aw_all hsj
 have hout := aw_out (D := dg) hsj
 have hC := small21_may u4
 have hlen : J11.us.length = 2 := hsj.len
 have h6 : J11.us.length ≤ 6 := by have := hC.1.1; have := hsj.len; omega
 have hmk : J11.marks.length ≤ 1000 := by have := hC.1.2.2.1; rw [hsj.marks]; omega
 have hred : ∀ i ∈ J11.red, In64 i.a := by rw [hsj.red]; exact in64_first
 have hf64 : In64 J11.fuel := by rw [hsj.fuel]; have := hC.1.2.2.2.2.2.2.2.2.2.2; unfold In64; omega
 have hoks := aw_ok h6
 obtain ⟨R18, hR19⟩ : ∃ z : Red, z = newR J11.us.length 0 1 ([].map Rec.p) := ⟨_, rfl⟩
 rw [← hR19] at H hf17
 have hRp20 : R18.part = 0 := by rw [hR19]; exact (newR_part _ _ _ _).1
 have hRe21 : R18.ep = 1 := by rw [hR19]; exact (newR_part _ _ _ _).2.1
 have hRs22 : R18.st = [] := by rw [hR19]; exact (newR_part _ _ _ _).2.2
 rw [show redC vS6 vM7 vC8 vR9 vK10 J11 ((small21 u4).w) ((small21 u4).t) ((small21 u4).o) 0 1 R18.g hv12 sb13 vs14 = redC vS6 vM7 vC8 vR9 vK10 J11 ((small21 u4).w) ((small21 u4).t) ((small21 u4).o) R18.part R18.ep R18.g hv12 sb13 vs14 from by rw [hRp20, hRe21], show stgI 253 sb13 ([]) = stgI 253 sb13 (R18.st) from by rw [hRs22]] at H
 replace H : Hd _ _ _ [blk r5 (redC vS6 vM7 vC8 vR9 vK10 J11 ((small21 u4).w) ((small21 u4).t) ((small21 u4).o) R18.part R18.ep R18.g hv12 sb13 vs14) 185, osl (kHd kPair) vS6 J11.us, osl kIns vM7 J11.map, osl kIns vC8 J11.comb, osl kIns vR9 J11.red, osl (kInt .i64) vK10 J11.marks, prsS (R18.g) hv12, osl (kHd (kInt .i64)) vs14 us15, stgI 253 sb13 (R18.st), osl (kHd kPair) vS1 [(u4, oneR), (nilS, [])], osl kIns vP2 firstP, osl (kInt .i64) vK3 [1]] [gl] := H
 replace H := redI_shut r5 vS6 vM7 vC8 vR9 vK10 J11 ((small21 u4).w) ((small21 u4).t) ((small21 u4).o) sb13 R18 hv12 vs14 us15 hf17 H
 replace H := H.h1 (A := redI r5 vS6 vM7 vC8 vR9 vK10 J11 ((small21 u4).w) ((small21 u4).t) ((small21 u4).o) sb13 R18)
 have hsj_R18 := hf16
 have hR0 : R18 = aw0 := by rw [hR19]; rfl
 obtain ⟨hk0, hk1, hk2, hk3⟩ := hoks
 rw [← hR0] at hk0
 have hB := hk0.mono (show 99000 ≤ 99999 by omega)
 have hB1 := hk0.mono (show 99000 ≤ 100000 by omega)
 refine s_k 5 rfl (s_nil (q_then ?_))
 replace H := H.k1
 refine c_seq (c_seq (c_reg (s_1 rfl (s_val rfl rfl (r_ne rfl rfl rfl) (s_k 2 rfl (s_val rfl rfl (r_peq rfl un75 rfl rfl) (s_1 rfl (s_nil (q_then (c_no rfl (c_skip (q_then (c_seq (c_reg (s_1 rfl (sc (rwon_ok r5 vS6 vM7 vC8 vR9 vK10 J11 ((small21 u4).w) ((small21 u4).t) ((small21 u4).o) sb13 R18 1 1 0 (by first | assumption | omega | exact small21_may _ | exact ⟨small21_home _, by decide⟩ | exact OkR.pairs (by assumption) | (unfold In64; omega) | exact (fun r h => by cases h) | decide | (simp only [List.length_nil]; omega) | exact in64_first) (by first | assumption | omega | exact small21_may _ | exact ⟨small21_home _, by decide⟩ | exact OkR.pairs (by assumption) | (unfold In64; omega) | exact (fun r h => by cases h) | decide | (simp only [List.length_nil]; omega) | exact in64_first) (by first | assumption | omega | exact small21_may _ | exact ⟨small21_home _, by decide⟩ | exact OkR.pairs (by assumption) | (unfold In64; omega) | exact (fun r h => by cases h) | decide | (simp only [List.length_nil]; omega) | exact in64_first)) H l0 rfl rfl (e_fn kn49 rfl rfl) ?_))))))))))))))))
 rintro v25 _ w ⟨rs23, rfl, hf24⟩ H
 replace H := H.h2 (A := osl kRec v25 rs23) (B := redI r5 vS6 vM7 vC8 vR9 vK10 J11 ((small21 u4).w) ((small21 u4).t) ((small21 u4).o) sb13 ((wonR J11 ((small21 u4).t) R18 1 1 0).1))
 have hq27 : (wonR J11 ((small21 u4).t) R18 1 1 0).1 = (aw1 J11).1 := by rw [hR0]; rfl
 obtain ⟨R26, hR1⟩ : ∃ z : Red, z = (aw1 J11).1 := ⟨_, rfl⟩
 rw [hq27, ← hR1] at H
 replace H : Hd _ _ _ [osl kRec v25 rs23, redI r5 vS6 vM7 vC8 vR9 vK10 J11 ((small21 u4).w) ((small21 u4).t) ((small21 u4).o) sb13 R26] [gl] := H
 have hl1 := congrArg List.length hf24
 rw [List.length_map, hR0] at hl1
 rw [← hR1] at hk1
 have hB1a := hk1.mono (show 99000 ≤ 99999 by omega)
 have hB1b := hk1.mono (show 99000 ≤ 100000 by omega)
 obtain ⟨A28, c29, rfl, hc30, hm31, hp32⟩ := H.fA 0 rfl
 have hn1 := hl1.trans hall.1
 refine s_1 rfl (s_nil (q_then (c_seq (c_reg (s_1 rfl (s_val rfl rfl (r_bd (parts := [(0, .const (.string ⟨#[98]⟩)), (1, .const (.string ⟨#[49]⟩))]) (vs := [.string ⟨#[98]⟩, .string ⟨#[49]⟩]) (cs := [.string ⟨#[98]⟩, .string ⟨#[49]⟩]) rfl bd106 rfl rfl) (s_bsl (parts := [(0, .tmp 25)]) (vs := [.agg #[.string ⟨#[98]⟩, .string ⟨#[49]⟩]]) (cs := [.string ⟨#[98]⟩, .string ⟨#[49]⟩]) rfl rfl rfl sl35 zr106 rfl (by decide) (by decide) rfl rfl H (fun b33 w H => ?_))))))))
 replace H := H.h1 (A := blk b33 [.string ⟨#[98]⟩, .string ⟨#[49]⟩] 106)
 refine s_val rfl rfl (r_bd (parts := [(0, .const (.int .i64 2)), (2, .const (.int .i64 1)), (9, .tmp 26)]) (vs := [.int .i64 2, .int .i64 1, .slice (some ⟨b33, 0, none⟩) 1 1]) (cs := [.int .i64 2, .int .i64 0, .int .i64 1, .int .i64 0, .int .i64 0, .int .i64 0, .int .i64 0, .int .i64 0, .slice none 0 0, .slice (some ⟨b33, 0, none⟩) 1 1]) rfl bd64 rfl rfl) ?_
 replace H := H.p2
 refine sc (rpush_ok r5 vS6 vM7 vC8 vR9 vK10 J11 ((small21 u4).w) ((small21 u4).t) ((small21 u4).o) sb13 R26 (⟨2, 0, 1, 0, 0, 0, 0, 0, [], [(⟨⟨#[98]⟩, ⟨#[49]⟩⟩ : Pair)]⟩ : Msg) (.slice none 0 0) (.slice (some ⟨b33, 0, none⟩) 1 1) (by first | assumption | omega | exact small21_may _ | exact ⟨small21_home _, by decide⟩ | exact OkR.pairs (by assumption) | (unfold In64; omega) | exact (fun r h => by cases h) | decide | (simp only [List.length_nil]; omega) | exact in64_first) (by first | assumption | omega | exact small21_may _ | exact ⟨small21_home _, by decide⟩ | exact OkR.pairs (by assumption) | (unfold In64; omega) | exact (fun r h => by cases h) | decide | (simp only [List.length_nil]; omega) | exact in64_first) (by first | assumption | omega | exact small21_may _ | exact ⟨small21_home _, by decide⟩ | exact OkR.pairs (by assumption) | (unfold In64; omega) | exact (fun r h => by cases h) | decide | (simp only [List.length_nil]; omega) | exact in64_first)) H (lX (fun F _ _ => rsl_nil _ _ F trivial (by decide)) (lA 0 rfl (fun F h => blk_rsl h rfl (by decide) (RepsR.flat_eq.2 rfl)) l0)) rfl rfl (e_fn kn50 rfl rfl) ?_
 rintro _ _ w ⟨u34, rs35, rfl, rfl, hf36⟩ H
 replace H := H.h2 (A := osl kRec u34 rs35) (B := redI r5 vS6 vM7 vC8 vR9 vK10 J11 ((small21 u4).w) ((small21 u4).t) ((small21 u4).o) sb13 ((pushR J11 R26 (⟨2, 0, 1, 0, 0, 0, 0, 0, [], [(⟨⟨#[98]⟩, ⟨#[49]⟩⟩ : Pair)]⟩ : Msg)).1))
 have hq38 : (pushR J11 R26 (⟨2, 0, 1, 0, 0, 0, 0, 0, [], [(⟨⟨#[98]⟩, ⟨#[49]⟩⟩ : Pair)]⟩ : Msg)).1 = (aw2 J11).1 := by rw [hR1]; rfl
 obtain ⟨R37, hR2⟩ : ∃ z : Red, z = (aw2 J11).1 := ⟨_, rfl⟩
 rw [hq38, ← hR2] at H
 replace H : Hd _ _ _ [osl kRec u34 rs35, redI r5 vS6 vM7 vC8 vR9 vK10 J11 ((small21 u4).w) ((small21 u4).t) ((small21 u4).o) sb13 R37, blk b33 [.string ⟨#[98]⟩, .string ⟨#[49]⟩] 106, osl kRec (.slice A28 rs23.length c29) rs23] [gl] := H
 have hl2 := congrArg List.length hf36
 rw [List.length_map, hR1] at hl2
 rw [← hR2] at hk2
 have hB2a := hk2.mono (show 99000 ≤ 99999 by omega)
 have hB2b := hk2.mono (show 99000 ≤ 100000 by omega)
 obtain ⟨A39, c40, rfl, hc41, hm42, hp43⟩ := H.fA 0 rfl
 have hn2 := hl2.trans hall.2.2.1
 refine s_k 3 rfl (s_alloc rfl rfl rfl zr64 H (fun b44 w H => (s_st rfl rfl rfl ty64 rfl rfl H rfl (Nat.le_of_ble_eq_true rfl) (fun u hu => by simp [Value.cells] at hu; rcases hu with rfl | rfl | rfl | rfl | rfl | rfl | rfl | rfl | rfl | rfl <;> rfl) (fun w H => ?_))))
 replace H := H.h1 (A := blk b44 [.int .i64 (((pushR J11 R26 (⟨2, 0, 1, 0, 0, 0, 0, 0, [], [(⟨⟨#[98]⟩, ⟨#[49]⟩⟩ : Pair)]⟩ : Msg)).2.1).kind), .int .i64 (((pushR J11 R26 (⟨2, 0, 1, 0, 0, 0, 0, 0, [], [(⟨⟨#[98]⟩, ⟨#[49]⟩⟩ : Pair)]⟩ : Msg)).2.1).sp), .int .i64 (((pushR J11 R26 (⟨2, 0, 1, 0, 0, 0, 0, 0, [], [(⟨⟨#[98]⟩, ⟨#[49]⟩⟩ : Pair)]⟩ : Msg)).2.1).att), .int .i64 (((pushR J11 R26 (⟨2, 0, 1, 0, 0, 0, 0, 0, [], [(⟨⟨#[98]⟩, ⟨#[49]⟩⟩ : Pair)]⟩ : Msg)).2.1).part), .int .i64 (((pushR J11 R26 (⟨2, 0, 1, 0, 0, 0, 0, 0, [], [(⟨⟨#[98]⟩, ⟨#[49]⟩⟩ : Pair)]⟩ : Msg)).2.1).seq), .int .i64 (((pushR J11 R26 (⟨2, 0, 1, 0, 0, 0, 0, 0, [], [(⟨⟨#[98]⟩, ⟨#[49]⟩⟩ : Pair)]⟩ : Msg)).2.1).next), .int .i64 (((pushR J11 R26 (⟨2, 0, 1, 0, 0, 0, 0, 0, [], [(⟨⟨#[98]⟩, ⟨#[49]⟩⟩ : Pair)]⟩ : Msg)).2.1).ep), .int .i64 (((pushR J11 R26 (⟨2, 0, 1, 0, 0, 0, 0, 0, [], [(⟨⟨#[98]⟩, ⟨#[49]⟩⟩ : Pair)]⟩ : Msg)).2.1).why), .slice none 0 0, .slice none 0 0] 64)
 refine s_1 rfl (s_nil (q_then ?_))
 replace H := H.p4.p3.p3.p3.k4
 refine c_seq (c_reg (s_1 rfl ?_))
 replace H := H.p2
 refine sc (rwon_ok r5 vS6 vM7 vC8 vR9 vK10 J11 ((small21 u4).w) ((small21 u4).t) ((small21 u4).o) sb13 R37 0 1 1 (by first | assumption | omega | exact small21_may _ | exact ⟨small21_home _, by decide⟩ | exact OkR.pairs (by assumption) | (unfold In64; omega) | exact (fun r h => by cases h) | decide | (simp only [List.length_nil]; omega) | exact in64_first) (by first | assumption | omega | exact small21_may _ | exact ⟨small21_home _, by decide⟩ | exact OkR.pairs (by assumption) | (unfold In64; omega) | exact (fun r h => by cases h) | decide | (simp only [List.length_nil]; omega) | exact in64_first) (by first | assumption | omega | exact small21_may _ | exact ⟨small21_home _, by decide⟩ | exact OkR.pairs (by assumption) | (unfold In64; omega) | exact (fun r h => by cases h) | decide | (simp only [List.length_nil]; omega) | exact in64_first)) H l0 rfl rfl (e_fn kn49 rfl rfl) ?_
 rintro v47 _ w ⟨rs45, rfl, hf46⟩ H
 replace H := H.h2 (A := osl kRec v47 rs45) (B := redI r5 vS6 vM7 vC8 vR9 vK10 J11 ((small21 u4).w) ((small21 u4).t) ((small21 u4).o) sb13 ((wonR J11 ((small21 u4).t) R37 0 1 1).1))
 have hq49 : (wonR J11 ((small21 u4).t) R37 0 1 1).1 = (aw3 J11).1 := by rw [hR2]; rfl
 obtain ⟨R48, hR3⟩ : ∃ z : Red, z = (aw3 J11).1 := ⟨_, rfl⟩
 rw [hq49, ← hR3] at H
 replace H : Hd _ _ _ [osl kRec v47 rs45, redI r5 vS6 vM7 vC8 vR9 vK10 J11 ((small21 u4).w) ((small21 u4).t) ((small21 u4).o) sb13 R48, blk b44 [.int .i64 (((pushR J11 R26 (⟨2, 0, 1, 0, 0, 0, 0, 0, [], [(⟨⟨#[98]⟩, ⟨#[49]⟩⟩ : Pair)]⟩ : Msg)).2.1).kind), .int .i64 (((pushR J11 R26 (⟨2, 0, 1, 0, 0, 0, 0, 0, [], [(⟨⟨#[98]⟩, ⟨#[49]⟩⟩ : Pair)]⟩ : Msg)).2.1).sp), .int .i64 (((pushR J11 R26 (⟨2, 0, 1, 0, 0, 0, 0, 0, [], [(⟨⟨#[98]⟩, ⟨#[49]⟩⟩ : Pair)]⟩ : Msg)).2.1).att), .int .i64 (((pushR J11 R26 (⟨2, 0, 1, 0, 0, 0, 0, 0, [], [(⟨⟨#[98]⟩, ⟨#[49]⟩⟩ : Pair)]⟩ : Msg)).2.1).part), .int .i64 (((pushR J11 R26 (⟨2, 0, 1, 0, 0, 0, 0, 0, [], [(⟨⟨#[98]⟩, ⟨#[49]⟩⟩ : Pair)]⟩ : Msg)).2.1).seq), .int .i64 (((pushR J11 R26 (⟨2, 0, 1, 0, 0, 0, 0, 0, [], [(⟨⟨#[98]⟩, ⟨#[49]⟩⟩ : Pair)]⟩ : Msg)).2.1).next), .int .i64 (((pushR J11 R26 (⟨2, 0, 1, 0, 0, 0, 0, 0, [], [(⟨⟨#[98]⟩, ⟨#[49]⟩⟩ : Pair)]⟩ : Msg)).2.1).ep), .int .i64 (((pushR J11 R26 (⟨2, 0, 1, 0, 0, 0, 0, 0, [], [(⟨⟨#[98]⟩, ⟨#[49]⟩⟩ : Pair)]⟩ : Msg)).2.1).why), .slice none 0 0, .slice none 0 0] 64, osl kRec (.slice A39 rs35.length c40) rs35, osl kRec (.slice A28 rs23.length c29) rs23] [gl] := H
 have hl3 := congrArg List.length hf46
 rw [List.length_map, hR2] at hl3
 rw [← hR3] at hk3
 have hB3a := hk3.mono (show 99000 ≤ 99999 by omega)
 have hB3b := hk3.mono (show 99000 ≤ 100000 by omega)
 obtain ⟨A50, c51, rfl, hc52, hm53, hp54⟩ := H.fA 0 rfl
 have hn3 := hl3.trans hall.2.2.2.1
 have hm3 := hall.2.2.2.2.1
 have hs3 := hall.2.2.2.2.2
 rw [← hR3] at hm3 hs3 hout
 refine s_1 rfl (s_nil (q_then (c_seq (c_reg (s_1 rfl ?_)))))
 replace H := H.p1
 obtain ⟨hv55, vs56, us57, hsets58, H⟩ := redI_open r5 vS6 vM7 vC8 vR9 vK10 J11 ((small21 u4).w) ((small21 u4).t) ((small21 u4).o) sb13 R48 H
 replace H := H.h9 (A := blk r5 (redC vS6 vM7 vC8 vR9 vK10 J11 ((small21 u4).w) ((small21 u4).t) ((small21 u4).o) R48.part R48.ep R48.g hv55 sb13 vs56) 185) (B := osl (kHd kPair) vS6 J11.us) (C := osl kIns vM7 J11.map) (D := osl kIns vC8 J11.comb) (E := osl kIns vR9 J11.red) (F := osl (kInt .i64) vK10 J11.marks) (G := prsS (R48.g) hv55) (I := osl (kHd (kInt .i64)) vs56 us57) (J := stgI 253 sb13 (R48.st))
 obtain ⟨A59, c60, rfl, hc61, hm62, hp63⟩ := H.fA 1 rfl
 refine sc (output_ok r5 A59 c60 vM7 vC8 vR9 vK10 J11 ((small21 u4).w) ((small21 u4).t) ((small21 u4).o) R48.part R48.ep R48 hv55 sb13 vs56 (by first | assumption | omega | exact small21_may _ | exact ⟨small21_home _, by decide⟩ | exact OkR.pairs (by assumption) | (unfold In64; omega) | exact (fun r h => by cases h) | decide | (simp only [List.length_nil]; omega) | exact in64_first) (by first | assumption | omega | exact small21_may _ | exact ⟨small21_home _, by decide⟩ | exact OkR.pairs (by assumption) | (unfold In64; omega) | exact (fun r h => by cases h) | decide | (simp only [List.length_nil]; omega) | exact in64_first) (by first | assumption | omega | exact small21_may _ | exact ⟨small21_home _, by decide⟩ | exact OkR.pairs (by assumption) | (unfold In64; omega) | exact (fun r h => by cases h) | decide | (simp only [List.length_nil]; omega) | exact in64_first) (by first | assumption | omega | exact small21_may _ | exact ⟨small21_home _, by decide⟩ | exact OkR.pairs (by assumption) | (unfold In64; omega) | exact (fun r h => by cases h) | decide | (simp only [List.length_nil]; omega) | exact in64_first)) H (lA 0 rfl (fun _ h => h) (lA 6 rfl (fun _ h => h) (lA 4 rfl own_rd (lR 0 rfl l0)))) rfl rfl (e_fn kn60 rfl rfl) ?_
 rintro _ _ w ⟨u64, rfl, rfl⟩ H
 replace H := H.h1 (A := osl kPair u64 ((outR dg J11 R48).1)) |>.p9 |>.p9 |>.p9 |>.p9 |>.p9 |>.p9 |>.p9 |>.p9 |>.p9
 replace H := redI_shut r5 (.slice A59 J11.us.length c60) vM7 vC8 vR9 vK10 J11 ((small21 u4).w) ((small21 u4).t) ((small21 u4).o) sb13 R48 hv55 vs56 us57 hsets58 H
 replace H := H.h1 (A := redI r5 (.slice A59 J11.us.length c60) vM7 vC8 vR9 vK10 J11 ((small21 u4).w) ((small21 u4).t) ((small21 u4).o) sb13 R48)
 refine s_k 7 rfl (s_nil (q_then (c_seq (c_reg (s_1 rfl (s_val rfl rfl (r_lenL rfl un29 rfl) (s_val rfl rfl (r_eq rfl rfl rfl) (s_1 rfl ?_))))))))
 refine s_dec (d := 42) rfl (fun h65 => ?_) (fun h65 => ?_)
 ·refine s_val rfl rfl (r_fa rfl fo64_5 rfl) (s_val rfl rfl (r_ld rfl ty3 rfl (H.cellI 3 rfl rfl)) (s_val rfl rfl (r_eq rfl rfl rfl) (s_k 2 rfl ?_)))
  refine s_dec (d := 47) rfl (fun h66 => ?_) (fun h66 => ?_)
  ·refine s_1 rfl (s_val rfl rfl (r_lenL rfl un29 rfl) (s_val rfl rfl (r_eq rfl rfl rfl) (s_k 2 rfl ?_)))
   refine s_dec (d := 52) rfl (fun h67 => ?_) (fun h67 => ?_)
   ·refine s_1 rfl (s_val rfl rfl (r_lenL rfl un29 rfl) (s_val rfl rfl (r_eq rfl rfl rfl) (s_k 2 rfl ?_)))
    refine s_dec (d := 57) rfl (fun h68 => ?_) (fun h68 => ?_)
    ·refine s_1 rfl (s_val rfl rfl (r_bd (parts := [(0, .const (.string ⟨#[98]⟩)), (1, .const (.string ⟨#[49]⟩))]) (vs := [.string ⟨#[98]⟩, .string ⟨#[49]⟩]) (cs := [.string ⟨#[98]⟩, .string ⟨#[49]⟩]) rfl bd106 rfl rfl) (s_bsl (parts := [(0, .tmp 59)]) (vs := [.agg #[.string ⟨#[98]⟩, .string ⟨#[49]⟩]]) (cs := [.string ⟨#[98]⟩, .string ⟨#[49]⟩]) rfl rfl rfl sl35 zr106 rfl (by decide) (by decide) rfl rfl H (fun b69 w H => (sc (samePairs_ok u64 (.slice (some ⟨b69, 0, none⟩) 1 1) ((outR dg J11 R48).1) [(⟨⟨#[98]⟩, ⟨#[49]⟩⟩ : Pair)]) H (lA 2 rfl own_rd (lA 0 rfl (fun F h => blk_rsl h rfl (by decide) (RepsR.flat_eq.2 rfl)) l0)) rfl rfl (e_fn kn25 rfl rfl) ?_))))
     rintro _ _ w ⟨rfl, rfl⟩ H
     refine s_k 2 rfl ?_
     refine s_dec (d := 63) rfl (fun h70 => ?_) (fun h70 => ?_)
     ·refine s_k 3 rfl ?_
      refine s_boo (d := 66) (b := (outR dg J11 R48).2.2) rfl (fun h71 => ?_) (fun h71 => ?_)
      ·refine s_1 rfl ?_
       replace H := H.p1
       replace H : Hd _ _ _ [redI r5 (.slice A59 J11.us.length c60) vM7 vC8 vR9 vK10 J11 ((small21 u4).w) ((small21 u4).t) ((small21 u4).o) sb13 R48, blk b69 [.string ⟨#[98]⟩, .string ⟨#[49]⟩] 106, osl kPair u64 ((outR dg J11 R48).1), osl kRec (.slice A50 rs45.length c51) rs45, blk b44 [.int .i64 (((pushR J11 R26 (⟨2, 0, 1, 0, 0, 0, 0, 0, [], [(⟨⟨#[98]⟩, ⟨#[49]⟩⟩ : Pair)]⟩ : Msg)).2.1).kind), .int .i64 (((pushR J11 R26 (⟨2, 0, 1, 0, 0, 0, 0, 0, [], [(⟨⟨#[98]⟩, ⟨#[49]⟩⟩ : Pair)]⟩ : Msg)).2.1).sp), .int .i64 (((pushR J11 R26 (⟨2, 0, 1, 0, 0, 0, 0, 0, [], [(⟨⟨#[98]⟩, ⟨#[49]⟩⟩ : Pair)]⟩ : Msg)).2.1).att), .int .i64 (((pushR J11 R26 (⟨2, 0, 1, 0, 0, 0, 0, 0, [], [(⟨⟨#[98]⟩, ⟨#[49]⟩⟩ : Pair)]⟩ : Msg)).2.1).part), .int .i64 (((pushR J11 R26 (⟨2, 0, 1, 0, 0, 0, 0, 0, [], [(⟨⟨#[98]⟩, ⟨#[49]⟩⟩ : Pair)]⟩ : Msg)).2.1).seq), .int .i64 (((pushR J11 R26 (⟨2, 0, 1, 0, 0, 0, 0, 0, [], [(⟨⟨#[98]⟩, ⟨#[49]⟩⟩ : Pair)]⟩ : Msg)).2.1).next), .int .i64 (((pushR J11 R26 (⟨2, 0, 1, 0, 0, 0, 0, 0, [], [(⟨⟨#[98]⟩, ⟨#[49]⟩⟩ : Pair)]⟩ : Msg)).2.1).ep), .int .i64 (((pushR J11 R26 (⟨2, 0, 1, 0, 0, 0, 0, 0, [], [(⟨⟨#[98]⟩, ⟨#[49]⟩⟩ : Pair)]⟩ : Msg)).2.1).why), .slice none 0 0, .slice none 0 0] 64, osl kRec (.slice A39 rs35.length c40) rs35, osl kRec (.slice A28 rs23.length c29) rs23] [gl] := H
       obtain ⟨hv72, vs73, us74, hsets75, H⟩ := redI_open r5 (.slice A59 J11.us.length c60) vM7 vC8 vR9 vK10 J11 ((small21 u4).w) ((small21 u4).t) ((small21 u4).o) sb13 R48 H
       replace H := H.h9 (A := blk r5 (redC (.slice A59 J11.us.length c60) vM7 vC8 vR9 vK10 J11 ((small21 u4).w) ((small21 u4).t) ((small21 u4).o) R48.part R48.ep R48.g hv72 sb13 vs73) 185) (B := osl (kHd kPair) (.slice A59 J11.us.length c60) J11.us) (C := osl kIns vM7 J11.map) (D := osl kIns vC8 J11.comb) (E := osl kIns vR9 J11.red) (F := osl (kInt .i64) vK10 J11.marks) (G := prsS (R48.g) hv72) (I := osl (kHd (kInt .i64)) vs73 us74) (J := stgI 253 sb13 (R48.st))
       refine sc (merged_ok r5 A59 c60 vM7 vC8 vR9 vK10 J11 ((small21 u4).w) ((small21 u4).t) ((small21 u4).o) R48.part R48.ep R48 hv72 sb13 vs73 (by first | assumption | omega | exact small21_may _ | exact ⟨small21_home _, by decide⟩ | exact OkR.pairs (by assumption) | (unfold In64; omega) | exact (fun r h => by cases h) | decide | (simp only [List.length_nil]; omega) | exact in64_first)) H (lA 0 rfl (fun _ h => h) l0) rfl rfl (e_fn kn51 rfl rfl) ?_
       rintro v76 _ w rfl H
       replace H := H.h1 (A := osl (kInt .i64) v76 (mergedL J11.us.length R48)) |>.p9 |>.p9 |>.p9 |>.p9 |>.p9 |>.p9 |>.p9 |>.p9 |>.p9
       replace H := redI_shut r5 (.slice A59 J11.us.length c60) vM7 vC8 vR9 vK10 J11 ((small21 u4).w) ((small21 u4).t) ((small21 u4).o) sb13 R48 hv72 vs73 us74 hsets75 H
       replace H := H.h1 (A := redI r5 (.slice A59 J11.us.length c60) vM7 vC8 vR9 vK10 J11 ((small21 u4).w) ((small21 u4).t) ((small21 u4).o) sb13 R48)
       refine s_bsl (parts := [(0, .const (.int .i64 0)), (1, .const (.int .i64 1))]) (vs := [.int .i64 0, .int .i64 1]) (cs := [.int .i64 0, .int .i64 1]) rfl rfl rfl sl24 zr3 rfl (by decide) (by decide) rfl rfl H (fun b77 w H => (sc (sameInts_ok v76 (.slice (some ⟨b77, 0, none⟩) 2 2) (mergedL J11.us.length R48) [0, 1]) H (lA 2 rfl own_rd (lA 0 rfl (fun F h => blk_rsl h rfl (by decide) (RepsR.flat_eq.2 rfl)) l0)) rfl rfl (e_fn kn33 rfl rfl) ?_))
       rintro _ _ w ⟨rfl, rfl⟩ H
       refine s_k 2 rfl ?_
       refine s_dec (d := 72) rfl (fun h78 => ?_) (fun h78 => ?_)
       ·refine s_1 rfl ?_
        replace H := H.p1
        replace H : Hd _ _ _ [redI r5 (.slice A59 J11.us.length c60) vM7 vC8 vR9 vK10 J11 ((small21 u4).w) ((small21 u4).t) ((small21 u4).o) sb13 R48, blk b77 [.int .i64 0, .int .i64 1] 3, osl (kInt .i64) v76 (mergedL J11.us.length R48), blk b69 [.string ⟨#[98]⟩, .string ⟨#[49]⟩] 106, osl kPair u64 ((outR dg J11 R48).1), osl kRec (.slice A50 rs45.length c51) rs45, blk b44 [.int .i64 (((pushR J11 R26 (⟨2, 0, 1, 0, 0, 0, 0, 0, [], [(⟨⟨#[98]⟩, ⟨#[49]⟩⟩ : Pair)]⟩ : Msg)).2.1).kind), .int .i64 (((pushR J11 R26 (⟨2, 0, 1, 0, 0, 0, 0, 0, [], [(⟨⟨#[98]⟩, ⟨#[49]⟩⟩ : Pair)]⟩ : Msg)).2.1).sp), .int .i64 (((pushR J11 R26 (⟨2, 0, 1, 0, 0, 0, 0, 0, [], [(⟨⟨#[98]⟩, ⟨#[49]⟩⟩ : Pair)]⟩ : Msg)).2.1).att), .int .i64 (((pushR J11 R26 (⟨2, 0, 1, 0, 0, 0, 0, 0, [], [(⟨⟨#[98]⟩, ⟨#[49]⟩⟩ : Pair)]⟩ : Msg)).2.1).part), .int .i64 (((pushR J11 R26 (⟨2, 0, 1, 0, 0, 0, 0, 0, [], [(⟨⟨#[98]⟩, ⟨#[49]⟩⟩ : Pair)]⟩ : Msg)).2.1).seq), .int .i64 (((pushR J11 R26 (⟨2, 0, 1, 0, 0, 0, 0, 0, [], [(⟨⟨#[98]⟩, ⟨#[49]⟩⟩ : Pair)]⟩ : Msg)).2.1).next), .int .i64 (((pushR J11 R26 (⟨2, 0, 1, 0, 0, 0, 0, 0, [], [(⟨⟨#[98]⟩, ⟨#[49]⟩⟩ : Pair)]⟩ : Msg)).2.1).ep), .int .i64 (((pushR J11 R26 (⟨2, 0, 1, 0, 0, 0, 0, 0, [], [(⟨⟨#[98]⟩, ⟨#[49]⟩⟩ : Pair)]⟩ : Msg)).2.1).why), .slice none 0 0, .slice none 0 0] 64, osl kRec (.slice A39 rs35.length c40) rs35, osl kRec (.slice A28 rs23.length c29) rs23] [gl] := H
        obtain ⟨hv79, vs80, us81, hsets82, H⟩ := redI_open r5 (.slice A59 J11.us.length c60) vM7 vC8 vR9 vK10 J11 ((small21 u4).w) ((small21 u4).t) ((small21 u4).o) sb13 R48 H
        replace H := H.h9 (A := blk r5 (redC (.slice A59 J11.us.length c60) vM7 vC8 vR9 vK10 J11 ((small21 u4).w) ((small21 u4).t) ((small21 u4).o) R48.part R48.ep R48.g hv79 sb13 vs80) 185) (B := osl (kHd kPair) (.slice A59 J11.us.length c60) J11.us) (C := osl kIns vM7 J11.map) (D := osl kIns vC8 J11.comb) (E := osl kIns vR9 J11.red) (F := osl (kInt .i64) vK10 J11.marks) (G := prsS (R48.g) hv79) (I := osl (kHd (kInt .i64)) vs80 us81) (J := stgI 253 sb13 (R48.st))
        have hul_us81 := us_len hsets82 (show OkR _ R48 by assumption) (by omega)
        have hsl_us81 := us_small hsets82 (show OkR _ R48 by assumption)
        refine sc (snaps_ok r5 A59 c60 vM7 vC8 vR9 vK10 J11 ((small21 u4).w) ((small21 u4).t) ((small21 u4).o) R48.part R48.ep R48 hv79 sb13 vs80 us81 (by first | assumption | omega | exact small21_may _ | exact ⟨small21_home _, by decide⟩ | exact OkR.pairs (by assumption) | (unfold In64; omega) | exact (fun r h => by cases h) | decide | (simp only [List.length_nil]; omega) | exact in64_first) (by first | assumption | omega | exact small21_may _ | exact ⟨small21_home _, by decide⟩ | exact OkR.pairs (by assumption) | (unfold In64; omega) | exact (fun r h => by cases h) | decide | (simp only [List.length_nil]; omega) | exact in64_first) (by first | assumption | omega | exact small21_may _ | exact ⟨small21_home _, by decide⟩ | exact OkR.pairs (by assumption) | (unfold In64; omega) | exact (fun r h => by cases h) | decide | (simp only [List.length_nil]; omega) | exact in64_first) (by first | assumption | omega | exact small21_may _ | exact ⟨small21_home _, by decide⟩ | exact OkR.pairs (by assumption) | (unfold In64; omega) | exact (fun r h => by cases h) | decide | (simp only [List.length_nil]; omega) | exact in64_first) (by first | assumption | omega | exact small21_may _ | exact ⟨small21_home _, by decide⟩ | exact OkR.pairs (by assumption) | (unfold In64; omega) | exact (fun r h => by cases h) | decide | (simp only [List.length_nil]; omega) | exact in64_first) (by first | assumption | omega | exact small21_may _ | exact ⟨small21_home _, by decide⟩ | exact OkR.pairs (by assumption) | (unfold In64; omega) | exact (fun r h => by cases h) | decide | (simp only [List.length_nil]; omega) | exact in64_first) (by first | assumption | omega | exact small21_may _ | exact ⟨small21_home _, by decide⟩ | exact OkR.pairs (by assumption) | (unfold In64; omega) | exact (fun r h => by cases h) | decide | (simp only [List.length_nil]; omega) | exact in64_first)) H (lA 0 rfl (fun _ h => h) (lA 6 rfl (fun _ h => h) (lA 4 rfl own_rd (lA 7 rfl own_rd (lR 0 rfl l0))))) rfl rfl (e_fn kn59 rfl rfl) ?_
        rintro v85 _ w ⟨zs83, rfl, hf84⟩ H
        have hsl := congrArg List.length hf84
        rw [List.length_map] at hsl
        have hsl2 : (snapsR dg J11 R48).length = 1 := by unfold snapsR; rw [List.length_map]; exact hs3
        obtain ⟨A86, c87, rfl, hc88, hm89, hp90⟩ := H.fA 0 rfl
        replace H : Hd _ _ _ [osl kSnap (.slice A86 zs83.length c87) zs83, blk r5 (redC (.slice A59 J11.us.length c60) vM7 vC8 vR9 vK10 J11 ((small21 u4).w) ((small21 u4).t) ((small21 u4).o) R48.part R48.ep R48.g hv79 sb13 vs80) 185, osl (kHd kPair) (.slice A59 J11.us.length c60) J11.us, osl kIns vM7 J11.map, osl kIns vC8 J11.comb, osl kIns vR9 J11.red, osl (kInt .i64) vK10 J11.marks, prsS (R48.g) hv79, osl (kHd (kInt .i64)) vs80 us81, stgI 253 sb13 (R48.st), blk b77 [.int .i64 0, .int .i64 1] 3, osl (kInt .i64) v76 (mergedL J11.us.length R48), blk b69 [.string ⟨#[98]⟩, .string ⟨#[49]⟩] 106, osl kPair u64 ((outR dg J11 R48).1), osl kRec (.slice A50 rs45.length c51) rs45, blk b44 [.int .i64 (((pushR J11 R26 (⟨2, 0, 1, 0, 0, 0, 0, 0, [], [(⟨⟨#[98]⟩, ⟨#[49]⟩⟩ : Pair)]⟩ : Msg)).2.1).kind), .int .i64 (((pushR J11 R26 (⟨2, 0, 1, 0, 0, 0, 0, 0, [], [(⟨⟨#[98]⟩, ⟨#[49]⟩⟩ : Pair)]⟩ : Msg)).2.1).sp), .int .i64 (((pushR J11 R26 (⟨2, 0, 1, 0, 0, 0, 0, 0, [], [(⟨⟨#[98]⟩, ⟨#[49]⟩⟩ : Pair)]⟩ : Msg)).2.1).att), .int .i64 (((pushR J11 R26 (⟨2, 0, 1, 0, 0, 0, 0, 0, [], [(⟨⟨#[98]⟩, ⟨#[49]⟩⟩ : Pair)]⟩ : Msg)).2.1).part), .int .i64 (((pushR J11 R26 (⟨2, 0, 1, 0, 0, 0, 0, 0, [], [(⟨⟨#[98]⟩, ⟨#[49]⟩⟩ : Pair)]⟩ : Msg)).2.1).seq), .int .i64 (((pushR J11 R26 (⟨2, 0, 1, 0, 0, 0, 0, 0, [], [(⟨⟨#[98]⟩, ⟨#[49]⟩⟩ : Pair)]⟩ : Msg)).2.1).next), .int .i64 (((pushR J11 R26 (⟨2, 0, 1, 0, 0, 0, 0, 0, [], [(⟨⟨#[98]⟩, ⟨#[49]⟩⟩ : Pair)]⟩ : Msg)).2.1).ep), .int .i64 (((pushR J11 R26 (⟨2, 0, 1, 0, 0, 0, 0, 0, [], [(⟨⟨#[98]⟩, ⟨#[49]⟩⟩ : Pair)]⟩ : Msg)).2.1).why), .slice none 0 0, .slice none 0 0] 64, osl kRec (.slice A39 rs35.length c40) rs35, osl kRec (.slice A28 rs23.length c29) rs23] [gl] := H
        replace H := H.p9.p9.p9.p9.p9.p9.p9.p9.p9
        replace H := redI_shut r5 (.slice A59 J11.us.length c60) vM7 vC8 vR9 vK10 J11 ((small21 u4).w) ((small21 u4).t) ((small21 u4).o) sb13 R48 hv79 vs80 us81 hsets82 H
        replace H := H.h1 (A := redI r5 (.slice A59 J11.us.length c60) vM7 vC8 vR9 vK10 J11 ((small21 u4).w) ((small21 u4).t) ((small21 u4).o) sb13 R48)
        refine s_val rfl rfl (r_lenL rfl un94 rfl) (s_val rfl rfl (r_eq rfl rfl rfl) (s_k 2 rfl (s_nil (q_then ?_))))
        replace H := H.p1.k1
        refine c_ret (q_ret1 rfl rfl ?_)
        replace H := H.nil
        exact fin ⟨congrArg Value.bool (decide_eq_true (by omega)), rfl⟩ H
       exact (h78 hm3).elim
      exact absurd hout.2 (by rw [h71]; decide)
     exact (h70 hout.1).elim
    exact (h68 (by omega)).elim
   exact (h67 (by omega)).elim
  exact (h66 (by rw [hR1]; exact hall.2.1)).elim
 exact (h65 (by omega)).elim
theorem reducerNone_ok (x : A21H) (xsv : Value) (xse : List Int) (xpv : Value) (xpr : List Pair) (wx : InT (fun a : A21H => InM a.m ∧ In64 a.n) (fun p : Pair => p.key.size ≤ 9223372036854775807 ∧ p.val.size ≤ 9223372036854775807) ⟨x, xsv, xse, xpv, xpr⟩) :
    Cn Tryz.prog 10 [.agg #[.bool x.won, .int .i64 x.m.kind, .int .i64 x.m.sp, .int .i64 x.m.att, .int .i64 x.m.part, .int .i64 x.m.seq, .int .i64 x.m.next, .int .i64 x.m.ep, .int .i64 x.m.why, xsv, xpv, .int .i64 x.n]] [] [rsl (kInt .i64) xsv xse, rsl kPair xpv xpr, gl] (fun v Bs => v = .bool true ∧ Bs = []) := by
 intro w0 F0 H
 obtain ⟨A1, c2, rfl, hc3, hm4, hp5⟩ := H.fR 0 rfl
 obtain ⟨A6, c7, rfl, hc8, hm9, hp10⟩ := H.fR 1 rfl
 refine enter Tryz.func10 rfl rfl (Nat.le_of_ble_eq_true rfl) (c_seq (c_reg (s_box rfl rfl rfl rfl H (fun b11 w H => (s_1 rfl (s_nil (q_then ?_)))))))
 replace H : Hd _ _ _ [blk b11 [.bool x.won, .int .i64 x.m.kind, .int .i64 x.m.sp, .int .i64 x.m.att, .int .i64 x.m.part, .int .i64 x.m.seq, .int .i64 x.m.next, .int .i64 x.m.ep, .int .i64 x.m.why, .slice A1 xse.length c2, .slice A6 xpr.length c7, .int .i64 x.n] 79] [rsl (kInt .i64) (.slice A1 xse.length c2) xse, rsl kPair (.slice A6 xpr.length c7) xpr, gl] := H
 refine c_seq (c_seq (c_reg (s_val rfl rfl (r_fa rfl fo79_1 rfl) (s_val rfl rfl (r_ldA (cs := [.int .i64 x.m.kind, .int .i64 x.m.sp, .int .i64 x.m.att, .int .i64 x.m.part, .int .i64 x.m.seq, .int .i64 x.m.next, .int .i64 x.m.ep, .int .i64 x.m.why, .slice A1 xse.length c2, .slice A6 xpr.length c7]) rfl ty64 rfl rfl (H.cellsI 0 rfl rfl)) (sc (greatMsg_ok (⟨x.m.kind, x.m.sp, x.m.att, x.m.part, x.m.seq, x.m.next, x.m.ep, x.m.why⟩ : MesH) (.slice A1 xse.length c2) xse (.slice A6 xpr.length c7) xpr) H (lR 0 rfl (lR 1 rfl l0)) rfl rfl (e_fn kn62 rfl rfl) ?_)))))
 rintro _ _ w ⟨rfl, rfl⟩ H
 refine s_nil (q_then ?_)
 refine c_cond (b := greatSP xse xpr) rfl (fun h12 => ?_) (fun h12 => ?_)
 ·refine c_seq (c_reg (sc (awake21_ok) H (lR 2 rfl l0) rfl rfl (e_fn kn47 rfl rfl) ?_))
  rintro _ _ w ⟨rfl, rfl⟩ H
  refine s_1 rfl (s_nil (q_then (c_ret (q_thenR (q_ret1 rfl rfl ?_)))))
  replace H := H.nil
  exact fin ⟨rfl, rfl⟩ H
 refine c_skip (q_then (c_seq (c_reg (s_1 rfl (s_nil (q_then (c_seq (c_reg (s_1 rfl (s_val rfl rfl (r_fa rfl fo79_1 rfl) (s_val rfl rfl (r_ldA (cs := [.int .i64 x.m.kind, .int .i64 x.m.sp, .int .i64 x.m.att, .int .i64 x.m.part, .int .i64 x.m.seq, .int .i64 x.m.next, .int .i64 x.m.ep, .int .i64 x.m.why, .slice A1 xse.length c2, .slice A6 xpr.length c7]) rfl ty64 rfl rfl (H.cellsI 0 rfl rfl)) (sc (rpush_nil (⟨x.m.kind, x.m.sp, x.m.att, x.m.part, x.m.seq, x.m.next, x.m.ep, x.m.why, xse, xpr⟩ : Msg) (.slice A1 xse.length c2) (.slice A6 xpr.length c7)) H (lR 0 rfl (lR 1 rfl l0)) rfl rfl (e_fn kn50 rfl rfl) ?_))))))))))))
 rintro _ _ w ⟨rfl, rfl⟩ H
 refine s_k 3 rfl (s_alloc rfl rfl rfl zr64 H (fun b13 w H => (s_st rfl rfl rfl ty64 rfl rfl H rfl (Nat.le_of_ble_eq_true rfl) (fun u hu => by simp [Value.cells] at hu; rcases hu with rfl | rfl | rfl | rfl | rfl | rfl | rfl | rfl | rfl | rfl <;> rfl) (fun w H => ?_))))
 replace H := H.h1 (A := blk b13 [.int .i64 0, .int .i64 0, .int .i64 0, .int .i64 0, .int .i64 0, .int .i64 0, .int .i64 0, .int .i64 0, .slice none 0 0, .slice none 0 0] 64)
 refine s_1 rfl (s_nil (q_then (c_seq (c_reg (s_1 rfl (sc (output_nil) H l0 rfl rfl (e_fn kn60 rfl rfl) ?_))))))
 rintro _ _ w ⟨rfl, rfl⟩ H
 refine s_k 7 rfl (s_nil (q_then (c_seq (c_reg (s_val rfl rfl (r_ldA (cs := [.int .i64 0, .int .i64 0, .int .i64 0, .int .i64 0, .int .i64 0, .int .i64 0, .int .i64 0, .int .i64 0, .slice none 0 0, .slice none 0 0]) rfl ty64 rfl rfl (H.cellsI 0 rfl rfl)) (s_val rfl rfl (r_bd (parts := []) (vs := []) (cs := [.int .i64 0, .int .i64 0, .int .i64 0, .int .i64 0, .int .i64 0, .int .i64 0, .int .i64 0, .int .i64 0, .slice none 0 0, .slice none 0 0]) rfl bd64 rfl rfl) (sc (sameMsg_ok (⟨0, 0, 0, 0, 0, 0, 0, 0⟩ : MesH) (.slice none 0 0) [] (.slice none 0 0) [] (⟨0, 0, 0, 0, 0, 0, 0, 0⟩ : MesH) (.slice none 0 0) [] (.slice none 0 0) []) H (lX (fun F _ _ => rsl_nil _ _ F trivial (by decide)) (lX (fun F _ _ => rsl_nil _ _ F trivial (by decide)) (lX (fun F _ _ => rsl_nil _ _ F trivial (by decide)) (lX (fun F _ _ => rsl_nil _ _ F trivial (by decide)) l0)))) rfl rfl (e_fn kn63 rfl rfl) ?_)))))))
 rintro _ _ w ⟨rfl, rfl⟩ H
 refine s_1 rfl ?_
 refine s_dec (d := 29) rfl (fun h14 => ?_) (fun h14 => ?_)
 ·refine s_1 rfl (s_val rfl rfl (r_lenL rfl un29 rfl) (s_val rfl rfl (r_eq rfl rfl rfl) (s_k 3 rfl ?_)))
  replace H : Hd _ _ _ [blk b13 [.int .i64 0, .int .i64 0, .int .i64 0, .int .i64 0, .int .i64 0, .int .i64 0, .int .i64 0, .int .i64 0, .slice none 0 0, .slice none 0 0] 64, blk b11 [.bool x.won, .int .i64 x.m.kind, .int .i64 x.m.sp, .int .i64 x.m.att, .int .i64 x.m.part, .int .i64 x.m.seq, .int .i64 x.m.next, .int .i64 x.m.ep, .int .i64 x.m.why, .slice A1 xse.length c2, .slice A6 xpr.length c7, .int .i64 x.n] 79] [rsl (kInt .i64) (.slice A1 xse.length c2) xse, rsl kPair (.slice A6 xpr.length c7) xpr, gl] := H
  refine sc (rwon_nil 0 1 0) H l0 rfl rfl (e_fn kn49 rfl rfl) ?_
  rintro _ _ w ⟨rfl, rfl⟩ H
  refine s_val rfl rfl (r_lenL rfl un29 rfl) (s_val rfl rfl (r_eq rfl rfl rfl) (s_k 3 rfl (sc (merged_nil) H l0 rfl rfl (e_fn kn51 rfl rfl) ?_)))
  rintro _ _ w ⟨rfl, rfl⟩ H
  refine s_val rfl rfl (r_lenL rfl un24 rfl) (s_val rfl rfl (r_eq rfl rfl rfl) (s_k 3 rfl (sc (rpairs_nil 0) H l0 rfl rfl (e_fn kn52 rfl rfl) ?_)))
  rintro _ _ w ⟨rfl, rfl⟩ H
  refine s_val rfl rfl (r_lenL rfl un35 rfl) (s_val rfl rfl (r_eq rfl rfl rfl) (s_k 3 rfl (sc (snaps_nil) H l0 rfl rfl (e_fn kn59 rfl rfl) ?_)))
  rintro _ _ w ⟨rfl, rfl⟩ H
  refine s_val rfl rfl (r_lenL rfl un94 rfl) (s_val rfl rfl (r_eq rfl rfl rfl) (s_k 3 rfl (s_val rfl rfl (r_lenL rfl un35 rfl) (s_val rfl rfl (r_eq rfl rfl rfl) (s_k 3 rfl (s_val rfl rfl (r_eq rfl rfl rfl) (s_k 3 rfl (s_val rfl rfl (r_not rfl rfl rfl) (s_k 3 rfl (sc (hello_nil) H l0 rfl rfl (e_fn kn61 rfl rfl) ?_))))))))))
  rintro _ _ w ⟨rfl, rfl⟩ H
  refine s_val rfl rfl (r_bd (parts := []) (vs := []) (cs := [.int .i64 0, .int .i64 0, .int .i64 0, .int .i64 0, .int .i64 0, .int .i64 0, .int .i64 0, .int .i64 0, .slice none 0 0, .slice none 0 0]) rfl bd64 rfl rfl) (sc (sameMsg_ok (⟨0, 0, 0, 0, 0, 0, 0, 0⟩ : MesH) (.slice none 0 0) [] (.slice none 0 0) [] (⟨0, 0, 0, 0, 0, 0, 0, 0⟩ : MesH) (.slice none 0 0) [] (.slice none 0 0) []) H (lX (fun F _ _ => rsl_nil _ _ F trivial (by decide)) (lX (fun F _ _ => rsl_nil _ _ F trivial (by decide)) (lX (fun F _ _ => rsl_nil _ _ F trivial (by decide)) (lX (fun F _ _ => rsl_nil _ _ F trivial (by decide)) l0)))) rfl rfl (e_fn kn63 rfl rfl) ?_)
  rintro _ _ w ⟨rfl, rfl⟩ H
  refine s_k 2 rfl ?_
  refine s_dec (d := 77) rfl (fun h15 => ?_) (fun h15 => ?_)
  ·refine s_1 rfl ?_
   replace H : Hd _ _ _ [blk b13 [.int .i64 0, .int .i64 0, .int .i64 0, .int .i64 0, .int .i64 0, .int .i64 0, .int .i64 0, .int .i64 0, .slice none 0 0, .slice none 0 0] 64, blk b11 [.bool x.won, .int .i64 x.m.kind, .int .i64 x.m.sp, .int .i64 x.m.att, .int .i64 x.m.part, .int .i64 x.m.seq, .int .i64 x.m.next, .int .i64 x.m.ep, .int .i64 x.m.why, .slice A1 xse.length c2, .slice A6 xpr.length c7, .int .i64 x.n] 79] [rsl (kInt .i64) (.slice A1 xse.length c2) xse, rsl kPair (.slice A6 xpr.length c7) xpr, gl] := H
   refine sc (staged_nil) H l0 rfl rfl (e_fn kn57 rfl rfl) ?_
   rintro _ _ w ⟨rfl, rfl⟩ H
   refine s_val rfl rfl (r_eq rfl rfl rfl) (s_k 2 rfl (sc (awake21_ok) H (lR 2 rfl l0) rfl rfl (e_fn kn47 rfl rfl) ?_))
   rintro _ _ w ⟨rfl, rfl⟩ H
   refine s_k 2 rfl (s_nil (q_then (c_ret (q_ret1 rfl rfl ?_))))
   replace H := H.nil
   exact fin ⟨rfl, rfl⟩ H
  exact (h15 rfl).elim
 exact (h14 rfl).elim
theorem v_foot {P : Program} {W : World} {name : String} {g : Nat} {cs : Array Value} (hg : P.globalNamed name = some g) (h : W.var? P name = some cs) : Old W g := by
 unfold World.var? at h
 rw [hg] at h
 simp only [Option.bind_some] at h
 show g < W.heap.size
 rcases Nat.lt_or_ge g W.heap.size with h' | h'
 ·exact h'
 ·simp [Array.getElem?_eq_none h'] at h
theorem star2 : "*" ++ "errors.errorString" = "*errors.errorString" := by decide
theorem ptrRow (u : TypeId) (h : Tryz.prog.typeName? 3 u = some "*errors.errorString") : u = 409 := typeName_ptr_named (nm := "errors.errorString") (by rw [star2]; kernel_rfl) (by kernel_rfl) (by decide) u (by rw [star2]; exact h)
theorem gn0 : Tryz.prog.globalNamed "internal/strconv.uint64pow10" = some 2 := by kernel_rfl
theorem gt0 : (Tryz.prog.globals[2]?).map (·.type) = some 406 := by kernel_rfl
theorem gn1 : Tryz.prog.globalNamed "strconv.ErrSyntax" = some 0 := by kernel_rfl
theorem gt1 : (Tryz.prog.globals[0]?).map (·.type) = some 370 := by kernel_rfl
theorem gn2 : Tryz.prog.globalNamed "strconv.ErrRange" = some 1 := by kernel_rfl
theorem gt2 : (Tryz.prog.globals[1]?).map (·.type) = some 370 := by kernel_rfl
theorem lu370 : Tryz.prog.underlying 370 = some (.interface (Tryz.prog.methodsAt 370)) := by kernel_rfl
theorem lu406 : Tryz.prog.underlying 406 = some (.array 20 270) := by kernel_rfl
theorem lu270 : Tryz.prog.underlying 270 = some (.int .u64) := by kernel_rfl
theorem lu409 : Tryz.prog.underlying 409 = some (.pointer 411) := by kernel_rfl
theorem lu411 : Tryz.prog.underlying 411 = some (.struct #[⟨ "s", 9, 0, false, "", "errors", 0⟩]) := by kernel_rfl
theorem lu9 : Tryz.prog.underlying 9 = some (.string) := by kernel_rfl
theorem lc270 : Tryz.prog.cellsOf 270 = 1 := by kernel_rfl
theorem lc406 : Tryz.prog.cellsOf 406 = 20 := by kernel_rfl
theorem lc411 : Tryz.prog.cellsOf 411 = 1 := by kernel_rfl
theorem lc9 : Tryz.prog.cellsOf 9 = 1 := by kernel_rfl
theorem gl_laid {W : World} (h : laidMet Tryz.prog Rows.checkOrdersRow.laid W) : gl.P W (Old W) := by
 refine ⟨?_, ?_, ?_⟩
 ·have h0 : laidMet Tryz.prog [("internal/strconv.uint64pow10", Lib.tabData .u64 Lib.pow10Tab)] W := by
   have e : Rows.checkOrdersRow.laid.filter (fun x => x.1 == "internal/strconv.uint64pow10") = [("internal/strconv.uint64pow10", Lib.tabData .u64 Lib.pow10Tab)] := by kernel_rfl
   have := h.filter (fun x => x.1 == "internal/strconv.uint64pow10"); rw [e] at this; exact this
  have hv := Lib.tabIs_of_head gn0 gt0 lu406 lu270 lc270 lc406 h0
  exact ⟨_, gn0, v_foot gn0 hv, _, hv, rfl⟩
 ·have h0 : laidMet Tryz.prog [("strconv.ErrSyntax", Rows.laid_strconv_ErrSyntax)] W := by
   have e : Rows.checkOrdersRow.laid.filter (fun x => x.1 == "strconv.ErrSyntax") = [("strconv.ErrSyntax", Rows.laid_strconv_ErrSyntax)] := by kernel_rfl
   have := h.filter (fun x => x.1 == "strconv.ErrSyntax"); rw [e] at this; exact this
  obtain ⟨a0, s0, hv, -⟩ := laid_sentinel h0 gn1 gt1 lu370 ptrRow lu409 lu411 rfl rfl lu9 lc411 lc9
  exact ⟨_, gn1, v_foot gn1 hv, _, hv, _, _, rfl⟩
 ·have h0 : laidMet Tryz.prog [("strconv.ErrRange", Rows.laid_strconv_ErrRange)] W := by
   have e : Rows.checkOrdersRow.laid.filter (fun x => x.1 == "strconv.ErrRange") = [("strconv.ErrRange", Rows.laid_strconv_ErrRange)] := by kernel_rfl
   have := h.filter (fun x => x.1 == "strconv.ErrRange"); rw [e] at this; exact this
  obtain ⟨a0, s0, hv, -⟩ := laid_sentinel h0 gn2 gt2 lu370 ptrRow lu409 lu411 rfl rfl lu9 lc411 lc9
  exact ⟨_, gn2, v_foot gn2 hv, _, hv, _, _, rfl⟩
end Go.Proofs.YthgehekecfpikaaGreatDoor.X
