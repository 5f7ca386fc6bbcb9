/- The walk of the statement on ends. -/
import Derived.Test.YtnaaahpmnhoabaaM15
set_option linter.unusedVariables false
set_option linter.unusedSimpArgs false
namespace Go.Proofs.Ytnaaahpmnhoabaa.X
open Go
set_option maxHeartbeats 1000000 in
theorem checkEnds_ok (va : Value) (a : List Rec) (wa : (∀ r ∈ a, (In64 r.kind ∧ In64 r.part ∧ In64 r.sp ∧ In64 r.att ∧ In64 r.why) ∧ ((∀ x ∈ r.set, In64 x) ∧ r.set.length ≤ 9223372036854775807) ∧ ((∀ p ∈ r.pairs, (p.key.size ≤ 9223372036854775807 ∧ p.val.size ≤ 9223372036854775807)) ∧ r.pairs.length ≤ 9223372036854775807)) ∧ a.length ≤ 9223372036854775807) (vb : Value) (b : List Rec) (wb : (∀ r ∈ b, (In64 r.kind ∧ In64 r.part ∧ In64 r.sp ∧ In64 r.att ∧ In64 r.why) ∧ ((∀ x ∈ r.set, In64 x) ∧ r.set.length ≤ 9223372036854775807) ∧ ((∀ p ∈ r.pairs, (p.key.size ≤ 9223372036854775807 ∧ p.val.size ≤ 9223372036854775807)) ∧ r.pairs.length ≤ 9223372036854775807)) ∧ b.length ≤ 9223372036854775807) (s : Int) (ws : In64 s) :
    Cn Try.prog 14 [va, vb, .int .i64 s] [] [rsl kRec va a, rsl kRec vb b] (fun v Bs => v = .bool true ∧ Bs = []) := by
  intro w0 F0 H
  obtain ⟨fb, hlb, H⟩ := H.recs 1 rfl
  obtain ⟨fa, hla, H⟩ := H.recs 1 rfl
  refine enter (args := [va, vb, .int .i64 s]) Try.func14 rfl rfl (Nat.le_of_ble_eq_true rfl) ?_
  refine c_seq ?_
  refine c_reg ?_
  refine s_val rfl rfl (r_as rfl rfl) ?_
  refine s_nil ?_
  refine q_then ?_
  refine c_env [(0, va), (1, vb), (2, .int .i64 s), (6, .bool false)] ⟨rfl, rfl, rfl, rfl, trivial⟩ ?_
  refine c_seq ?_
  refine c_seq ?_
  refine c_reg ?_
  refine s_val rfl rfl (r_mv rfl rfl) ?_
  refine sc (greatRecords_ok va a 10) H (lR 2 rfl l0) rfl rfl (e_fn kn60 rfl rfl) ?_
  rintro _ _ w ⟨rfl, rfl⟩ H
  refine s_val rfl rfl (r_mv rfl rfl) ?_
  refine s_boo (d := 26) (b := greatR a 10) rfl (fun h1 => ?_) (fun h1 => ?_)
  · skip
    refine s_no rfl rfl ?_
    refine s_no rfl rfl ?_
    refine s_val rfl rfl (r_pickT rfl rfl rfl) ?_
    refine s_nil ?_
    refine q_then ?_
    refine c_env [(0, va), (1, vb), (2, .int .i64 s), (6, .bool false), (29, .bool true)] ⟨rfl, rfl, rfl, rfl, rfl, trivial⟩ ?_
    refine c_yes rfl ?_
    refine c_seq ?_
    refine c_reg ?_
    refine sc (awake26_ok ) H l0 rfl rfl (e_fn kn61 rfl rfl) ?_
    rintro _ _ w ⟨rfl, rfl⟩ H
    refine s_val rfl rfl (r_as rfl rfl) ?_
    refine s_nil ?_
    refine q_then ?_
    refine c_env [(0, va), (1, vb), (2, .int .i64 s), (6, .bool true)] ⟨rfl, rfl, rfl, rfl, trivial⟩ ?_
    refine c_ret ?_
    refine q_thenR ?_
    refine q_ret1 rfl rfl ?_
    replace H := H.dropR
    replace H := H.dropR
    exact fin ⟨rfl, rfl⟩ H
  · skip
    refine s_val rfl rfl (r_mv rfl rfl) ?_
    refine sc (greatRecords_ok vb b 10) H (lR 3 rfl l0) rfl rfl (e_fn kn60 rfl rfl) ?_
    rintro _ _ w ⟨rfl, rfl⟩ H
    refine s_val rfl rfl (r_pickF rfl rfl rfl) ?_
    refine s_nil ?_
    refine q_then ?_
    refine c_env [(0, va), (1, vb), (2, .int .i64 s), (6, .bool false), (29, .bool (greatR b 10))] ⟨rfl, rfl, rfl, rfl, rfl, trivial⟩ ?_
    refine c_cond (b := greatR b 10) rfl (fun h2 => ?_) (fun h2 => ?_)
    · skip
      refine c_seq ?_
      refine c_reg ?_
      refine sc (awake26_ok ) H l0 rfl rfl (e_fn kn61 rfl rfl) ?_
      rintro _ _ w ⟨rfl, rfl⟩ H
      refine s_val rfl rfl (r_as rfl rfl) ?_
      refine s_nil ?_
      refine q_then ?_
      refine c_env [(0, va), (1, vb), (2, .int .i64 s), (6, .bool true)] ⟨rfl, rfl, rfl, rfl, trivial⟩ ?_
      refine c_ret ?_
      refine q_thenR ?_
      refine q_ret1 rfl rfl ?_
      replace H := H.dropR
      replace H := H.dropR
      exact fin ⟨rfl, rfl⟩ H
    · skip
      refine c_skip ?_
      refine q_then ?_
      refine c_env [(0, va), (1, vb), (2, .int .i64 s), (6, .bool false)] ⟨rfl, rfl, rfl, rfl, trivial⟩ ?_
      refine c_seq ?_
      have hgh1 := (greatR_no h1).1
      have hgh2 := (greatR_no h2).1
      refine c_reg ?_
      refine s_val rfl rfl (r_mv rfl rfl) ?_
      replace H := H.newnil kRecF
      obtain ⟨A3, c4, rfl, hc5, hm6, hp7⟩ := H.fR 0 rfl
      refine s_appF (xs := []) (ys := fa) rfl rfl rfl sl71 zr104 rfl (by decide) rfl rfl H (by first | omega | (simp only [List.length_append, List.length_cons, List.length_nil]; omega)) (fun F hA hR => hR _ (List.mem_of_getElem? (i := 0) rfl)) (fun v8 w H => ?_)
      refine s_val rfl rfl (r_mv rfl rfl) ?_
      obtain ⟨A9, c10, rfl, hc11, hm12, hp13⟩ := H.fR 1 rfl
      refine s_appF (xs := [] ++ fa) (ys := fb) rfl rfl rfl sl71 zr104 rfl (by decide) rfl rfl H (by first | omega | (simp only [List.length_append, List.length_cons, List.length_nil]; omega)) (fun F hA hR => hR _ (List.mem_of_getElem? (i := 1) rfl)) (fun v14 w H => ?_)
      refine s_val rfl rfl (r_as rfl rfl) ?_
      refine s_nil ?_
      refine q_then ?_
      replace H : Hd _ _ _ [osl kRecF v14 (([] ++ fa) ++ fb)] [rsl kRecF (.slice A3 fa.length c4) fa, rsl kRecF (.slice A9 fb.length c10) fb, rsl kRec (.slice A3 fa.length c4) a, rsl kRec (.slice A9 fb.length c10) b] := H
      refine c_env [(0, .slice A3 fa.length c4), (1, .slice A9 fb.length c10), (2, .int .i64 s), (6, .bool false), (7, v14)] ⟨rfl, rfl, rfl, rfl, rfl, trivial⟩ ?_
      refine c_seq ?_
      replace H : Hd w0 F0 w [osl kRecF v14 (fa ++ fb)] [rsl kRecF (.slice A3 fa.length c4) fa, rsl kRecF (.slice A9 fb.length c10) fb, rsl kRec (.slice A3 fa.length c4) a, rsl kRec (.slice A9 fb.length c10) b] := H
      refine c_reg ?_
      refine s_val rfl rfl (r_mv rfl rfl) ?_
      refine sc (ended_ok (.slice A3 fa.length c4) fa) H (lR 0 rfl l0) rfl rfl (e_fn kn62 rfl rfl) ?_
      rintro _ _ w ⟨rfl, rfl⟩ H
      refine s_val rfl rfl (r_mv rfl rfl) ?_
      refine s_val rfl rfl (r_ex rfl rfl rfl) ?_
      refine s_val rfl rfl (r_ex rfl rfl rfl) ?_
      refine s_val rfl rfl (r_ex rfl rfl rfl) ?_
      refine s_val rfl rfl (r_ex rfl rfl rfl) ?_
      refine s_val rfl rfl (r_as rfl rfl) ?_
      refine s_val rfl rfl (r_as rfl rfl) ?_
      refine s_val rfl rfl (r_as rfl rfl) ?_
      refine s_val rfl rfl (r_as rfl rfl) ?_
      refine s_nil ?_
      refine q_then ?_
      refine c_env [(0, .slice A3 fa.length c4), (1, .slice A9 fb.length c10), (2, .int .i64 s), (6, .bool false), (7, v14), (8, .int .i64 ((endedL fa).1)), (9, .int .i64 ((endedL fa).2.1)), (10, .int .i64 ((endedL fa).2.2.1)), (11, .bool ((endedL fa).2.2.2))] ⟨rfl, rfl, rfl, rfl, rfl, rfl, rfl, rfl, rfl, trivial⟩ ?_
      refine c_seq ?_
      refine c_reg ?_
      refine s_val rfl rfl (r_mv rfl rfl) ?_
      refine sc (ended_ok v14 (fa ++ fb)) H (lA 0 rfl own_rd l0) rfl rfl (e_fn kn62 rfl rfl) ?_
      rintro _ _ w ⟨rfl, rfl⟩ H
      refine s_val rfl rfl (r_mv rfl rfl) ?_
      refine s_val rfl rfl (r_ex rfl rfl rfl) ?_
      refine s_val rfl rfl (r_ex rfl rfl rfl) ?_
      refine s_val rfl rfl (r_ex rfl rfl rfl) ?_
      refine s_val rfl rfl (r_ex rfl rfl rfl) ?_
      refine s_val rfl rfl (r_as rfl rfl) ?_
      refine s_val rfl rfl (r_as rfl rfl) ?_
      refine s_val rfl rfl (r_as rfl rfl) ?_
      refine s_val rfl rfl (r_as rfl rfl) ?_
      refine s_nil ?_
      refine q_then ?_
      refine c_env [(0, .slice A3 fa.length c4), (1, .slice A9 fb.length c10), (2, .int .i64 s), (6, .bool false), (7, v14), (8, .int .i64 ((endedL fa).1)), (9, .int .i64 ((endedL fa).2.1)), (10, .int .i64 ((endedL fa).2.2.1)), (11, .bool ((endedL fa).2.2.2)), (12, .int .i64 ((endedL (fa ++ fb)).1)), (13, .int .i64 ((endedL (fa ++ fb)).2.1)), (14, .int .i64 ((endedL (fa ++ fb)).2.2.1)), (15, .bool ((endedL (fa ++ fb)).2.2.2))] ⟨rfl, rfl, rfl, rfl, rfl, rfl, rfl, rfl, rfl, rfl, rfl, rfl, rfl, trivial⟩ ?_
      refine c_seq ?_
      refine c_seq ?_
      refine c_reg ?_
      refine s_val rfl rfl (r_mv rfl rfl) ?_
      refine s_val rfl rfl (r_ne rfl rfl rfl) ?_
      refine s_val rfl rfl (r_mv rfl rfl) ?_
      refine s_dec (d := 51) (p := ((endedL fa).1) ≠ 0) rfl (fun h15 => ?_) (fun h15 => ?_)
      · skip
        refine s_val rfl rfl (r_mv rfl rfl) ?_
        refine s_val rfl rfl (r_mv rfl rfl) ?_
        refine s_val rfl rfl (r_ne rfl rfl rfl) ?_
        refine s_val rfl rfl (r_mv rfl rfl) ?_
        refine s_dec (d := 55) (p := ((endedL fa).1) ≠ ((endedL (fa ++ fb)).1)) rfl (fun h16 => ?_) (fun h16 => ?_)
        · exact absurd (by rw [ended_app _ h15]) h16
        · skip
          refine s_val rfl rfl (r_mv rfl rfl) ?_
          refine s_val rfl rfl (r_mv rfl rfl) ?_
          refine s_val rfl rfl (r_ne rfl rfl rfl) ?_
          refine s_val rfl rfl (r_pickF rfl rfl rfl) ?_
          refine s_val rfl rfl (r_mv rfl rfl) ?_
          refine s_dec (d := 60) (p := ((endedL fa).2.1) ≠ ((endedL (fa ++ fb)).2.1)) rfl (fun h17 => ?_) (fun h17 => ?_)
          · exact absurd (by rw [ended_app _ h15]) h17
          · skip
            refine s_val rfl rfl (r_mv rfl rfl) ?_
            refine s_val rfl rfl (r_mv rfl rfl) ?_
            refine s_val rfl rfl (r_ne rfl rfl rfl) ?_
            refine s_val rfl rfl (r_pickF rfl rfl rfl) ?_
            refine s_val rfl rfl (r_mv rfl rfl) ?_
            refine s_dec (d := 65) (p := ((endedL fa).2.2.1) ≠ ((endedL (fa ++ fb)).2.2.1)) rfl (fun h18 => ?_) (fun h18 => ?_)
            · exact absurd (by rw [ended_app _ h15]) h18
            · skip
              refine s_val rfl rfl (r_mv rfl rfl) ?_
              refine s_val rfl rfl (r_mv rfl rfl) ?_
              refine s_val rfl rfl (r_bne rfl un4 rfl rfl) ?_
              refine s_val rfl rfl (r_pickF rfl rfl rfl) ?_
              refine s_val rfl rfl (r_pickT rfl rfl rfl) ?_
              refine s_nil ?_
              refine q_then ?_
              refine c_env [(0, .slice A3 fa.length c4), (1, .slice A9 fb.length c10), (2, .int .i64 s), (6, .bool false), (7, v14), (8, .int .i64 ((endedL fa).1)), (9, .int .i64 ((endedL fa).2.1)), (10, .int .i64 ((endedL fa).2.2.1)), (11, .bool ((endedL fa).2.2.2)), (12, .int .i64 ((endedL (fa ++ fb)).1)), (13, .int .i64 ((endedL (fa ++ fb)).2.1)), (14, .int .i64 ((endedL (fa ++ fb)).2.2.1)), (15, .bool ((endedL (fa ++ fb)).2.2.2)), (70, .bool (decide (((endedL fa).2.2.2) ≠ ((endedL (fa ++ fb)).2.2.2))))] ⟨rfl, rfl, rfl, rfl, rfl, rfl, rfl, rfl, rfl, rfl, rfl, rfl, rfl, rfl, trivial⟩ ?_
              refine c_dec (p := ((endedL fa).2.2.2) ≠ ((endedL (fa ++ fb)).2.2.2)) rfl (fun h19 => ?_) (fun h19 => ?_)
              · exact absurd (by rw [ended_app _ h15]) h19
              · skip
                refine c_skip ?_
                refine q_then ?_
                refine c_env [(0, .slice A3 fa.length c4), (1, .slice A9 fb.length c10), (2, .int .i64 s), (6, .bool false), (7, v14), (8, .int .i64 ((endedL fa).1)), (9, .int .i64 ((endedL fa).2.1)), (10, .int .i64 ((endedL fa).2.2.1)), (11, .bool ((endedL fa).2.2.2)), (12, .int .i64 ((endedL (fa ++ fb)).1)), (13, .int .i64 ((endedL (fa ++ fb)).2.1)), (14, .int .i64 ((endedL (fa ++ fb)).2.2.1)), (15, .bool ((endedL (fa ++ fb)).2.2.2))] ⟨rfl, rfl, rfl, rfl, rfl, rfl, rfl, rfl, rfl, rfl, rfl, rfl, rfl, trivial⟩ ?_
                refine c_seq ?_
                refine c_seq ?_
                refine c_reg ?_
                refine s_val rfl rfl (r_mv rfl rfl) ?_
                refine s_val rfl rfl (r_eq rfl rfl rfl) ?_
                refine s_nil ?_
                refine q_then ?_
                refine c_env [(0, .slice A3 fa.length c4), (1, .slice A9 fb.length c10), (2, .int .i64 s), (6, .bool false), (7, v14), (9, .int .i64 ((endedL fa).2.1)), (10, .int .i64 ((endedL fa).2.2.1)), (11, .bool ((endedL fa).2.2.2)), (12, .int .i64 ((endedL (fa ++ fb)).1)), (13, .int .i64 ((endedL (fa ++ fb)).2.1)), (14, .int .i64 ((endedL (fa ++ fb)).2.2.1)), (15, .bool ((endedL (fa ++ fb)).2.2.2)), (72, .bool (decide (((endedL fa).1) = 0)))] ⟨rfl, rfl, rfl, rfl, rfl, rfl, rfl, rfl, rfl, rfl, rfl, rfl, rfl, trivial⟩ ?_
                refine c_dec (p := ((endedL fa).1) = 0) rfl (fun h20 => ?_) (fun h20 => ?_)
                · exact absurd h20 h15
                · skip
                  refine c_skip ?_
                  refine q_then ?_
                  refine c_env [(0, .slice A3 fa.length c4), (2, .int .i64 s), (6, .bool false), (7, v14)] ⟨rfl, rfl, rfl, rfl, trivial⟩ ?_
                  refine c_seq ?_
                  refine c_reg ?_
                  refine s_val rfl rfl (r_mv rfl rfl) ?_
                  refine s_val rfl rfl (r_mv rfl rfl) ?_
                  refine sc (won_ok (.slice A3 fa.length c4) fa s) H (lR 0 rfl l0) rfl rfl (e_fn kn63 rfl rfl) ?_
                  rintro _ _ w ⟨rfl, rfl⟩ H
                  refine s_val rfl rfl (r_mv rfl rfl) ?_
                  refine s_val rfl rfl (r_ex rfl rfl rfl) ?_
                  refine s_val rfl rfl (r_ex rfl rfl rfl) ?_
                  refine s_val rfl rfl (r_as rfl rfl) ?_
                  refine s_val rfl rfl (r_as rfl rfl) ?_
                  refine s_nil ?_
                  refine q_then ?_
                  refine c_env [(0, .slice A3 fa.length c4), (2, .int .i64 s), (6, .bool false), (7, v14), (20, .int .i64 ((wonL s fa).1)), (21, .bool ((wonL s fa).2))] ⟨rfl, rfl, rfl, rfl, rfl, rfl, trivial⟩ ?_
                  refine c_seq ?_
                  refine c_reg ?_
                  refine s_val rfl rfl (r_mv rfl rfl) ?_
                  refine s_val rfl rfl (r_mv rfl rfl) ?_
                  refine sc (won_ok v14 (fa ++ fb) s) H (lA 0 rfl own_rd l0) rfl rfl (e_fn kn63 rfl rfl) ?_
                  rintro _ _ w ⟨rfl, rfl⟩ H
                  refine s_val rfl rfl (r_mv rfl rfl) ?_
                  refine s_val rfl rfl (r_ex rfl rfl rfl) ?_
                  refine s_val rfl rfl (r_ex rfl rfl rfl) ?_
                  refine s_val rfl rfl (r_as rfl rfl) ?_
                  refine s_val rfl rfl (r_as rfl rfl) ?_
                  refine s_nil ?_
                  refine q_then ?_
                  refine c_env [(0, .slice A3 fa.length c4), (6, .bool false), (7, v14), (20, .int .i64 ((wonL s fa).1)), (21, .bool ((wonL s fa).2)), (22, .int .i64 ((wonL s (fa ++ fb)).1)), (23, .bool ((wonL s (fa ++ fb)).2))] ⟨rfl, rfl, rfl, rfl, rfl, rfl, rfl, trivial⟩ ?_
                  refine c_seq ?_
                  refine c_reg ?_
                  refine s_val rfl rfl (r_mv rfl rfl) ?_
                  refine s_val rfl rfl (r_not rfl rfl rfl) ?_
                  refine s_val rfl rfl (r_mv rfl rfl) ?_
                  refine s_boo (d := 123) (b := !((wonL s fa).2)) rfl (fun h21 => ?_) (fun h21 => ?_)
                  · skip
                    refine s_no rfl rfl ?_
                    refine s_no rfl rfl ?_
                    refine s_no rfl rfl ?_
                    refine s_no rfl rfl ?_
                    refine s_no rfl rfl ?_
                    refine s_no rfl rfl ?_
                    refine s_val rfl rfl (r_pickT rfl rfl rfl) ?_
                    refine s_val rfl rfl (r_mv rfl rfl) ?_
                    refine s_val rfl rfl (r_mv rfl rfl) ?_
                    refine sc (winners_ok v14 (fa ++ fb) (by first | omega | decide | (simp only [List.length_append, List.length_cons, List.length_nil]; omega))) H (lA 0 rfl own_rd l0) rfl rfl (e_fn kn64 rfl rfl) ?_
                    rintro v22 _ w rfl H
                    obtain ⟨A23, c24, rfl, hc25, hm26, hp27⟩ := H.fA 0 rfl
                    refine s_val rfl rfl (r_lenL rfl un22 rfl) ?_
                    refine s_val rfl rfl (r_mv rfl rfl) ?_
                    replace H : Hd _ _ _ [osl (kInt .i64) (.slice A23 ((winL (fa ++ fb)).length) c24) (winL (fa ++ fb)), osl kRecF v14 (fa ++ fb)] [rsl kRecF (.slice A3 fa.length c4) fa, rsl kRecF (.slice A9 fb.length c10) fb, rsl kRec (.slice A3 fa.length c4) a, rsl kRec (.slice A9 fb.length c10) b] := H
                    refine sc (winners_ok (.slice A3 fa.length c4) fa (by first | omega | decide | (simp only [List.length_append, List.length_cons, List.length_nil]; omega))) H (lR 0 rfl l0) rfl rfl (e_fn kn64 rfl rfl) ?_
                    rintro v28 _ w rfl H
                    obtain ⟨A29, c30, rfl, hc31, hm32, hp33⟩ := H.fA 0 rfl
                    refine s_val rfl rfl (r_lenL rfl un22 rfl) ?_
                    refine s_val rfl rfl (r_ge rfl rfl rfl) ?_
                    refine s_val rfl rfl (r_pickT rfl rfl rfl) ?_
                    refine s_val rfl rfl (r_mv rfl rfl) ?_
                    refine s_dec (d := 140) (p := (((winL fa).length : Nat) : Int) ≤ (((winL (fa ++ fb)).length : Nat) : Int)) rfl (fun h34 => ?_) (fun h34 => ?_)
                    · skip
                      refine sc (awake26_ok ) H l0 rfl rfl (e_fn kn61 rfl rfl) ?_
                      rintro _ _ w ⟨rfl, rfl⟩ H
                      refine s_val rfl rfl (r_pickT rfl rfl rfl) ?_
                      refine s_val rfl rfl (r_as rfl rfl) ?_
                      refine s_nil ?_
                      refine q_then ?_
                      replace H : Hd _ _ _ [osl (kInt .i64) (.slice A29 ((winL fa).length) c30) (winL fa), osl (kInt .i64) (.slice A23 ((winL (fa ++ fb)).length) c24) (winL (fa ++ fb)), osl kRecF v14 (fa ++ fb)] [rsl kRecF (.slice A3 fa.length c4) fa, rsl kRecF (.slice A9 fb.length c10) fb, rsl kRec (.slice A3 fa.length c4) a, rsl kRec (.slice A9 fb.length c10) b] := H
                      refine c_env [(6, .bool true)] ⟨rfl, trivial⟩ ?_
                      refine c_ret ?_
                      refine q_ret1 rfl rfl ?_
                      replace H := H.keep 0
                      replace H := H.dropR
                      replace H := H.dropR
                      exact fin ⟨rfl, rfl⟩ H
                    · exact absurd (by have := win_len fa fb; omega) h34
                  · skip
                    refine s_val rfl rfl (r_mv rfl rfl) ?_
                    refine s_val rfl rfl (r_mv rfl rfl) ?_
                    refine s_boo (d := 125) (b := (wonL s (fa ++ fb)).2) rfl (fun h35 => ?_) (fun h35 => ?_)
                    · skip
                      refine s_val rfl rfl (r_mv rfl rfl) ?_
                      refine s_val rfl rfl (r_mv rfl rfl) ?_
                      refine s_val rfl rfl (r_eq rfl rfl rfl) ?_
                      refine s_val rfl rfl (r_pickT rfl rfl rfl) ?_
                      refine s_val rfl rfl (r_pickF rfl rfl rfl) ?_
                      refine s_val rfl rfl (r_mv rfl rfl) ?_
                      refine s_dec (d := 131) (p := ((wonL s fa).1) = ((wonL s (fa ++ fb)).1)) rfl (fun h36 => ?_) (fun h36 => ?_)
                      · skip
                        refine s_val rfl rfl (r_mv rfl rfl) ?_
                        refine sc (winners_ok v14 (fa ++ fb) (by first | omega | decide | (simp only [List.length_append, List.length_cons, List.length_nil]; omega))) H (lA 0 rfl own_rd l0) rfl rfl (e_fn kn64 rfl rfl) ?_
                        rintro v37 _ w rfl H
                        obtain ⟨A38, c39, rfl, hc40, hm41, hp42⟩ := H.fA 0 rfl
                        refine s_val rfl rfl (r_lenL rfl un22 rfl) ?_
                        refine s_val rfl rfl (r_mv rfl rfl) ?_
                        replace H : Hd _ _ _ [osl (kInt .i64) (.slice A38 ((winL (fa ++ fb)).length) c39) (winL (fa ++ fb)), osl kRecF v14 (fa ++ fb)] [rsl kRecF (.slice A3 fa.length c4) fa, rsl kRecF (.slice A9 fb.length c10) fb, rsl kRec (.slice A3 fa.length c4) a, rsl kRec (.slice A9 fb.length c10) b] := H
                        refine sc (winners_ok (.slice A3 fa.length c4) fa (by first | omega | decide | (simp only [List.length_append, List.length_cons, List.length_nil]; omega))) H (lR 0 rfl l0) rfl rfl (e_fn kn64 rfl rfl) ?_
                        rintro v43 _ w rfl H
                        obtain ⟨A44, c45, rfl, hc46, hm47, hp48⟩ := H.fA 0 rfl
                        refine s_val rfl rfl (r_lenL rfl un22 rfl) ?_
                        refine s_val rfl rfl (r_ge rfl rfl rfl) ?_
                        refine s_val rfl rfl (r_pickT rfl rfl rfl) ?_
                        refine s_val rfl rfl (r_mv rfl rfl) ?_
                        refine s_dec (d := 140) (p := (((winL fa).length : Nat) : Int) ≤ (((winL (fa ++ fb)).length : Nat) : Int)) rfl (fun h49 => ?_) (fun h49 => ?_)
                        · skip
                          refine sc (awake26_ok ) H l0 rfl rfl (e_fn kn61 rfl rfl) ?_
                          rintro _ _ w ⟨rfl, rfl⟩ H
                          refine s_val rfl rfl (r_pickT rfl rfl rfl) ?_
                          refine s_val rfl rfl (r_as rfl rfl) ?_
                          refine s_nil ?_
                          refine q_then ?_
                          replace H : Hd _ _ _ [osl (kInt .i64) (.slice A44 ((winL fa).length) c45) (winL fa), osl (kInt .i64) (.slice A38 ((winL (fa ++ fb)).length) c39) (winL (fa ++ fb)), osl kRecF v14 (fa ++ fb)] [rsl kRecF (.slice A3 fa.length c4) fa, rsl kRecF (.slice A9 fb.length c10) fb, rsl kRec (.slice A3 fa.length c4) a, rsl kRec (.slice A9 fb.length c10) b] := H
                          refine c_env [(6, .bool true)] ⟨rfl, trivial⟩ ?_
                          refine c_ret ?_
                          refine q_ret1 rfl rfl ?_
                          replace H := H.keep 0
                          replace H := H.dropR
                          replace H := H.dropR
                          exact fin ⟨rfl, rfl⟩ H
                        · exact absurd (by have := win_len fa fb; omega) h49
                      · exact (h36 (by rw [won_app _ (by simpa using h21)])).elim
                    · exact absurd h35 (by rw [won_app _ (by simpa using h21), show (wonL s fa).2 = true by simpa using h21]; decide)
      · skip
        refine s_no rfl rfl ?_
        refine s_no rfl rfl ?_
        refine s_no rfl rfl ?_
        refine s_no rfl rfl ?_
        refine s_no rfl rfl ?_
        refine s_no rfl rfl ?_
        refine s_no rfl rfl ?_
        refine s_no rfl rfl ?_
        refine s_no rfl rfl ?_
        refine s_no rfl rfl ?_
        refine s_no rfl rfl ?_
        refine s_no rfl rfl ?_
        refine s_no rfl rfl ?_
        refine s_no rfl rfl ?_
        refine s_no rfl rfl ?_
        refine s_no rfl rfl ?_
        refine s_no rfl rfl ?_
        refine s_no rfl rfl ?_
        refine s_val rfl rfl (r_pickF rfl rfl rfl) ?_
        refine s_nil ?_
        refine q_then ?_
        refine c_env [(0, .slice A3 fa.length c4), (1, .slice A9 fb.length c10), (2, .int .i64 s), (6, .bool false), (7, v14), (8, .int .i64 ((endedL fa).1)), (9, .int .i64 ((endedL fa).2.1)), (10, .int .i64 ((endedL fa).2.2.1)), (11, .bool ((endedL fa).2.2.2)), (12, .int .i64 ((endedL (fa ++ fb)).1)), (13, .int .i64 ((endedL (fa ++ fb)).2.1)), (14, .int .i64 ((endedL (fa ++ fb)).2.2.1)), (15, .bool ((endedL (fa ++ fb)).2.2.2)), (70, .bool false)] ⟨rfl, rfl, rfl, rfl, rfl, rfl, rfl, rfl, rfl, rfl, rfl, rfl, rfl, rfl, trivial⟩ ?_
        refine c_no rfl ?_
        refine c_skip ?_
        refine q_then ?_
        refine c_env [(0, .slice A3 fa.length c4), (1, .slice A9 fb.length c10), (2, .int .i64 s), (6, .bool false), (7, v14), (8, .int .i64 ((endedL fa).1)), (9, .int .i64 ((endedL fa).2.1)), (10, .int .i64 ((endedL fa).2.2.1)), (11, .bool ((endedL fa).2.2.2)), (12, .int .i64 ((endedL (fa ++ fb)).1)), (13, .int .i64 ((endedL (fa ++ fb)).2.1)), (14, .int .i64 ((endedL (fa ++ fb)).2.2.1)), (15, .bool ((endedL (fa ++ fb)).2.2.2))] ⟨rfl, rfl, rfl, rfl, rfl, rfl, rfl, rfl, rfl, rfl, rfl, rfl, rfl, trivial⟩ ?_
        refine c_seq ?_
        refine c_seq ?_
        refine c_reg ?_
        refine s_val rfl rfl (r_mv rfl rfl) ?_
        refine s_val rfl rfl (r_eq rfl rfl rfl) ?_
        refine s_nil ?_
        refine q_then ?_
        refine c_env [(0, .slice A3 fa.length c4), (1, .slice A9 fb.length c10), (2, .int .i64 s), (6, .bool false), (7, v14), (9, .int .i64 ((endedL fa).2.1)), (10, .int .i64 ((endedL fa).2.2.1)), (11, .bool ((endedL fa).2.2.2)), (12, .int .i64 ((endedL (fa ++ fb)).1)), (13, .int .i64 ((endedL (fa ++ fb)).2.1)), (14, .int .i64 ((endedL (fa ++ fb)).2.2.1)), (15, .bool ((endedL (fa ++ fb)).2.2.2)), (72, .bool (decide (((endedL fa).1) = 0)))] ⟨rfl, rfl, rfl, rfl, rfl, rfl, rfl, rfl, rfl, rfl, rfl, rfl, rfl, trivial⟩ ?_
        refine c_dec (p := ((endedL fa).1) = 0) rfl (fun h50 => ?_) (fun h50 => ?_)
        · skip
          refine c_seq ?_
          refine c_reg ?_
          refine s_val rfl rfl (r_mv rfl rfl) ?_
          refine sc (ended_ok (.slice A9 fb.length c10) fb) H (lR 1 rfl l0) rfl rfl (e_fn kn62 rfl rfl) ?_
          rintro _ _ w ⟨rfl, rfl⟩ H
          refine s_val rfl rfl (r_mv rfl rfl) ?_
          refine s_val rfl rfl (r_ex rfl rfl rfl) ?_
          refine s_val rfl rfl (r_ex rfl rfl rfl) ?_
          refine s_val rfl rfl (r_ex rfl rfl rfl) ?_
          refine s_val rfl rfl (r_ex rfl rfl rfl) ?_
          refine s_val rfl rfl (r_as rfl rfl) ?_
          refine s_val rfl rfl (r_as rfl rfl) ?_
          refine s_val rfl rfl (r_as rfl rfl) ?_
          refine s_val rfl rfl (r_as rfl rfl) ?_
          refine s_nil ?_
          refine q_then ?_
          refine c_env [(0, .slice A3 fa.length c4), (2, .int .i64 s), (6, .bool false), (7, v14), (9, .int .i64 ((endedL fa).2.1)), (10, .int .i64 ((endedL fa).2.2.1)), (11, .bool ((endedL fa).2.2.2)), (12, .int .i64 ((endedL (fa ++ fb)).1)), (13, .int .i64 ((endedL (fa ++ fb)).2.1)), (14, .int .i64 ((endedL (fa ++ fb)).2.2.1)), (15, .bool ((endedL (fa ++ fb)).2.2.2)), (16, .int .i64 ((endedL fb).1)), (17, .int .i64 ((endedL fb).2.1)), (18, .int .i64 ((endedL fb).2.2.1)), (19, .bool ((endedL fb).2.2.2))] ⟨rfl, rfl, rfl, rfl, rfl, rfl, rfl, rfl, rfl, rfl, rfl, rfl, rfl, rfl, rfl, trivial⟩ ?_
          refine c_seq ?_
          refine c_reg ?_
          refine s_val rfl rfl (r_mv rfl rfl) ?_
          refine s_val rfl rfl (r_mv rfl rfl) ?_
          refine s_val rfl rfl (r_ne rfl rfl rfl) ?_
          refine s_val rfl rfl (r_mv rfl rfl) ?_
          refine s_dec (d := 83) (p := ((endedL fb).1) ≠ ((endedL (fa ++ fb)).1)) rfl (fun h51 => ?_) (fun h51 => ?_)
          · exact absurd (by rw [ended_app0 _ h50]) h51
          · skip
            refine s_val rfl rfl (r_mv rfl rfl) ?_
            refine s_val rfl rfl (r_mv rfl rfl) ?_
            refine s_val rfl rfl (r_ne rfl rfl rfl) ?_
            refine s_val rfl rfl (r_pickF rfl rfl rfl) ?_
            refine s_val rfl rfl (r_mv rfl rfl) ?_
            refine s_dec (d := 88) (p := ((endedL fb).2.1) ≠ ((endedL (fa ++ fb)).2.1)) rfl (fun h52 => ?_) (fun h52 => ?_)
            · exact absurd (by rw [ended_app0 _ h50]) h52
            · skip
              refine s_val rfl rfl (r_mv rfl rfl) ?_
              refine s_val rfl rfl (r_mv rfl rfl) ?_
              refine s_val rfl rfl (r_ne rfl rfl rfl) ?_
              refine s_val rfl rfl (r_pickF rfl rfl rfl) ?_
              refine s_val rfl rfl (r_mv rfl rfl) ?_
              refine s_dec (d := 93) (p := ((endedL fb).2.2.1) ≠ ((endedL (fa ++ fb)).2.2.1)) rfl (fun h53 => ?_) (fun h53 => ?_)
              · exact absurd (by rw [ended_app0 _ h50]) h53
              · skip
                refine s_val rfl rfl (r_mv rfl rfl) ?_
                refine s_val rfl rfl (r_mv rfl rfl) ?_
                refine s_val rfl rfl (r_bne rfl un4 rfl rfl) ?_
                refine s_val rfl rfl (r_pickF rfl rfl rfl) ?_
                refine s_val rfl rfl (r_mv rfl rfl) ?_
                refine s_dec (d := 98) (p := ((endedL fb).2.2.2) ≠ ((endedL (fa ++ fb)).2.2.2)) rfl (fun h54 => ?_) (fun h54 => ?_)
                · exact absurd (by rw [ended_app0 _ h50]) h54
                · skip
                  refine s_val rfl rfl (r_mv rfl rfl) ?_
                  refine s_val rfl rfl (r_ne rfl rfl rfl) ?_
                  refine s_val rfl rfl (r_pickF rfl rfl rfl) ?_
                  refine s_val rfl rfl (r_mv rfl rfl) ?_
                  refine s_dec (d := 102) (p := ((endedL fa).2.1) ≠ 0) rfl (fun h55 => ?_) (fun h55 => ?_)
                  · exact absurd (by rw [ended_zero h50]) h55
                  · skip
                    refine s_val rfl rfl (r_mv rfl rfl) ?_
                    refine s_val rfl rfl (r_ne rfl rfl rfl) ?_
                    refine s_val rfl rfl (r_pickF rfl rfl rfl) ?_
                    refine s_val rfl rfl (r_mv rfl rfl) ?_
                    refine s_dec (d := 106) (p := ((endedL fa).2.2.1) ≠ 0) rfl (fun h56 => ?_) (fun h56 => ?_)
                    · exact absurd (by rw [ended_zero h50]) h56
                    · skip
                      refine s_val rfl rfl (r_mv rfl rfl) ?_
                      refine s_val rfl rfl (r_pickF rfl rfl rfl) ?_
                      refine s_nil ?_
                      refine q_then ?_
                      refine c_env [(0, .slice A3 fa.length c4), (2, .int .i64 s), (6, .bool false), (7, v14), (108, .bool ((endedL fa).2.2.2))] ⟨rfl, rfl, rfl, rfl, rfl, trivial⟩ ?_
                      refine c_cond (b := (endedL fa).2.2.2) rfl (fun h57 => ?_) (fun h57 => ?_)
                      · exact absurd (by rw [ended_zero h50]) (show ¬ (endedL fa).2.2.2 = false by rw [h57]; decide)
                      · skip
                        refine c_skip ?_
                        refine q_then ?_
                        refine c_env [(0, .slice A3 fa.length c4), (2, .int .i64 s), (6, .bool false), (7, v14)] ⟨rfl, rfl, rfl, rfl, trivial⟩ ?_
                        refine c_seq ?_
                        refine c_reg ?_
                        refine s_val rfl rfl (r_mv rfl rfl) ?_
                        refine s_val rfl rfl (r_mv rfl rfl) ?_
                        refine sc (won_ok (.slice A3 fa.length c4) fa s) H (lR 0 rfl l0) rfl rfl (e_fn kn63 rfl rfl) ?_
                        rintro _ _ w ⟨rfl, rfl⟩ H
                        refine s_val rfl rfl (r_mv rfl rfl) ?_
                        refine s_val rfl rfl (r_ex rfl rfl rfl) ?_
                        refine s_val rfl rfl (r_ex rfl rfl rfl) ?_
                        refine s_val rfl rfl (r_as rfl rfl) ?_
                        refine s_val rfl rfl (r_as rfl rfl) ?_
                        refine s_nil ?_
                        refine q_then ?_
                        refine c_env [(0, .slice A3 fa.length c4), (2, .int .i64 s), (6, .bool false), (7, v14), (20, .int .i64 ((wonL s fa).1)), (21, .bool ((wonL s fa).2))] ⟨rfl, rfl, rfl, rfl, rfl, rfl, trivial⟩ ?_
                        refine c_seq ?_
                        refine c_reg ?_
                        refine s_val rfl rfl (r_mv rfl rfl) ?_
                        refine s_val rfl rfl (r_mv rfl rfl) ?_
                        refine sc (won_ok v14 (fa ++ fb) s) H (lA 0 rfl own_rd l0) rfl rfl (e_fn kn63 rfl rfl) ?_
                        rintro _ _ w ⟨rfl, rfl⟩ H
                        refine s_val rfl rfl (r_mv rfl rfl) ?_
                        refine s_val rfl rfl (r_ex rfl rfl rfl) ?_
                        refine s_val rfl rfl (r_ex rfl rfl rfl) ?_
                        refine s_val rfl rfl (r_as rfl rfl) ?_
                        refine s_val rfl rfl (r_as rfl rfl) ?_
                        refine s_nil ?_
                        refine q_then ?_
                        refine c_env [(0, .slice A3 fa.length c4), (6, .bool false), (7, v14), (20, .int .i64 ((wonL s fa).1)), (21, .bool ((wonL s fa).2)), (22, .int .i64 ((wonL s (fa ++ fb)).1)), (23, .bool ((wonL s (fa ++ fb)).2))] ⟨rfl, rfl, rfl, rfl, rfl, rfl, rfl, trivial⟩ ?_
                        refine c_seq ?_
                        refine c_reg ?_
                        refine s_val rfl rfl (r_mv rfl rfl) ?_
                        refine s_val rfl rfl (r_not rfl rfl rfl) ?_
                        refine s_val rfl rfl (r_mv rfl rfl) ?_
                        refine s_boo (d := 123) (b := !((wonL s fa).2)) rfl (fun h58 => ?_) (fun h58 => ?_)
                        · skip
                          refine s_no rfl rfl ?_
                          refine s_no rfl rfl ?_
                          refine s_no rfl rfl ?_
                          refine s_no rfl rfl ?_
                          refine s_no rfl rfl ?_
                          refine s_no rfl rfl ?_
                          refine s_val rfl rfl (r_pickT rfl rfl rfl) ?_
                          refine s_val rfl rfl (r_mv rfl rfl) ?_
                          refine s_val rfl rfl (r_mv rfl rfl) ?_
                          refine sc (winners_ok v14 (fa ++ fb) (by first | omega | decide | (simp only [List.length_append, List.length_cons, List.length_nil]; omega))) H (lA 0 rfl own_rd l0) rfl rfl (e_fn kn64 rfl rfl) ?_
                          rintro v59 _ w rfl H
                          obtain ⟨A60, c61, rfl, hc62, hm63, hp64⟩ := H.fA 0 rfl
                          refine s_val rfl rfl (r_lenL rfl un22 rfl) ?_
                          refine s_val rfl rfl (r_mv rfl rfl) ?_
                          replace H : Hd _ _ _ [osl (kInt .i64) (.slice A60 ((winL (fa ++ fb)).length) c61) (winL (fa ++ fb)), osl kRecF v14 (fa ++ fb)] [rsl kRecF (.slice A3 fa.length c4) fa, rsl kRecF (.slice A9 fb.length c10) fb, rsl kRec (.slice A3 fa.length c4) a, rsl kRec (.slice A9 fb.length c10) b] := H
                          refine sc (winners_ok (.slice A3 fa.length c4) fa (by first | omega | decide | (simp only [List.length_append, List.length_cons, List.length_nil]; omega))) H (lR 0 rfl l0) rfl rfl (e_fn kn64 rfl rfl) ?_
                          rintro v65 _ w rfl H
                          obtain ⟨A66, c67, rfl, hc68, hm69, hp70⟩ := H.fA 0 rfl
                          refine s_val rfl rfl (r_lenL rfl un22 rfl) ?_
                          refine s_val rfl rfl (r_ge rfl rfl rfl) ?_
                          refine s_val rfl rfl (r_pickT rfl rfl rfl) ?_
                          refine s_val rfl rfl (r_mv rfl rfl) ?_
                          refine s_dec (d := 140) (p := (((winL fa).length : Nat) : Int) ≤ (((winL (fa ++ fb)).length : Nat) : Int)) rfl (fun h71 => ?_) (fun h71 => ?_)
                          · skip
                            refine sc (awake26_ok ) H l0 rfl rfl (e_fn kn61 rfl rfl) ?_
                            rintro _ _ w ⟨rfl, rfl⟩ H
                            refine s_val rfl rfl (r_pickT rfl rfl rfl) ?_
                            refine s_val rfl rfl (r_as rfl rfl) ?_
                            refine s_nil ?_
                            refine q_then ?_
                            replace H : Hd _ _ _ [osl (kInt .i64) (.slice A66 ((winL fa).length) c67) (winL fa), osl (kInt .i64) (.slice A60 ((winL (fa ++ fb)).length) c61) (winL (fa ++ fb)), osl kRecF v14 (fa ++ fb)] [rsl kRecF (.slice A3 fa.length c4) fa, rsl kRecF (.slice A9 fb.length c10) fb, rsl kRec (.slice A3 fa.length c4) a, rsl kRec (.slice A9 fb.length c10) b] := H
                            refine c_env [(6, .bool true)] ⟨rfl, trivial⟩ ?_
                            refine c_ret ?_
                            refine q_ret1 rfl rfl ?_
                            replace H := H.keep 0
                            replace H := H.dropR
                            replace H := H.dropR
                            exact fin ⟨rfl, rfl⟩ H
                          · exact absurd (by have := win_len fa fb; omega) h71
                        · skip
                          refine s_val rfl rfl (r_mv rfl rfl) ?_
                          refine s_val rfl rfl (r_mv rfl rfl) ?_
                          refine s_boo (d := 125) (b := (wonL s (fa ++ fb)).2) rfl (fun h72 => ?_) (fun h72 => ?_)
                          · skip
                            refine s_val rfl rfl (r_mv rfl rfl) ?_
                            refine s_val rfl rfl (r_mv rfl rfl) ?_
                            refine s_val rfl rfl (r_eq rfl rfl rfl) ?_
                            refine s_val rfl rfl (r_pickT rfl rfl rfl) ?_
                            refine s_val rfl rfl (r_pickF rfl rfl rfl) ?_
                            refine s_val rfl rfl (r_mv rfl rfl) ?_
                            refine s_dec (d := 131) (p := ((wonL s fa).1) = ((wonL s (fa ++ fb)).1)) rfl (fun h73 => ?_) (fun h73 => ?_)
                            · skip
                              refine s_val rfl rfl (r_mv rfl rfl) ?_
                              refine sc (winners_ok v14 (fa ++ fb) (by first | omega | decide | (simp only [List.length_append, List.length_cons, List.length_nil]; omega))) H (lA 0 rfl own_rd l0) rfl rfl (e_fn kn64 rfl rfl) ?_
                              rintro v74 _ w rfl H
                              obtain ⟨A75, c76, rfl, hc77, hm78, hp79⟩ := H.fA 0 rfl
                              refine s_val rfl rfl (r_lenL rfl un22 rfl) ?_
                              refine s_val rfl rfl (r_mv rfl rfl) ?_
                              replace H : Hd _ _ _ [osl (kInt .i64) (.slice A75 ((winL (fa ++ fb)).length) c76) (winL (fa ++ fb)), osl kRecF v14 (fa ++ fb)] [rsl kRecF (.slice A3 fa.length c4) fa, rsl kRecF (.slice A9 fb.length c10) fb, rsl kRec (.slice A3 fa.length c4) a, rsl kRec (.slice A9 fb.length c10) b] := H
                              refine sc (winners_ok (.slice A3 fa.length c4) fa (by first | omega | decide | (simp only [List.length_append, List.length_cons, List.length_nil]; omega))) H (lR 0 rfl l0) rfl rfl (e_fn kn64 rfl rfl) ?_
                              rintro v80 _ w rfl H
                              obtain ⟨A81, c82, rfl, hc83, hm84, hp85⟩ := H.fA 0 rfl
                              refine s_val rfl rfl (r_lenL rfl un22 rfl) ?_
                              refine s_val rfl rfl (r_ge rfl rfl rfl) ?_
                              refine s_val rfl rfl (r_pickT rfl rfl rfl) ?_
                              refine s_val rfl rfl (r_mv rfl rfl) ?_
                              refine s_dec (d := 140) (p := (((winL fa).length : Nat) : Int) ≤ (((winL (fa ++ fb)).length : Nat) : Int)) rfl (fun h86 => ?_) (fun h86 => ?_)
                              · skip
                                refine sc (awake26_ok ) H l0 rfl rfl (e_fn kn61 rfl rfl) ?_
                                rintro _ _ w ⟨rfl, rfl⟩ H
                                refine s_val rfl rfl (r_pickT rfl rfl rfl) ?_
                                refine s_val rfl rfl (r_as rfl rfl) ?_
                                refine s_nil ?_
                                refine q_then ?_
                                replace H : Hd _ _ _ [osl (kInt .i64) (.slice A81 ((winL fa).length) c82) (winL fa), osl (kInt .i64) (.slice A75 ((winL (fa ++ fb)).length) c76) (winL (fa ++ fb)), osl kRecF v14 (fa ++ fb)] [rsl kRecF (.slice A3 fa.length c4) fa, rsl kRecF (.slice A9 fb.length c10) fb, rsl kRec (.slice A3 fa.length c4) a, rsl kRec (.slice A9 fb.length c10) b] := H
                                refine c_env [(6, .bool true)] ⟨rfl, trivial⟩ ?_
                                refine c_ret ?_
                                refine q_ret1 rfl rfl ?_
                                replace H := H.keep 0
                                replace H := H.dropR
                                replace H := H.dropR
                                exact fin ⟨rfl, rfl⟩ H
                              · exact absurd (by have := win_len fa fb; omega) h86
                            · exact (h73 (by rw [won_app _ (by simpa using h58)])).elim
                          · exact absurd h72 (by rw [won_app _ (by simpa using h58), show (wonL s fa).2 = true by simpa using h58]; decide)
        · exact absurd (Classical.not_not.1 h15) h50

end Go.Proofs.Ytnaaahpmnhoabaa.X
