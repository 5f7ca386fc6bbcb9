/- The walks of the statements on merging. -/
import Derived.Test.YtnaaahpmnhoabaaM13
set_option linter.unusedVariables false
set_option linter.unusedSimpArgs false
namespace Go.Proofs.Ytnaaahpmnhoabaa.X
open Go
set_option maxHeartbeats 1000000 in
theorem mergeRuns_ok (vruns : Value) (runs : List (List Pair)) (wruns : (∀ xs ∈ runs, (∀ p ∈ xs, p.key.size ≤ 9223372036854775807 ∧ p.val.size ≤ 9223372036854775807) ∧ xs.length ≤ 9223372036854775807) ∧ runs.length ≤ 9223372036854775807) :
    Cn Try.prog 10 [vruns] [] [rsl (kSl kPair) vruns runs] (fun v Bs => v = .bool true ∧ Bs = []) := by
  intro w0 F0 H
  obtain ⟨us, hus, H⟩ := H.heads 0 rfl
  refine enter (args := [vruns]) Try.func10 rfl rfl (Nat.le_of_ble_eq_true rfl) ?_
  refine c_seq ?_
  refine c_reg ?_
  refine s_val rfl rfl (r_as rfl rfl) ?_
  refine s_nil ?_
  refine q_then ?_
  refine c_env [(0, vruns), (2, .bool false)] ⟨rfl, rfl, trivial⟩ ?_
  refine c_seq ?_
  refine c_reg ?_
  refine s_val rfl rfl (r_mv rfl rfl) ?_
  refine sc (sortedRuns_ok vruns us) H (lR 0 rfl l0) rfl rfl (e_fn kn45 rfl rfl) ?_
  rintro _ _ w ⟨ok3, u1, zs2, rfl, rfl, hs⟩ H
  refine s_val rfl rfl (r_mv rfl rfl) ?_
  refine s_val rfl rfl (r_ex rfl rfl rfl) ?_
  refine s_val rfl rfl (r_ex rfl rfl rfl) ?_
  refine s_val rfl rfl (r_as rfl rfl) ?_
  refine s_val rfl rfl (r_as rfl rfl) ?_
  refine s_nil ?_
  refine q_then ?_
  replace H : Hd _ _ _ [osl (kHd kPair) u1 zs2] [rsl (kHd kPair) vruns us, rsl (kSl kPair) vruns runs] := H
  refine c_env [(2, .bool false), (3, u1), (4, .bool ok3)] ⟨rfl, rfl, rfl, trivial⟩ ?_
  refine c_seq ?_
  refine c_seq ?_
  refine c_reg ?_
  refine s_val rfl rfl (r_mv rfl rfl) ?_
  refine s_val rfl rfl (r_not rfl rfl rfl) ?_
  refine s_nil ?_
  refine q_then ?_
  refine c_env [(2, .bool false), (3, u1), (16, .bool (!ok3))] ⟨rfl, rfl, rfl, trivial⟩ ?_
  refine c_cond (b := !ok3) rfl (fun h4 => ?_) (fun h4 => ?_)
  · skip
    refine c_seq ?_
    refine c_reg ?_
    refine sc (awake11_ok ) H l0 rfl rfl (e_fn kn46 rfl rfl) ?_
    rintro _ _ w ⟨rfl, rfl⟩ H
    refine s_val rfl rfl (r_as rfl rfl) ?_
    refine s_nil ?_
    refine q_then ?_
    refine c_env [(2, .bool true), (3, u1)] ⟨rfl, rfl, trivial⟩ ?_
    refine c_ret ?_
    refine q_thenR ?_
    refine q_ret1 rfl rfl ?_
    replace H := H.keep 0
    replace H := H.dropR
    exact fin ⟨rfl, rfl⟩ H
  · skip
    refine c_skip ?_
    refine q_then ?_
    refine c_env [(2, .bool false), (3, u1)] ⟨rfl, rfl, trivial⟩ ?_
    refine c_seq ?_
    have hs1 := hs (by simpa using h4)
    have hfb := flat2_bound hs1.2
    have hsl0 := srt_len (flat2 zs2)
    refine c_reg ?_
    refine s_val rfl rfl (r_mv rfl rfl) ?_
    refine sc (runs_ok u1 zs2 (by first | omega | decide | exact Nat.le_trans (flat2_le _ _) (by omega) | exact Nat.le_trans (flat2_le' _ _) (by omega) | (simp only [flat2, List.flatMap_cons, List.flatMap_nil, List.append_nil, srt_len]; omega))) H (lA 0 rfl own_rd l0) rfl rfl (e_fn kn47 rfl rfl) ?_
    rintro v5 _ w rfl H
    refine s_val rfl rfl (r_as rfl rfl) ?_
    refine s_nil ?_
    refine q_then ?_
    replace H : Hd _ _ _ [osl kPair v5 (srt (flat2 zs2)), osl (kHd kPair) u1 zs2] [rsl (kHd kPair) vruns us, rsl (kSl kPair) vruns runs] := H
    refine c_env [(2, .bool false), (3, u1), (5, v5)] ⟨rfl, rfl, rfl, trivial⟩ ?_
    refine c_seq ?_
    refine c_seq ?_
    refine c_reg ?_
    refine s_val rfl rfl (r_mv rfl rfl) ?_
    refine s_val rfl rfl (r_mv rfl rfl) ?_
    refine sc (rRuns_ok u1 zs2 (by first | omega | decide | exact Nat.le_trans (flat2_le _ _) (by omega) | exact Nat.le_trans (flat2_le' _ _) (by omega) | (simp only [flat2, List.flatMap_cons, List.flatMap_nil, List.append_nil, srt_len]; omega))) H (lA 1 rfl own_rd l0) rfl rfl (e_fn kn49 rfl rfl) ?_
    rintro v6 _ w rfl H
    refine sc (samePairs_ok v5 v6 (srt (flat2 zs2)) (srt (flat2 zs2))) H (lA 1 rfl own_rd (lA 0 rfl own_rd l0)) rfl rfl (e_fn kn48 rfl rfl) ?_
    rintro _ _ w ⟨rfl, rfl⟩ H
    refine s_val rfl rfl (r_notP rfl rfl) ?_
    refine s_nil ?_
    refine q_then ?_
    replace H : Hd _ _ _ [osl kPair v6 (srt (flat2 zs2)), osl kPair v5 (srt (flat2 zs2)), osl (kHd kPair) u1 zs2] [rsl (kHd kPair) vruns us, rsl (kSl kPair) vruns runs] := H
    refine c_env [(2, .bool false), (3, u1), (5, v5), (24, .bool (decide (¬ ((srt (flat2 zs2)) = (srt (flat2 zs2))))))] ⟨rfl, rfl, rfl, rfl, trivial⟩ ?_
    refine c_dec (p := ¬ ((srt (flat2 zs2)) = (srt (flat2 zs2)))) rfl (fun h7 => ?_) (fun h7 => ?_)
    · exact (h7 rfl).elim
    · skip
      refine c_skip ?_
      refine q_then ?_
      refine c_env [(2, .bool false), (3, u1), (5, v5)] ⟨rfl, rfl, rfl, trivial⟩ ?_
      refine c_seq ?_
      refine c_reg ?_
      refine s_val rfl rfl (r_mv rfl rfl) ?_
      replace H := H.pick 1 rfl
      replace H : Hd _ _ _ [osl kPair v5 (srt (flat2 zs2)), osl kPair v6 (srt (flat2 zs2)), osl (kHd kPair) u1 zs2] [rsl (kHd kPair) vruns us, rsl (kSl kPair) vruns runs] := H
      refine sc (overPairs_ok v5 (srt (flat2 zs2)) (by simp only [srt_len, List.length_append]; omega)) H l0 rfl rfl (e_fn kn50 rfl rfl) ?_
      rintro _ _ w rfl H
      refine s_nil ?_
      refine q_then ?_
      replace H : Hd _ _ _ [osl kPair v6 (srt (flat2 zs2)), osl (kHd kPair) u1 zs2] [rsl (kHd kPair) vruns us, rsl (kSl kPair) vruns runs] := H
      refine c_env [(2, .bool false), (3, u1)] ⟨rfl, rfl, trivial⟩ ?_
      refine c_seq ?_
      refine c_seq ?_
      refine c_reg ?_
      refine s_val rfl rfl (r_mv rfl rfl) ?_
      obtain ⟨A8, c9, rfl, hc10, hm11, hp12⟩ := H.fA 1 rfl
      refine s_val rfl rfl (r_lenL rfl un51 rfl) ?_
      refine s_val rfl rfl (r_ge rfl rfl rfl) ?_
      refine s_nil ?_
      refine q_then ?_
      replace H : Hd _ _ _ [osl kPair v6 (srt (flat2 zs2)), osl (kHd kPair) (.slice A8 zs2.length c9) zs2] [rsl (kHd kPair) vruns us, rsl (kSl kPair) vruns runs] := H
      refine c_env [(2, .bool false), (3, .slice A8 zs2.length c9), (29, .bool (decide ((2 : Int) ≤ ((zs2.length : Nat) : Int))))] ⟨rfl, rfl, rfl, trivial⟩ ?_
      refine c_dec (p := (2 : Int) ≤ ((zs2.length : Nat) : Int)) rfl (fun h13 => ?_) (fun h13 => ?_)
      · skip
        refine c_seq ?_
        replace H := H.pick 1 rfl
        replace H := H.pick 1 rfl
        replace H : Hd _ _ _ [osl kPair v6 (srt (flat2 zs2)), osl (kHd kPair) (.slice A8 zs2.length c9) zs2] [rsl (kHd kPair) vruns us, rsl (kSl kPair) vruns runs] := H
        refine c_ord (.e 0 (.e 1 (.e 2 (.e 4 (.e 5 (.e 6 (.m 3 (.m 7 (.e 8 (.e 9 .z)))))))))) (fun w => ∃ Ar, Hd w0 F0 w (osl kPair v6 (srt (flat2 zs2)) :: osl (kHd kPair) (.slice A8 zs2.length c9) zs2 :: Ar) [rsl (kHd kPair) vruns us, rsl (kSl kPair) vruns runs]) mo (by kernel_rfl) (fun w H => ⟨_, H⟩) H (fun w H => ?_)
        refine d_val rfl rfl rfl (fun w ⟨Ar, H⟩ => r_mv rfl rfl) ?_
        obtain ⟨⟨u16, x14⟩, hx15⟩ : ∃ z9, zs2[0]? = some z9 := ⟨_, List.getElem?_eq_getElem (show 0 < zs2.length by omega)⟩
        obtain ⟨A17, c18, rfl, hc19, hm20⟩ := H.nestA 1 rfl hx15
        have hlx14 : x14.length ≤ 20 := hs1.2 _ (at_mem hx15)
        have th21 := H.thAd 1 rfl hx15
        refine d_val rfl rfl rfl (fun w ⟨Ar, H⟩ => r_iaE (p := oOf A8 + 0 * 1) rfl sl51 rfl rfl (by omega) (by omega) th21 (by omega)) ?_
        refine d_val rfl rfl rfl (fun w ⟨Ar, H⟩ => r_ld rfl ty54 rfl (H.elAd 1 rfl hx15 rfl)) ?_
        refine d_val rfl rfl rfl (fun w ⟨Ar, H⟩ => r_mv rfl rfl) ?_
        obtain ⟨⟨u24, x22⟩, hx23⟩ : ∃ z9, zs2[1]? = some z9 := ⟨_, List.getElem?_eq_getElem (show 1 < zs2.length by omega)⟩
        obtain ⟨A25, c26, rfl, hc27, hm28⟩ := H.nestA 1 rfl hx23
        have hlx22 : x22.length ≤ 20 := hs1.2 _ (at_mem hx23)
        have th29 := H.thAd 1 rfl hx23
        refine d_val rfl rfl rfl (fun w ⟨Ar, H⟩ => r_iaE (p := oOf A8 + 1 * 1) rfl sl51 rfl rfl (by omega) (by omega) th29 (by omega)) ?_
        refine d_val rfl rfl rfl (fun w ⟨Ar, H⟩ => r_ld rfl ty54 rfl (H.elAd 1 rfl hx23 rfl)) ?_
        refine d_main rfl ?_
        refine sc (lendPairs_ok (.slice A17 x14.length c18) x14 (by omega)) H (lX (fun F hA hR => nest_rsl (own_rd F (hA _ (List.mem_of_getElem? (i := 1) rfl))) hx15) l0) rfl rfl (e_fn kn51 rfl rfl) ?_
        rintro _ _ w ⟨b30, rfl, rfl⟩ H
        replace H := H.pick 2 rfl
        replace H := H.pick 2 rfl
        replace H : Hd _ _ _ [osl kPair v6 (srt (flat2 zs2)), osl (kHd kPair) (.slice A8 zs2.length c9) zs2, rowF encPair b30 91 (x14 ++ List.replicate 3 (⟨⟨#[108, 101, 110, 116]⟩, ⟨#[]⟩⟩ : Pair))] [rsl (kHd kPair) vruns us, rsl (kSl kPair) vruns runs] := H
        refine d_back ⟨_, H⟩ ?_
        refine d_main rfl ?_
        refine sc (lendPairs_ok (.slice A25 x22.length c26) x22 (by omega)) H (lX (fun F hA hR => nest_rsl (own_rd F (hA _ (List.mem_of_getElem? (i := 1) rfl))) hx23) l0) rfl rfl (e_fn kn51 rfl rfl) ?_
        rintro _ _ w ⟨b31, rfl, rfl⟩ H
        replace H := H.pick 2 rfl
        replace H := H.pick 2 rfl
        replace H : Hd _ _ _ [osl kPair v6 (srt (flat2 zs2)), osl (kHd kPair) (.slice A8 zs2.length c9) zs2, rowF encPair b31 91 (x22 ++ List.replicate 3 (⟨⟨#[108, 101, 110, 116]⟩, ⟨#[]⟩⟩ : Pair)), rowF encPair b30 91 (x14 ++ List.replicate 3 (⟨⟨#[108, 101, 110, 116]⟩, ⟨#[]⟩⟩ : Pair))] [rsl (kHd kPair) vruns us, rsl (kSl kPair) vruns runs] := H
        refine d_back ⟨_, H⟩ ?_
        refine d_val rfl rfl rfl (fun w ⟨Ar, H⟩ => r_as rfl rfl) ?_
        refine d_val rfl rfl rfl (fun w ⟨Ar, H⟩ => r_as rfl rfl) ?_
        refine d_nil ?_
        refine q_then ?_
        refine c_env [(2, .bool false), (3, .slice A8 zs2.length c9), (6, .slice (some ⟨b30, 0, none⟩) x14.length (x14.length + 3)), (7, .slice (some ⟨b31, 0, none⟩) x22.length (x22.length + 3))] ⟨rfl, rfl, rfl, rfl, trivial⟩ ?_
        refine c_seq ?_
        refine c_reg ?_
        refine s_val rfl rfl (r_mv rfl rfl) ?_
        refine s_val rfl rfl (r_mv rfl rfl) ?_
        refine sc (two_ok (.slice (some ⟨b30, 0, none⟩) x14.length (x14.length + 3)) x14 (.slice (some ⟨b31, 0, none⟩) x22.length (x22.length + 3)) x22 (by first | omega | decide | (simp only [List.length_append, List.length_cons, List.length_nil, srt_len]; omega))) H (lA 3 rfl (fun F h => rowF_rsl (i := 0) h (by first | (simp; done) | exact List.take_of_length_le (by simp)) (by simp) (by simp) (by omega) (by simp)) (lA 2 rfl (fun F h => rowF_rsl (i := 0) h (by first | (simp; done) | exact List.take_of_length_le (by simp)) (by simp) (by simp) (by omega) (by simp)) l0)) rfl rfl (e_fn kn52 rfl rfl) ?_
        rintro v32 _ w rfl H
        refine s_val rfl rfl (r_as rfl rfl) ?_
        refine s_nil ?_
        refine q_then ?_
        replace H : Hd _ _ _ [osl kPair v32 (srt (x14 ++ x22)), osl kPair v6 (srt (flat2 zs2)), osl (kHd kPair) (.slice A8 zs2.length c9) zs2, rowF encPair b31 91 (x22 ++ List.replicate 3 (⟨⟨#[108, 101, 110, 116]⟩, ⟨#[]⟩⟩ : Pair)), rowF encPair b30 91 (x14 ++ List.replicate 3 (⟨⟨#[108, 101, 110, 116]⟩, ⟨#[]⟩⟩ : Pair))] [rsl (kHd kPair) vruns us, rsl (kSl kPair) vruns runs] := H
        refine c_env [(2, .bool false), (3, .slice A8 zs2.length c9), (6, .slice (some ⟨b30, 0, none⟩) x14.length (x14.length + 3)), (7, .slice (some ⟨b31, 0, none⟩) x22.length (x22.length + 3)), (8, v32)] ⟨rfl, rfl, rfl, rfl, rfl, trivial⟩ ?_
        refine c_seq ?_
        refine c_reg ?_
        refine s_val rfl rfl (r_mv rfl rfl) ?_
        refine s_val rfl rfl (r_mv rfl rfl) ?_
        refine s_val rfl rfl (r_cutP rfl sl51 rfl rfl (by omega) (by omega) rfl) ?_
        refine sc (rRuns_ok (.slice A8 2 c9) (zs2.take 2) (by first | omega | decide | exact Nat.le_trans (flat2_le _ _) (by omega) | exact Nat.le_trans (flat2_le' _ _) (by omega) | (simp only [flat2, List.flatMap_cons, List.flatMap_nil, List.append_nil, srt_len]; omega))) H (lX (fun F hA hR => rsl_pre (own_rd F (hA _ (List.mem_of_getElem? (i := 2) rfl))) (i := 2) (by omega)) l0) rfl rfl (e_fn kn49 rfl rfl) ?_
        rintro v33 _ w rfl H
        refine sc (samePairs_ok v32 v33 (srt (x14 ++ x22)) (srt (flat2 (zs2.take 2)))) H (lA 1 rfl own_rd (lA 0 rfl own_rd l0)) rfl rfl (e_fn kn48 rfl rfl) ?_
        rintro _ _ w ⟨rfl, rfl⟩ H
        refine s_val rfl rfl (r_as rfl rfl) ?_
        refine s_nil ?_
        refine q_then ?_
        replace H : Hd _ _ _ [osl kPair v33 (srt (flat2 (zs2.take 2))), osl kPair v32 (srt (x14 ++ x22)), osl kPair v6 (srt (flat2 zs2)), osl (kHd kPair) (.slice A8 zs2.length c9) zs2, rowF encPair b31 91 (x22 ++ List.replicate 3 (⟨⟨#[108, 101, 110, 116]⟩, ⟨#[]⟩⟩ : Pair)), rowF encPair b30 91 (x14 ++ List.replicate 3 (⟨⟨#[108, 101, 110, 116]⟩, ⟨#[]⟩⟩ : Pair))] [rsl (kHd kPair) vruns us, rsl (kSl kPair) vruns runs] := H
        refine c_env [(2, .bool false), (3, .slice A8 zs2.length c9), (6, .slice (some ⟨b30, 0, none⟩) x14.length (x14.length + 3)), (7, .slice (some ⟨b31, 0, none⟩) x22.length (x22.length + 3)), (8, v32), (9, .bool (decide ((srt (x14 ++ x22)) = (srt (flat2 (zs2.take 2))))))] ⟨rfl, rfl, rfl, rfl, rfl, rfl, trivial⟩ ?_
        refine c_seq ?_
        refine c_reg ?_
        refine s_val rfl rfl (r_mv rfl rfl) ?_
        replace H := H.pick 1 rfl
        replace H : Hd _ _ _ [osl kPair v32 (srt (x14 ++ x22)), osl kPair v33 (srt (flat2 (zs2.take 2))), osl kPair v6 (srt (flat2 zs2)), osl (kHd kPair) (.slice A8 zs2.length c9) zs2, rowF encPair b31 91 (x22 ++ List.replicate 3 (⟨⟨#[108, 101, 110, 116]⟩, ⟨#[]⟩⟩ : Pair)), rowF encPair b30 91 (x14 ++ List.replicate 3 (⟨⟨#[108, 101, 110, 116]⟩, ⟨#[]⟩⟩ : Pair))] [rsl (kHd kPair) vruns us, rsl (kSl kPair) vruns runs] := H
        refine sc (overPairs_ok v32 (srt (x14 ++ x22)) (by simp only [srt_len, List.length_append]; omega)) H l0 rfl rfl (e_fn kn50 rfl rfl) ?_
        rintro _ _ w rfl H
        refine s_nil ?_
        refine q_then ?_
        replace H : Hd _ _ _ [osl kPair v33 (srt (flat2 (zs2.take 2))), osl kPair v6 (srt (flat2 zs2)), osl (kHd kPair) (.slice A8 zs2.length c9) zs2, rowF encPair b31 91 (x22 ++ List.replicate 3 (⟨⟨#[108, 101, 110, 116]⟩, ⟨#[]⟩⟩ : Pair)), rowF encPair b30 91 (x14 ++ List.replicate 3 (⟨⟨#[108, 101, 110, 116]⟩, ⟨#[]⟩⟩ : Pair))] [rsl (kHd kPair) vruns us, rsl (kSl kPair) vruns runs] := H
        refine c_env [(2, .bool false), (3, .slice A8 zs2.length c9), (6, .slice (some ⟨b30, 0, none⟩) x14.length (x14.length + 3)), (7, .slice (some ⟨b31, 0, none⟩) x22.length (x22.length + 3)), (9, .bool (decide ((srt (x14 ++ x22)) = (srt (flat2 (zs2.take 2))))))] ⟨rfl, rfl, rfl, rfl, rfl, trivial⟩ ?_
        refine c_seq ?_
        refine c_reg ?_
        refine s_val rfl rfl (r_mv rfl rfl) ?_
        refine s_val rfl rfl (r_notP rfl rfl) ?_
        refine s_val rfl rfl (r_mv rfl rfl) ?_
        refine s_dec (d := 50) (p := ¬ ((srt (x14 ++ x22)) = (srt (flat2 (zs2.take 2))))) rfl (fun h34 => ?_) (fun h34 => ?_)
        · exact (h34 (by rw [flat2_two hx15 hx23])).elim
        · skip
          refine s_val rfl rfl (r_mv rfl rfl) ?_
          refine s_val rfl rfl (r_mv rfl rfl) ?_
          have th35 := H.thAd 2 rfl hx15
          refine s_val rfl rfl (r_iaE (p := oOf A8 + 0 * 1) rfl sl51 rfl rfl (by omega) (by omega) th35 (by omega)) ?_
          refine s_val rfl rfl (r_ld rfl ty54 rfl (H.elAd 2 rfl hx15 rfl)) ?_
          refine sc (keptPairs_ok b30 x14 (.slice A17 x14.length c18) x14 (by omega)) H (lA 4 rfl (fun _ h => h) (lX (fun F hA hR => nest_rsl (own_rd F (hA _ (List.mem_of_getElem? (i := 2) rfl))) hx15) l0)) rfl rfl (e_fn kn53 rfl rfl) ?_
          rintro _ _ w ⟨rfl, rfl⟩ H
          refine s_val rfl rfl (r_notP rfl rfl) ?_
          refine s_val rfl rfl (r_pickF rfl rfl rfl) ?_
          refine s_val rfl rfl (r_mv rfl rfl) ?_
          refine s_dec (d := 58) (p := ¬ (x14 = x14)) rfl (fun h36 => ?_) (fun h36 => ?_)
          · exact (h36 rfl).elim
          · skip
            refine s_val rfl rfl (r_mv rfl rfl) ?_
            refine s_val rfl rfl (r_mv rfl rfl) ?_
            have th37 := H.thAd 2 rfl hx23
            refine s_val rfl rfl (r_iaE (p := oOf A8 + 1 * 1) rfl sl51 rfl rfl (by omega) (by omega) th37 (by omega)) ?_
            refine s_val rfl rfl (r_ld rfl ty54 rfl (H.elAd 2 rfl hx23 rfl)) ?_
            refine sc (keptPairs_ok b31 x22 (.slice A25 x22.length c26) x22 (by omega)) H (lA 3 rfl (fun _ h => h) (lX (fun F hA hR => nest_rsl (own_rd F (hA _ (List.mem_of_getElem? (i := 2) rfl))) hx23) l0)) rfl rfl (e_fn kn53 rfl rfl) ?_
            rintro _ _ w ⟨rfl, rfl⟩ H
            refine s_val rfl rfl (r_notP rfl rfl) ?_
            refine s_val rfl rfl (r_pickF rfl rfl rfl) ?_
            refine s_nil ?_
            refine q_then ?_
            refine c_env [(2, .bool false), (3, .slice A8 zs2.length c9), (65, .bool (decide (¬ (x22 = x22))))] ⟨rfl, rfl, rfl, trivial⟩ ?_
            refine c_dec (p := ¬ (x22 = x22)) rfl (fun h38 => ?_) (fun h38 => ?_)
            · exact (h38 rfl).elim
            · skip
              refine c_skip ?_
              refine q_then ?_
              refine c_env [(2, .bool false), (3, .slice A8 zs2.length c9)] ⟨rfl, rfl, trivial⟩ ?_
              refine c_seq ?_
              refine c_reg ?_
              refine s_val rfl rfl (r_mv rfl rfl) ?_
              refine sc (runs_ok (.slice A8 zs2.length c9) zs2 (by first | omega | decide | exact Nat.le_trans (flat2_le _ _) (by omega) | exact Nat.le_trans (flat2_le' _ _) (by omega) | (simp only [flat2, List.flatMap_cons, List.flatMap_nil, List.append_nil, srt_len]; omega))) H (lA 2 rfl own_rd l0) rfl rfl (e_fn kn47 rfl rfl) ?_
              rintro v39 _ w rfl H
              refine s_val rfl rfl (r_mv rfl rfl) ?_
              replace H : Hd _ _ _ [osl kPair v39 (srt (flat2 zs2)), osl kPair v33 (srt (flat2 (zs2.take 2))), osl kPair v6 (srt (flat2 zs2)), osl (kHd kPair) (.slice A8 zs2.length c9) zs2, rowF encPair b31 91 (x22 ++ List.replicate 3 (⟨⟨#[108, 101, 110, 116]⟩, ⟨#[]⟩⟩ : Pair)), rowF encPair b30 91 (x14 ++ List.replicate 3 (⟨⟨#[108, 101, 110, 116]⟩, ⟨#[]⟩⟩ : Pair))] [rsl (kHd kPair) vruns us, rsl (kSl kPair) vruns runs] := H
              refine sc (rRuns_ok (.slice A8 zs2.length c9) zs2 (by first | omega | decide | exact Nat.le_trans (flat2_le _ _) (by omega) | exact Nat.le_trans (flat2_le' _ _) (by omega) | (simp only [flat2, List.flatMap_cons, List.flatMap_nil, List.append_nil, srt_len]; omega))) H (lA 3 rfl own_rd l0) rfl rfl (e_fn kn49 rfl rfl) ?_
              rintro v40 _ w rfl H
              refine sc (samePairs_ok v39 v40 (srt (flat2 zs2)) (srt (flat2 zs2))) H (lA 1 rfl own_rd (lA 0 rfl own_rd l0)) rfl rfl (e_fn kn48 rfl rfl) ?_
              rintro _ _ w ⟨rfl, rfl⟩ H
              refine s_val rfl rfl (r_mv rfl rfl) ?_
              refine s_dec (d := 71) (p := (srt (flat2 zs2)) = (srt (flat2 zs2))) rfl (fun h41 => ?_) (fun h41 => ?_)
              · skip
                refine sc (awake11_ok ) H l0 rfl rfl (e_fn kn46 rfl rfl) ?_
                rintro _ _ w ⟨rfl, rfl⟩ H
                refine s_val rfl rfl (r_pickT rfl rfl rfl) ?_
                refine s_val rfl rfl (r_as rfl rfl) ?_
                refine s_nil ?_
                refine q_then ?_
                replace H : Hd _ _ _ [osl kPair v40 (srt (flat2 zs2)), osl kPair v39 (srt (flat2 zs2)), osl kPair v33 (srt (flat2 (zs2.take 2))), osl kPair v6 (srt (flat2 zs2)), osl (kHd kPair) (.slice A8 zs2.length c9) zs2, rowF encPair b31 91 (x22 ++ List.replicate 3 (⟨⟨#[108, 101, 110, 116]⟩, ⟨#[]⟩⟩ : Pair)), rowF encPair b30 91 (x14 ++ List.replicate 3 (⟨⟨#[108, 101, 110, 116]⟩, ⟨#[]⟩⟩ : Pair))] [rsl (kHd kPair) vruns us, rsl (kSl kPair) vruns runs] := H
                refine c_env [(2, .bool true)] ⟨rfl, trivial⟩ ?_
                refine c_ret ?_
                refine q_ret1 rfl rfl ?_
                replace H := H.keep 0
                replace H := H.dropR
                exact fin ⟨rfl, rfl⟩ H
              · exact (h41 rfl).elim
      · skip
        refine c_skip ?_
        refine q_then ?_
        refine c_env [(2, .bool false), (3, .slice A8 zs2.length c9)] ⟨rfl, rfl, trivial⟩ ?_
        refine c_seq ?_
        refine c_reg ?_
        refine s_val rfl rfl (r_mv rfl rfl) ?_
        refine sc (runs_ok (.slice A8 zs2.length c9) zs2 (by first | omega | decide | exact Nat.le_trans (flat2_le _ _) (by omega) | exact Nat.le_trans (flat2_le' _ _) (by omega) | (simp only [flat2, List.flatMap_cons, List.flatMap_nil, List.append_nil, srt_len]; omega))) H (lA 1 rfl own_rd l0) rfl rfl (e_fn kn47 rfl rfl) ?_
        rintro v42 _ w rfl H
        refine s_val rfl rfl (r_mv rfl rfl) ?_
        replace H : Hd _ _ _ [osl kPair v42 (srt (flat2 zs2)), osl kPair v6 (srt (flat2 zs2)), osl (kHd kPair) (.slice A8 zs2.length c9) zs2] [rsl (kHd kPair) vruns us, rsl (kSl kPair) vruns runs] := H
        refine sc (rRuns_ok (.slice A8 zs2.length c9) zs2 (by first | omega | decide | exact Nat.le_trans (flat2_le _ _) (by omega) | exact Nat.le_trans (flat2_le' _ _) (by omega) | (simp only [flat2, List.flatMap_cons, List.flatMap_nil, List.append_nil, srt_len]; omega))) H (lA 2 rfl own_rd l0) rfl rfl (e_fn kn49 rfl rfl) ?_
        rintro v43 _ w rfl H
        refine sc (samePairs_ok v42 v43 (srt (flat2 zs2)) (srt (flat2 zs2))) H (lA 1 rfl own_rd (lA 0 rfl own_rd l0)) rfl rfl (e_fn kn48 rfl rfl) ?_
        rintro _ _ w ⟨rfl, rfl⟩ H
        refine s_val rfl rfl (r_mv rfl rfl) ?_
        refine s_dec (d := 71) (p := (srt (flat2 zs2)) = (srt (flat2 zs2))) rfl (fun h44 => ?_) (fun h44 => ?_)
        · skip
          refine sc (awake11_ok ) H l0 rfl rfl (e_fn kn46 rfl rfl) ?_
          rintro _ _ w ⟨rfl, rfl⟩ H
          refine s_val rfl rfl (r_pickT rfl rfl rfl) ?_
          refine s_val rfl rfl (r_as rfl rfl) ?_
          refine s_nil ?_
          refine q_then ?_
          replace H : Hd _ _ _ [osl kPair v43 (srt (flat2 zs2)), osl kPair v42 (srt (flat2 zs2)), osl kPair v6 (srt (flat2 zs2)), osl (kHd kPair) (.slice A8 zs2.length c9) zs2] [rsl (kHd kPair) vruns us, rsl (kSl kPair) vruns runs] := H
          refine c_env [(2, .bool true)] ⟨rfl, trivial⟩ ?_
          refine c_ret ?_
          refine q_ret1 rfl rfl ?_
          replace H := H.keep 0
          replace H := H.dropR
          exact fin ⟨rfl, rfl⟩ H
        · exact (h44 rfl).elim

end Go.Proofs.Ytnaaahpmnhoabaa.X
