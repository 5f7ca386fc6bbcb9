/- The walks of the statements on merging. -/
import Derived.Test.YtnaaahpmnhoabaaM13
import Derived.Test.YtnaaahpmnhoabaaXMer2
set_option linter.unusedVariables false
set_option linter.unusedSimpArgs false
namespace Go.Proofs.Ytnaaahpmnhoabaa.X
open Go
set_option maxHeartbeats 1000000 in
theorem mergeRuns_ok (vruns : Value) (runs : List (List Pair)) (wruns : (∀ xs ∈ runs, (∀ p ∈ xs, p.key.size ≤ 9223372036854775807 ∧ p.val.size ≤ 9223372036854775807) ∧ xs.length ≤ 9223372036854775807) ∧ runs.length ≤ 9223372036854775807) :
    Cn Try.prog 10 [vruns] [] [rsl (kSl kPair) vruns runs] (fun v Bs => v = .bool true ∧ Bs = []) := by
  intro w0 F0 H
  obtain ⟨us, hus, H⟩ := H.heads 0 rfl
  refine enter (args := [vruns]) Try.func10 rfl rfl (Nat.le_of_ble_eq_true rfl) ?_
  refine c_seq ?_
  refine c_reg ?_
  refine s_val rfl rfl (r_as rfl rfl) ?_
  refine s_nil ?_
  refine q_then ?_
  refine c_env [(0, vruns), (2, .bool false)] ⟨rfl, rfl, trivial⟩ ?_
  refine c_seq ?_
  refine c_reg ?_
  refine s_val rfl rfl (r_mv rfl rfl) ?_
  refine sc (sortedRuns_ok vruns us) H (lR 0 rfl l0) rfl rfl (e_fn kn45 rfl rfl) ?_
  rintro _ _ w ⟨ok3, u1, zs2, rfl, rfl, hs⟩ H
  refine s_val rfl rfl (r_mv rfl rfl) ?_
  refine s_val rfl rfl (r_ex rfl rfl rfl) ?_
  refine s_val rfl rfl (r_ex rfl rfl rfl) ?_
  refine s_val rfl rfl (r_as rfl rfl) ?_
  refine s_val rfl rfl (r_as rfl rfl) ?_
  refine s_nil ?_
  refine q_then ?_
  replace H : Hd _ _ _ [osl (kHd kPair) u1 zs2] [rsl (kHd kPair) vruns us, rsl (kSl kPair) vruns runs] := H
  refine c_env [(2, .bool false), (3, u1), (4, .bool ok3)] ⟨rfl, rfl, rfl, trivial⟩ ?_
  refine c_seq ?_
  refine c_seq ?_
  refine c_reg ?_
  refine s_val rfl rfl (r_mv rfl rfl) ?_
  refine s_val rfl rfl (r_not rfl rfl rfl) ?_
  refine s_nil ?_
  refine q_then ?_
  refine c_env [(2, .bool false), (3, u1), (16, .bool (!ok3))] ⟨rfl, rfl, rfl, trivial⟩ ?_
  refine c_cond (b := !ok3) rfl (fun h4 => ?_) (fun h4 => ?_)
  · skip
    refine c_seq ?_
    refine c_reg ?_
    refine sc (awake11_ok ) H l0 rfl rfl (e_fn kn46 rfl rfl) ?_
    rintro _ _ w ⟨rfl, rfl⟩ H
    refine s_val rfl rfl (r_as rfl rfl) ?_
    refine s_nil ?_
    refine q_then ?_
    refine c_env [(2, .bool true), (3, u1)] ⟨rfl, rfl, trivial⟩ ?_
    refine c_ret ?_
    refine q_thenR ?_
    refine q_ret1 rfl rfl ?_
    replace H := H.keep 0
    replace H := H.dropR
    exact fin ⟨rfl, rfl⟩ H
  · skip
    refine c_skip ?_
    refine q_then ?_
    refine c_env [(2, .bool false), (3, u1)] ⟨rfl, rfl, trivial⟩ ?_
    refine c_seq ?_
    have hs1 := hs (by simpa using h4)
    have hfb := flat2_bound hs1.2
    have hsl0 := srt_len (flat2 zs2)
    refine c_reg ?_
    refine s_val rfl rfl (r_mv rfl rfl) ?_
    refine sc (runs_ok u1 zs2 (by first | omega | decide | exact Nat.le_trans (flat2_le _ _) (by omega) | exact Nat.le_trans (flat2_le' _ _) (by omega) | (simp only [flat2, List.flatMap_cons, List.flatMap_nil, List.append_nil, srt_len]; omega))) H (lA 0 rfl own_rd l0) rfl rfl (e_fn kn47 rfl rfl) ?_
    rintro v5 _ w rfl H
    refine s_val rfl rfl (r_as rfl rfl) ?_
    refine s_nil ?_
    refine q_then ?_
    replace H : Hd _ _ _ [osl kPair v5 (srt (flat2 zs2)), osl (kHd kPair) u1 zs2] [rsl (kHd kPair) vruns us, rsl (kSl kPair) vruns runs] := H
    refine c_env [(2, .bool false), (3, u1), (5, v5)] ⟨rfl, rfl, rfl, trivial⟩ ?_
    refine c_seq ?_
    refine c_seq ?_
    refine c_reg ?_
    refine s_val rfl rfl (r_mv rfl rfl) ?_
    refine s_val rfl rfl (r_mv rfl rfl) ?_
    refine sc (rRuns_ok u1 zs2 (by first | omega | decide | exact Nat.le_trans (flat2_le _ _) (by omega) | exact Nat.le_trans (flat2_le' _ _) (by omega) | (simp only [flat2, List.flatMap_cons, List.flatMap_nil, List.append_nil, srt_len]; omega))) H (lA 1 rfl own_rd l0) rfl rfl (e_fn kn49 rfl rfl) ?_
    rintro v6 _ w rfl H
    refine sc (samePairs_ok v5 v6 (srt (flat2 zs2)) (srt (flat2 zs2))) H (lA 1 rfl own_rd (lA 0 rfl own_rd l0)) rfl rfl (e_fn kn48 rfl rfl) ?_
    rintro _ _ w ⟨rfl, rfl⟩ H
    refine s_val rfl rfl (r_notP rfl rfl) ?_
    refine s_nil ?_
    refine q_then ?_
    replace H : Hd _ _ _ [osl kPair v6 (srt (flat2 zs2)), osl kPair v5 (srt (flat2 zs2)), osl (kHd kPair) u1 zs2] [rsl (kHd kPair) vruns us, rsl (kSl kPair) vruns runs] := H
    refine c_env [(2, .bool false), (3, u1), (5, v5), (24, .bool (decide (¬ ((srt (flat2 zs2)) = (srt (flat2 zs2))))))] ⟨rfl, rfl, rfl, rfl, trivial⟩ ?_
    refine c_dec (p := ¬ ((srt (flat2 zs2)) = (srt (flat2 zs2)))) rfl (fun h7 => ?_) (fun h7 => ?_)
    · exact (h7 rfl).elim
    · skip
      refine c_skip ?_
      refine q_then ?_
      refine c_env [(2, .bool false), (3, u1), (5, v5)] ⟨rfl, rfl, rfl, trivial⟩ ?_
      refine c_seq ?_
      refine c_reg ?_
      refine s_val rfl rfl (r_mv rfl rfl) ?_
      replace H := H.pick 1 rfl
      replace H : Hd _ _ _ [osl kPair v5 (srt (flat2 zs2)), osl kPair v6 (srt (flat2 zs2)), osl (kHd kPair) u1 zs2] [rsl (kHd kPair) vruns us, rsl (kSl kPair) vruns runs] := H
      refine sc (overPairs_ok v5 (srt (flat2 zs2)) (by simp only [srt_len, List.length_append]; omega)) H l0 rfl rfl (e_fn kn50 rfl rfl) ?_
      rintro _ _ w rfl H
      refine s_nil ?_
      refine q_then ?_
      replace H : Hd _ _ _ [osl kPair v6 (srt (flat2 zs2)), osl (kHd kPair) u1 zs2] [rsl (kHd kPair) vruns us, rsl (kSl kPair) vruns runs] := H
      refine c_env [(2, .bool false), (3, u1)] ⟨rfl, rfl, trivial⟩ ?_
      refine c_seq ?_
      refine c_seq ?_
      refine c_reg ?_
      refine s_val rfl rfl (r_mv rfl rfl) ?_
      obtain ⟨A8, c9, rfl, hc10, hm11, hp12⟩ := H.fA 1 rfl
      refine s_val rfl rfl (r_lenL rfl un51 rfl) ?_
      refine s_val rfl rfl (r_ge rfl rfl rfl) ?_
      refine s_nil ?_
      refine q_then ?_
      replace H : Hd _ _ _ [osl kPair v6 (srt (flat2 zs2)), osl (kHd kPair) (.slice A8 zs2.length c9) zs2] [rsl (kHd kPair) vruns us, rsl (kSl kPair) vruns runs] := H
      refine c_env [(2, .bool false), (3, .slice A8 zs2.length c9), (29, .bool (decide ((2 : Int) ≤ ((zs2.length : Nat) : Int))))] ⟨rfl, rfl, rfl, trivial⟩ ?_
      refine c_dec (p := (2 : Int) ≤ ((zs2.length : Nat) : Int)) rfl (fun h13 => ?_) (fun h13 => ?_)
      · skip
        refine c_seq ?_
        replace H := H.pick 1 rfl
        replace H := H.pick 1 rfl
        replace H : Hd _ _ _ [osl kPair v6 (srt (flat2 zs2)), osl (kHd kPair) (.slice A8 zs2.length c9) zs2] [rsl (kHd kPair) vruns us, rsl (kSl kPair) vruns runs] := H
        refine c_ord (.e 0 (.e 1 (.e 2 (.e 4 (.e 5 (.e 6 (.m 3 (.m 7 (.e 8 (.e 9 .z)))))))))) (fun w => ∃ Ar, Hd w0 F0 w (osl kPair v6 (srt (flat2 zs2)) :: osl (kHd kPair) (.slice A8 zs2.length c9) zs2 :: Ar) [rsl (kHd kPair) vruns us, rsl (kSl kPair) vruns runs]) mo (by kernel_rfl) (fun w H => ⟨_, H⟩) H (fun w H => ?_)
        refine d_val rfl rfl rfl (fun w ⟨Ar, H⟩ => r_mv rfl rfl) ?_
        obtain ⟨⟨u16, x14⟩, hx15⟩ : ∃ z9, zs2[0]? = some z9 := ⟨_, List.getElem?_eq_getElem (show 0 < zs2.length by omega)⟩
        obtain ⟨A17, c18, rfl, hc19, hm20⟩ := H.nestA 1 rfl hx15
        have hlx14 : x14.length ≤ 20 := hs1.2 _ (at_mem hx15)
        have th21 := H.thAd 1 rfl hx15
        refine d_val rfl rfl rfl (fun w ⟨Ar, H⟩ => r_iaE (p := oOf A8 + 0 * 1) rfl sl51 rfl rfl (by omega) (by omega) th21 (by omega)) ?_
        refine d_val rfl rfl rfl (fun w ⟨Ar, H⟩ => r_ld rfl ty54 rfl (H.elAd 1 rfl hx15 rfl)) ?_
        refine d_val rfl rfl rfl (fun w ⟨Ar, H⟩ => r_mv rfl rfl) ?_
        obtain ⟨⟨u24, x22⟩, hx23⟩ : ∃ z9, zs2[1]? = some z9 := ⟨_, List.getElem?_eq_getElem (show 1 < zs2.length by omega)⟩
        obtain ⟨A25, c26, rfl, hc27, hm28⟩ := H.nestA 1 rfl hx23
        have hlx22 : x22.length ≤ 20 := hs1.2 _ (at_mem hx23)
        have th29 := H.thAd 1 rfl hx23
        refine d_val rfl rfl rfl (fun w ⟨Ar, H⟩ => r_iaE (p := oOf A8 + 1 * 1) rfl sl51 rfl rfl (by omega) (by omega) th29 (by omega)) ?_
        refine d_val rfl rfl rfl (fun w ⟨Ar, H⟩ => r_ld rfl ty54 rfl (H.elAd 1 rfl hx23 rfl)) ?_
        refine d_main rfl ?_
        refine sc (lendPairs_ok (.slice A17 x14.length c18) x14 (by omega)) H (lX (fun F hA hR => nest_rsl (own_rd F (hA _ (List.mem_of_getElem? (i := 1) rfl))) hx15) l0) rfl rfl (e_fn kn51 rfl rfl) ?_
        rintro _ _ w ⟨b30, rfl, rfl⟩ H
        replace H := H.pick 2 rfl
        replace H := H.pick 2 rfl
        replace H : Hd _ _ _ [osl kPair v6 (srt (flat2 zs2)), osl (kHd kPair) (.slice A8 zs2.length c9) zs2, rowF encPair b30 91 (x14 ++ List.replicate 3 (⟨⟨#[108, 101, 110, 116]⟩, ⟨#[]⟩⟩ : Pair))] [rsl (kHd kPair) vruns us, rsl (kSl kPair) vruns runs] := H
        refine d_back ⟨_, H⟩ ?_
        refine d_main rfl ?_
        refine sc (lendPairs_ok (.slice A25 x22.length c26) x22 (by omega)) H (lX (fun F hA hR => nest_rsl (own_rd F (hA _ (List.mem_of_getElem? (i := 1) rfl))) hx23) l0) rfl rfl (e_fn kn51 rfl rfl) ?_
        rintro _ _ w ⟨b31, rfl, rfl⟩ H
        replace H := H.pick 2 rfl
        replace H := H.pick 2 rfl
        replace H : Hd _ _ _ [osl kPair v6 (srt (flat2 zs2)), osl (kHd kPair) (.slice A8 zs2.length c9) zs2, rowF encPair b31 91 (x22 ++ List.replicate 3 (⟨⟨#[108, 101, 110, 116]⟩, ⟨#[]⟩⟩ : Pair)), rowF encPair b30 91 (x14 ++ List.replicate 3 (⟨⟨#[108, 101, 110, 116]⟩, ⟨#[]⟩⟩ : Pair))] [rsl (kHd kPair) vruns us, rsl (kSl kPair) vruns runs] := H
        refine d_back ⟨_, H⟩ ?_
        refine d_val rfl rfl rfl (fun w ⟨Ar, H⟩ => r_as rfl rfl) ?_
        refine d_val rfl rfl rfl (fun w ⟨Ar, H⟩ => r_as rfl rfl) ?_
        refine d_nil ?_
        refine q_then ?_
        refine c_env [(2, .bool false), (3, .slice A8 zs2.length c9), (6, .slice (some ⟨b30, 0, none⟩) x14.length (x14.length + 3)), (7, .slice (some ⟨b31, 0, none⟩) x22.length (x22.length + 3))] ⟨rfl, rfl, rfl, rfl, trivial⟩ ?_
        refine c_seq ?_
        refine c_reg ?_
        refine s_val rfl rfl (r_mv rfl rfl) ?_
        refine s_val rfl rfl (r_mv rfl rfl) ?_
        refine sc (two_ok (.slice (some ⟨b30, 0, none⟩) x14.length (x14.length + 3)) x14 (.slice (some ⟨b31, 0, none⟩) x22.length (x22.length + 3)) x22 (by first | omega | decide | (simp only [List.length_append, List.length_cons, List.length_nil, srt_len]; omega))) H (lA 3 rfl (fun F h => rowF_rsl (i := 0) h (by first | (simp; done) | exact List.take_of_length_le (by simp)) (by simp) (by simp) (by omega) (by simp)) (lA 2 rfl (fun F h => rowF_rsl (i := 0) h (by first | (simp; done) | exact List.take_of_length_le (by simp)) (by simp) (by simp) (by omega) (by simp)) l0)) rfl rfl (e_fn kn52 rfl rfl) ?_
        rintro v32 _ w rfl H
        refine s_val rfl rfl (r_as rfl rfl) ?_
        refine s_nil ?_
        refine q_then ?_
        replace H : Hd _ _ _ [osl kPair v32 (srt (x14 ++ x22)), osl kPair v6 (srt (flat2 zs2)), osl (kHd kPair) (.slice A8 zs2.length c9) zs2, rowF encPair b31 91 (x22 ++ List.replicate 3 (⟨⟨#[108, 101, 110, 116]⟩, ⟨#[]⟩⟩ : Pair)), rowF encPair b30 91 (x14 ++ List.replicate 3 (⟨⟨#[108, 101, 110, 116]⟩, ⟨#[]⟩⟩ : Pair))] [rsl (kHd kPair) vruns us, rsl (kSl kPair) vruns runs] := H
        refine c_env [(2, .bool false), (3, .slice A8 zs2.length c9), (6, .slice (some ⟨b30, 0, none⟩) x14.length (x14.length + 3)), (7, .slice (some ⟨b31, 0, none⟩) x22.length (x22.length + 3)), (8, v32)] ⟨rfl, rfl, rfl, rfl, rfl, trivial⟩ ?_
        refine c_seq ?_
        refine c_reg ?_
        refine s_val rfl rfl (r_mv rfl rfl) ?_
        refine s_val rfl rfl (r_mv rfl rfl) ?_
        refine s_val rfl rfl (r_cutP rfl sl51 rfl rfl (by omega) (by omega) rfl) ?_
        refine sc (rRuns_ok (.slice A8 2 c9) (zs2.take 2) (by first | omega | decide | exact Nat.le_trans (flat2_le _ _) (by omega) | exact Nat.le_trans (flat2_le' _ _) (by omega) | (simp only [flat2, List.flatMap_cons, List.flatMap_nil, List.append_nil, srt_len]; omega))) H (lX (fun F hA hR => rsl_pre (own_rd F (hA _ (List.mem_of_getElem? (i := 2) rfl))) (i := 2) (by omega)) l0) rfl rfl (e_fn kn49 rfl rfl) ?_
        rintro v33 _ w rfl H
        refine sc (samePairs_ok v32 v33 (srt (x14 ++ x22)) (srt (flat2 (zs2.take 2)))) H (lA 1 rfl own_rd (lA 0 rfl own_rd l0)) rfl rfl (e_fn kn48 rfl rfl) ?_
        rintro _ _ w ⟨rfl, rfl⟩ H
        refine s_val rfl rfl (r_as rfl rfl) ?_
        refine s_nil ?_
        refine q_then ?_
        replace H : Hd _ _ _ [osl kPair v33 (srt (flat2 (zs2.take 2))), osl kPair v32 (srt (x14 ++ x22)), osl kPair v6 (srt (flat2 zs2)), osl (kHd kPair) (.slice A8 zs2.length c9) zs2, rowF encPair b31 91 (x22 ++ List.replicate 3 (⟨⟨#[108, 101, 110, 116]⟩, ⟨#[]⟩⟩ : Pair)), rowF encPair b30 91 (x14 ++ List.replicate 3 (⟨⟨#[108, 101, 110, 116]⟩, ⟨#[]⟩⟩ : Pair))] [rsl (kHd kPair) vruns us, rsl (kSl kPair) vruns runs] := H
        refine c_env [(2, .bool false), (3, .slice A8 zs2.length c9), (6, .slice (some ⟨b30, 0, none⟩) x14.length (x14.length + 3)), (7, .slice (some ⟨b31, 0, none⟩) x22.length (x22.length + 3)), (8, v32), (9, .bool (decide ((srt (x14 ++ x22)) = (srt (flat2 (zs2.take 2))))))] ⟨rfl, rfl, rfl, rfl, rfl, rfl, trivial⟩ ?_
        refine c_seq ?_
        refine c_reg ?_
        refine s_val rfl rfl (r_mv rfl rfl) ?_
        replace H := H.pick 1 rfl
        replace H : Hd _ _ _ [osl kPair v32 (srt (x14 ++ x22)), osl kPair v33 (srt (flat2 (zs2.take 2))), osl kPair v6 (srt (flat2 zs2)), osl (kHd kPair) (.slice A8 zs2.length c9) zs2, rowF encPair b31 91 (x22 ++ List.replicate 3 (⟨⟨#[108, 101, 110, 116]⟩, ⟨#[]⟩⟩ : Pair)), rowF encPair b30 91 (x14 ++ List.replicate 3 (⟨⟨#[108, 101, 110, 116]⟩, ⟨#[]⟩⟩ : Pair))] [rsl (kHd kPair) vruns us, rsl (kSl kPair) vruns runs] := H
        refine sc (overPairs_ok v32 (srt (x14 ++ x22)) (by simp only [srt_len, List.length_append]; omega)) H l0 rfl rfl (e_fn kn50 rfl rfl) ?_
        rintro _ _ w rfl H
        refine s_nil ?_
        refine q_then ?_
        replace H : Hd _ _ _ [osl kPair v33 (srt (flat2 (zs2.take 2))), osl kPair v6 (srt (flat2 zs2)), osl (kHd kPair) (.slice A8 zs2.length c9) zs2, rowF encPair b31 91 (x22 ++ List.replicate 3 (⟨⟨#[108, 101, 110, 116]⟩, ⟨#[]⟩⟩ : Pair)), rowF encPair b30 91 (x14 ++ List.replicate 3 (⟨⟨#[108, 101, 110, 116]⟩, ⟨#[]⟩⟩ : Pair))] [rsl (kHd kPair) vruns us, rsl (kSl kPair) vruns runs] := H
        refine c_env [(2, .bool false), (3, .slice A8 zs2.length c9), (6, .slice (some ⟨b30, 0, none⟩) x14.length (x14.length + 3)), (7, .slice (some ⟨b31, 0, none⟩) x22.length (x22.length + 3)), (9, .bool (decide ((srt (x14 ++ x22)) = (srt (flat2 (zs2.take 2))))))] ⟨rfl, rfl, rfl, rfl, rfl, trivial⟩ ?_
        refine c_seq ?_
        refine c_reg ?_
        refine s_val rfl rfl (r_mv rfl rfl) ?_
        refine s_val rfl rfl (r_notP rfl rfl) ?_
        refine s_val rfl rfl (r_mv rfl rfl) ?_
        refine s_dec (d := 50) (p := ¬ ((srt (x14 ++ x22)) = (srt (flat2 (zs2.take 2))))) rfl (fun h34 => ?_) (fun h34 => ?_)
        · exact (h34 (by rw [flat2_two hx15 hx23])).elim
        · skip
          refine s_val rfl rfl (r_mv rfl rfl) ?_
          refine s_val rfl rfl (r_mv rfl rfl) ?_
          have th35 := H.thAd 2 rfl hx15
          refine s_val rfl rfl (r_iaE (p := oOf A8 + 0 * 1) rfl sl51 rfl rfl (by omega) (by omega) th35 (by omega)) ?_
          refine s_val rfl rfl (r_ld rfl ty54 rfl (H.elAd 2 rfl hx15 rfl)) ?_
          refine sc (keptPairs_ok b30 x14 (.slice A17 x14.length c18) x14 (by omega)) H (lA 4 rfl (fun _ h => h) (lX (fun F hA hR => nest_rsl (own_rd F (hA _ (List.mem_of_getElem? (i := 2) rfl))) hx15) l0)) rfl rfl (e_fn kn53 rfl rfl) ?_
          rintro _ _ w ⟨rfl, rfl⟩ H
          refine s_val rfl rfl (r_notP rfl rfl) ?_
          refine s_val rfl rfl (r_pickF rfl rfl rfl) ?_
          refine s_val rfl rfl (r_mv rfl rfl) ?_
          refine s_dec (d := 58) (p := ¬ (x14 = x14)) rfl (fun h36 => ?_) (fun h36 => ?_)
          · exact (h36 rfl).elim
          · skip
            refine s_val rfl rfl (r_mv rfl rfl) ?_
            refine s_val rfl rfl (r_mv rfl rfl) ?_
            have th37 := H.thAd 2 rfl hx23
            refine s_val rfl rfl (r_iaE (p := oOf A8 + 1 * 1) rfl sl51 rfl rfl (by omega) (by omega) th37 (by omega)) ?_
            refine s_val rfl rfl (r_ld rfl ty54 rfl (H.elAd 2 rfl hx23 rfl)) ?_
            refine sc (keptPairs_ok b31 x22 (.slice A25 x22.length c26) x22 (by omega)) H (lA 3 rfl (fun _ h => h) (lX (fun F hA hR => nest_rsl (own_rd F (hA _ (List.mem_of_getElem? (i := 2) rfl))) hx23) l0)) rfl rfl (e_fn kn53 rfl rfl) ?_
            rintro _ _ w ⟨rfl, rfl⟩ H
            refine s_val rfl rfl (r_notP rfl rfl) ?_
            refine s_val rfl rfl (r_pickF rfl rfl rfl) ?_
            refine s_nil ?_
            refine q_then ?_
            refine c_env [(2, .bool false), (3, .slice A8 zs2.length c9), (65, .bool (decide (¬ (x22 = x22))))] ⟨rfl, rfl, rfl, trivial⟩ ?_
            refine c_dec (p := ¬ (x22 = x22)) rfl (fun h38 => ?_) (fun h38 => ?_)
            · exact (h38 rfl).elim
            · skip
              refine c_skip ?_
              refine q_then ?_
              refine c_env [(2, .bool false), (3, .slice A8 zs2.length c9)] ⟨rfl, rfl, trivial⟩ ?_
              refine c_seq ?_
              refine c_reg ?_
              refine s_val rfl rfl (r_mv rfl rfl) ?_
              refine sc (runs_ok (.slice A8 zs2.length c9) zs2 (by first | omega | decide | exact Nat.le_trans (flat2_le _ _) (by omega) | exact Nat.le_trans (flat2_le' _ _) (by omega) | (simp only [flat2, List.flatMap_cons, List.flatMap_nil, List.append_nil, srt_len]; omega))) H (lA 2 rfl own_rd l0) rfl rfl (e_fn kn47 rfl rfl) ?_
              rintro v39 _ w rfl H
              refine s_val rfl rfl (r_mv rfl rfl) ?_
              replace H : Hd _ _ _ [osl kPair v39 (srt (flat2 zs2)), osl kPair v33 (srt (flat2 (zs2.take 2))), osl kPair v6 (srt (flat2 zs2)), osl (kHd kPair) (.slice A8 zs2.length c9) zs2, rowF encPair b31 91 (x22 ++ List.replicate 3 (⟨⟨#[108, 101, 110, 116]⟩, ⟨#[]⟩⟩ : Pair)), rowF encPair b30 91 (x14 ++ List.replicate 3 (⟨⟨#[108, 101, 110, 116]⟩, ⟨#[]⟩⟩ : Pair))] [rsl (kHd kPair) vruns us, rsl (kSl kPair) vruns runs] := H
              refine sc (rRuns_ok (.slice A8 zs2.length c9) zs2 (by first | omega | decide | exact Nat.le_trans (flat2_le _ _) (by omega) | exact Nat.le_trans (flat2_le' _ _) (by omega) | (simp only [flat2, List.flatMap_cons, List.flatMap_nil, List.append_nil, srt_len]; omega))) H (lA 3 rfl own_rd l0) rfl rfl (e_fn kn49 rfl rfl) ?_
              rintro v40 _ w rfl H
              refine sc (samePairs_ok v39 v40 (srt (flat2 zs2)) (srt (flat2 zs2))) H (lA 1 rfl own_rd (lA 0 rfl own_rd l0)) rfl rfl (e_fn kn48 rfl rfl) ?_
              rintro _ _ w ⟨rfl, rfl⟩ H
              refine s_val rfl rfl (r_mv rfl rfl) ?_
              refine s_dec (d := 71) (p := (srt (flat2 zs2)) = (srt (flat2 zs2))) rfl (fun h41 => ?_) (fun h41 => ?_)
              · skip
                refine sc (awake11_ok ) H l0 rfl rfl (e_fn kn46 rfl rfl) ?_
                rintro _ _ w ⟨rfl, rfl⟩ H
                refine s_val rfl rfl (r_pickT rfl rfl rfl) ?_
                refine s_val rfl rfl (r_as rfl rfl) ?_
                refine s_nil ?_
                refine q_then ?_
                replace H : Hd _ _ _ [osl kPair v40 (srt (flat2 zs2)), osl kPair v39 (srt (flat2 zs2)), osl kPair v33 (srt (flat2 (zs2.take 2))), osl kPair v6 (srt (flat2 zs2)), osl (kHd kPair) (.slice A8 zs2.length c9) zs2, rowF encPair b31 91 (x22 ++ List.replicate 3 (⟨⟨#[108, 101, 110, 116]⟩, ⟨#[]⟩⟩ : Pair)), rowF encPair b30 91 (x14 ++ List.replicate 3 (⟨⟨#[108, 101, 110, 116]⟩, ⟨#[]⟩⟩ : Pair))] [rsl (kHd kPair) vruns us, rsl (kSl kPair) vruns runs] := H
                refine c_env [(2, .bool true)] ⟨rfl, trivial⟩ ?_
                refine c_ret ?_
                refine q_ret1 rfl rfl ?_
                replace H := H.keep 0
                replace H := H.dropR
                exact fin ⟨rfl, rfl⟩ H
              · exact (h41 rfl).elim
      · skip
        refine c_skip ?_
        refine q_then ?_
        refine c_env [(2, .bool false), (3, .slice A8 zs2.length c9)] ⟨rfl, rfl, trivial⟩ ?_
        refine c_seq ?_
        refine c_reg ?_
        refine s_val rfl rfl (r_mv rfl rfl) ?_
        refine sc (runs_ok (.slice A8 zs2.length c9) zs2 (by first | omega | decide | exact Nat.le_trans (flat2_le _ _) (by omega) | exact Nat.le_trans (flat2_le' _ _) (by omega) | (simp only [flat2, List.flatMap_cons, List.flatMap_nil, List.append_nil, srt_len]; omega))) H (lA 1 rfl own_rd l0) rfl rfl (e_fn kn47 rfl rfl) ?_
        rintro v42 _ w rfl H
        refine s_val rfl rfl (r_mv rfl rfl) ?_
        replace H : Hd _ _ _ [osl kPair v42 (srt (flat2 zs2)), osl kPair v6 (srt (flat2 zs2)), osl (kHd kPair) (.slice A8 zs2.length c9) zs2] [rsl (kHd kPair) vruns us, rsl (kSl kPair) vruns runs] := H
        refine sc (rRuns_ok (.slice A8 zs2.length c9) zs2 (by first | omega | decide | exact Nat.le_trans (flat2_le _ _) (by omega) | exact Nat.le_trans (flat2_le' _ _) (by omega) | (simp only [flat2, List.flatMap_cons, List.flatMap_nil, List.append_nil, srt_len]; omega))) H (lA 2 rfl own_rd l0) rfl rfl (e_fn kn49 rfl rfl) ?_
        rintro v43 _ w rfl H
        refine sc (samePairs_ok v42 v43 (srt (flat2 zs2)) (srt (flat2 zs2))) H (lA 1 rfl own_rd (lA 0 rfl own_rd l0)) rfl rfl (e_fn kn48 rfl rfl) ?_
        rintro _ _ w ⟨rfl, rfl⟩ H
        refine s_val rfl rfl (r_mv rfl rfl) ?_
        refine s_dec (d := 71) (p := (srt (flat2 zs2)) = (srt (flat2 zs2))) rfl (fun h44 => ?_) (fun h44 => ?_)
        · skip
          refine sc (awake11_ok ) H l0 rfl rfl (e_fn kn46 rfl rfl) ?_
          rintro _ _ w ⟨rfl, rfl⟩ H
          refine s_val rfl rfl (r_pickT rfl rfl rfl) ?_
          refine s_val rfl rfl (r_as rfl rfl) ?_
          refine s_nil ?_
          refine q_then ?_
          replace H : Hd _ _ _ [osl kPair v43 (srt (flat2 zs2)), osl kPair v42 (srt (flat2 zs2)), osl kPair v6 (srt (flat2 zs2)), osl (kHd kPair) (.slice A8 zs2.length c9) zs2] [rsl (kHd kPair) vruns us, rsl (kSl kPair) vruns runs] := H
          refine c_env [(2, .bool true)] ⟨rfl, trivial⟩ ?_
          refine c_ret ?_
          refine q_ret1 rfl rfl ?_
          replace H := H.keep 0
          replace H := H.dropR
          exact fin ⟨rfl, rfl⟩ H
        · exact (h44 rfl).elim

set_option maxHeartbeats 1000000 in
theorem mergeSorts_ok (vruns : Value) (runs : List (List Pair)) (wruns : (∀ xs ∈ runs, (∀ p ∈ xs, p.key.size ≤ 9223372036854775807 ∧ p.val.size ≤ 9223372036854775807) ∧ xs.length ≤ 9223372036854775807) ∧ runs.length ≤ 9223372036854775807) (k : Int) (wk : In64 k) :
    Cn Try.prog 11 [vruns, .int .i64 k] [] [rsl (kSl kPair) vruns runs] (fun v Bs => v = .bool true ∧ Bs = []) := by
  intro w0 F0 H
  unfold In64 at wk
  obtain ⟨us, hus, H⟩ := H.heads 0 rfl
  refine enter (args := [vruns, .int .i64 k]) Try.func11 rfl rfl (Nat.le_of_ble_eq_true rfl) ?_
  refine c_seq ?_
  refine c_reg ?_
  refine s_val rfl rfl (r_as rfl rfl) ?_
  refine s_nil ?_
  refine q_then ?_
  refine c_env [(0, vruns), (1, .int .i64 k), (4, .bool false)] ⟨rfl, rfl, rfl, trivial⟩ ?_
  refine c_seq ?_
  refine c_reg ?_
  refine s_val rfl rfl (r_mv rfl rfl) ?_
  refine sc (sortedRuns_ok vruns us) H (lR 0 rfl l0) rfl rfl (e_fn kn45 rfl rfl) ?_
  rintro _ _ w ⟨ok3, u1, zs2, rfl, rfl, hs⟩ H
  refine s_val rfl rfl (r_mv rfl rfl) ?_
  refine s_val rfl rfl (r_ex rfl rfl rfl) ?_
  refine s_val rfl rfl (r_ex rfl rfl rfl) ?_
  refine s_val rfl rfl (r_as rfl rfl) ?_
  refine s_val rfl rfl (r_as rfl rfl) ?_
  refine s_nil ?_
  refine q_then ?_
  replace H : Hd _ _ _ [osl (kHd kPair) u1 zs2] [rsl (kHd kPair) vruns us, rsl (kSl kPair) vruns runs] := H
  refine c_env [(1, .int .i64 k), (4, .bool false), (5, u1), (6, .bool ok3)] ⟨rfl, rfl, rfl, rfl, trivial⟩ ?_
  refine c_seq ?_
  refine c_seq ?_
  refine c_reg ?_
  refine s_val rfl rfl (r_mv rfl rfl) ?_
  refine s_val rfl rfl (r_not rfl rfl rfl) ?_
  refine s_nil ?_
  refine q_then ?_
  refine c_env [(1, .int .i64 k), (4, .bool false), (5, u1), (16, .bool (!ok3))] ⟨rfl, rfl, rfl, rfl, trivial⟩ ?_
  refine c_cond (b := !ok3) rfl (fun h4 => ?_) (fun h4 => ?_)
  · skip
    refine c_seq ?_
    refine c_reg ?_
    refine sc (awake11_ok ) H l0 rfl rfl (e_fn kn46 rfl rfl) ?_
    rintro _ _ w ⟨rfl, rfl⟩ H
    refine s_val rfl rfl (r_as rfl rfl) ?_
    refine s_nil ?_
    refine q_then ?_
    refine c_env [(1, .int .i64 k), (4, .bool true), (5, u1)] ⟨rfl, rfl, rfl, trivial⟩ ?_
    refine c_ret ?_
    refine q_thenR ?_
    refine q_ret1 rfl rfl ?_
    replace H := H.keep 0
    replace H := H.dropR
    exact fin ⟨rfl, rfl⟩ H
  · skip
    refine c_skip ?_
    refine q_then ?_
    refine c_env [(1, .int .i64 k), (4, .bool false), (5, u1)] ⟨rfl, rfl, rfl, trivial⟩ ?_
    refine c_seq ?_
    have hs1 := hs (by simpa using h4)
    have hfb := flat2_bound hs1.2
    have hsl0 := srt_len (flat2 zs2)
    refine c_reg ?_
    refine s_val rfl rfl (r_mv rfl rfl) ?_
    refine s_val rfl rfl (r_mv rfl rfl) ?_
    obtain ⟨A5, c6, rfl, hc7, hm8, hp9⟩ := H.fA 0 rfl
    refine s_val rfl rfl (r_lenL rfl un51 rfl) ?_
    refine s_val rfl rfl (r_add (z := ((zs2.length + 1 : Nat) : Int)) rfl rfl rfl (by rw [w64 (by omega) (by omega)]; omega)) ?_
    refine sc (low_ok k ((zs2.length + 1 : Nat) : Int) (by unfold In64; omega) (by omega) (by omega)) H l0 rfl rfl (e_fn kn30 rfl rfl) ?_
    rintro _ _ w ⟨rfl, rfl⟩ H
    refine s_val rfl rfl (r_as rfl rfl) ?_
    refine s_nil ?_
    refine q_then ?_
    replace H : Hd _ _ _ [osl (kHd kPair) (.slice A5 zs2.length c6) zs2] [rsl (kHd kPair) vruns us, rsl (kSl kPair) vruns runs] := H
    refine c_env [(1, .int .i64 (IntKind.u64.wrap k % ((zs2.length + 1 : Nat) : Int))), (4, .bool false), (5, .slice A5 zs2.length c6)] ⟨rfl, rfl, rfl, trivial⟩ ?_
    refine c_seq ?_
    have hk0 := Int.emod_nonneg (IntKind.u64.wrap k) (show (((zs2.length + 1 : Nat) : Int)) ≠ 0 by omega)
    have hk1 := Int.emod_lt_of_pos (IntKind.u64.wrap k) (show (0 : Int) < ((zs2.length + 1 : Nat) : Int) by omega)
    obtain ⟨n, hn, hnl⟩ : ∃ n : Nat, IntKind.u64.wrap k % ((zs2.length + 1 : Nat) : Int) = (n : Int) ∧ n ≤ zs2.length := ⟨(IntKind.u64.wrap k % ((zs2.length + 1 : Nat) : Int)).toNat, by omega, by omega⟩
    rw [hn]
    have hft := flat2_le zs2 n
    have hfd := flat2_le' zs2 n
    refine c_reg ?_
    refine s_val rfl rfl (r_as rfl rfl) ?_
    refine s_nil ?_
    refine q_then ?_
    refine c_env [(1, .int .i64 ((n : Nat) : Int)), (4, .bool false), (5, .slice A5 zs2.length c6), (7, .slice none 0 0)] ⟨rfl, rfl, rfl, rfl, trivial⟩ ?_
    refine c_seq ?_
    refine c_seq ?_
    refine c_reg ?_
    refine s_val rfl rfl (r_as rfl rfl) ?_
    refine s_nil ?_
    refine q_then ?_
    refine c_env [(1, .int .i64 ((n : Nat) : Int)), (4, .bool false), (5, .slice A5 zs2.length c6), (7, .slice none 0 0), (8, .int .i64 0)] ⟨rfl, rfl, rfl, rfl, rfl, trivial⟩ ?_
    refine c_block ?_
    replace H := H.newnil kPair
    replace H := H.pick 1 rfl
    replace H := H.pick 1 rfl
    refine c_loop (σ := Nat × Value) (fun (i, q) => [(1, .int .i64 ((n : Nat) : Int)), (4, .bool false), (5, .slice A5 zs2.length c6), (7, q), (8, .int .i64 ((i : Nat) : Int))]) (fun (i, q) w => (Hd w0 F0 w [osl kPair q (flat2 (zs2.take i)), osl (kHd kPair) (.slice A5 zs2.length c6) zs2] [rsl (kHd kPair) vruns us, rsl (kSl kPair) vruns runs]) ∧ (i ≤ zs2.length)) (fun (i, q) => zs2.length - i) (0, .slice none 0 0) ⟨rfl, rfl, rfl, rfl, rfl, trivial⟩ ⟨H, by (try dsimp only); omega⟩ ?_
    rintro ⟨i, q⟩ w ⟨H, hi⟩
    have hfi := flat2_le zs2 i
    refine c_seq ?_
    refine c_seq ?_
    refine c_reg ?_
    refine s_val rfl rfl (r_mv rfl rfl) ?_
    refine s_val rfl rfl (r_mv rfl rfl) ?_
    refine s_val rfl rfl (r_lenL rfl un51 rfl) ?_
    refine s_val rfl rfl (r_lt rfl rfl rfl) ?_
    refine s_nil ?_
    refine q_then ?_
    refine c_env [(1, .int .i64 ((n : Nat) : Int)), (4, .bool false), (5, .slice A5 zs2.length c6), (7, q), (8, .int .i64 ((i : Nat) : Int)), (26, .bool (decide (((i : Nat) : Int) < ((zs2.length : Nat) : Int))))] ⟨rfl, rfl, rfl, rfl, rfl, rfl, trivial⟩ ?_
    refine c_dec (p := ((i : Nat) : Int) < ((zs2.length : Nat) : Int)) rfl (fun h10 => ?_) (fun h10 => ?_)
    · skip
      refine c_skip ?_
      refine q_then ?_
      refine c_env [(1, .int .i64 ((n : Nat) : Int)), (4, .bool false), (5, .slice A5 zs2.length c6), (7, q), (8, .int .i64 ((i : Nat) : Int))] ⟨rfl, rfl, rfl, rfl, rfl, trivial⟩ ?_
      refine c_seq ?_
      refine c_block ?_
      refine c_reg ?_
      refine s_val rfl rfl (r_mv rfl rfl) ?_
      refine s_val rfl rfl (r_mv rfl rfl) ?_
      refine s_val rfl rfl (r_mv rfl rfl) ?_
      obtain ⟨⟨u13, x11⟩, hx12⟩ : ∃ z9, zs2[i]? = some z9 := ⟨_, List.getElem?_eq_getElem (show i < zs2.length by omega)⟩
      obtain ⟨A14, c15, rfl, hc16, hm17⟩ := H.nestA 1 rfl hx12
      have hlx11 : x11.length ≤ 20 := hs1.2 _ (at_mem hx12)
      have th18 := H.thAd 1 rfl hx12
      refine s_val rfl rfl (r_iaE (p := oOf A5 + i * 1) rfl sl51 rfl rfl (by omega) (by omega) th18 rfl) ?_
      refine s_val rfl rfl (r_ld rfl ty54 rfl (H.elAd 1 rfl hx12 rfl)) ?_
      refine s_appF (xs := flat2 (zs2.take i)) (ys := x11) rfl rfl rfl sl54 zr91 rfl (by decide) rfl rfl H (by first | omega | (simp only [List.length_append]; omega)) (fun F hA hR => nest_rsl (own_rd F (hA _ (List.mem_of_getElem? (i := 0) rfl))) hx12) (fun v19 w H => ?_)
      refine s_val rfl rfl (r_as rfl rfl) ?_
      refine s_nil ?_
      refine q_blockN ?_
      refine q_then ?_
      replace H : Hd _ _ _ [osl kPair v19 ((flat2 (zs2.take i)) ++ x11), osl (kHd kPair) (.slice A5 zs2.length c6) zs2] [rsl (kHd kPair) vruns us, rsl (kSl kPair) vruns runs] := H
      refine c_env [(1, .int .i64 ((n : Nat) : Int)), (4, .bool false), (5, .slice A5 zs2.length c6), (7, v19), (8, .int .i64 ((i : Nat) : Int))] ⟨rfl, rfl, rfl, rfl, rfl, trivial⟩ ?_
      refine c_reg ?_
      refine s_val rfl rfl (r_mv rfl rfl) ?_
      refine s_val rfl rfl (r_add (z := ((i + 1 : Nat) : Int)) rfl rfl rfl (by rw [w64 (by omega) (by omega)]; omega)) ?_
      refine s_val rfl rfl (r_as rfl rfl) ?_
      refine s_nil ?_
      replace H := H.pick 1 rfl
      replace H := H.pick 1 rfl
      replace H : Hd w0 F0 w [osl kPair v19 (flat2 (zs2.take (i + 1))), osl (kHd kPair) (.slice A5 zs2.length c6) zs2] [rsl (kHd kPair) vruns us, rsl (kSl kPair) vruns runs] := by rw [flat2_step hx12]; exact H
      replace H := H.pick 1 rfl
      replace H := H.pick 1 rfl
      exact q_round (s := (i, undef)) (i + 1, v19) ⟨rfl, rfl, rfl, rfl, rfl, trivial⟩ ⟨H, by (try dsimp only); omega⟩ (by (try dsimp only); omega)
    · skip
      refine c_exit ?_
      refine q_thenE ?_
      refine q_thenE ?_
      refine q_blockE ?_
      refine q_then ?_
      refine c_env [(1, .int .i64 ((n : Nat) : Int)), (4, .bool false), (5, .slice A5 zs2.length c6), (7, q)] ⟨rfl, rfl, rfl, rfl, trivial⟩ ?_
      refine c_seq ?_
      replace H := H.pick 1 rfl
      replace H := H.pick 1 rfl
      replace H : Hd w0 F0 w [osl kPair q (flat2 zs2), osl (kHd kPair) (.slice A5 zs2.length c6) zs2] [rsl (kHd kPair) vruns us, rsl (kSl kPair) vruns runs] := by rw [List.take_of_length_le (show zs2.length ≤ i by omega)] at H; exact H
      refine c_reg ?_
      refine s_val rfl rfl (r_mv rfl rfl) ?_
      replace H : Hd _ _ _ [osl kPair q (flat2 zs2), osl (kHd kPair) (.slice A5 zs2.length c6) zs2] [rsl (kHd kPair) vruns us, rsl (kSl kPair) vruns runs] := H
      refine sc (runs_ok (.slice A5 zs2.length c6) zs2 (by first | omega | decide | exact Nat.le_trans (flat2_le _ _) (by omega) | exact Nat.le_trans (flat2_le' _ _) (by omega) | (simp only [flat2, List.flatMap_cons, List.flatMap_nil, List.append_nil, srt_len]; omega))) H (lA 1 rfl own_rd l0) rfl rfl (e_fn kn47 rfl rfl) ?_
      rintro v20 _ w rfl H
      refine s_val rfl rfl (r_as rfl rfl) ?_
      refine s_nil ?_
      refine q_then ?_
      replace H : Hd _ _ _ [osl kPair v20 (srt (flat2 zs2)), osl kPair q (flat2 zs2), osl (kHd kPair) (.slice A5 zs2.length c6) zs2] [rsl (kHd kPair) vruns us, rsl (kSl kPair) vruns runs] := H
      refine c_env [(1, .int .i64 ((n : Nat) : Int)), (4, .bool false), (5, .slice A5 zs2.length c6), (7, q), (9, v20)] ⟨rfl, rfl, rfl, rfl, rfl, trivial⟩ ?_
      refine c_seq ?_
      replace H := H.pick 2 rfl
      replace H := H.pick 2 rfl
      replace H := H.pick 2 rfl
      replace H : Hd _ _ _ [osl kPair v20 (srt (flat2 zs2)), osl kPair q (flat2 zs2), osl (kHd kPair) (.slice A5 zs2.length c6) zs2] [rsl (kHd kPair) vruns us, rsl (kSl kPair) vruns runs] := H
      refine c_ord (.e 0 (.e 1 (.m 2 (.m 3 (.e 4 (.e 5 (.m 6 (.e 7 (.e 8 (.e 9 (.e 10 (.e 11 (.e 13 (.e 14 (.e 15 (.e 18 (.m 12 (.m 16 (.m 17 (.m 19 (.e 20 (.e 21 (.m 22 (.e 23 (.e 24 .z))))))))))))))))))))))))) (fun w => ∃ Ar, Hd w0 F0 w (osl kPair v20 (srt (flat2 zs2)) :: osl kPair q (flat2 zs2) :: osl (kHd kPair) (.slice A5 zs2.length c6) zs2 :: Ar) [rsl (kHd kPair) vruns us, rsl (kSl kPair) vruns runs]) mo (by kernel_rfl) (fun w H => ⟨_, H⟩) H (fun w H => ?_)
      refine d_val rfl rfl rfl (fun w ⟨Ar, H⟩ => r_mv rfl rfl) ?_
      refine d_val rfl rfl rfl (fun w ⟨Ar, H⟩ => r_mv rfl rfl) ?_
      refine d_main rfl ?_
      refine sc (pairSort_ok q (flat2 zs2) (by first | omega | decide | (simp only [List.length_append, List.length_cons, List.length_nil, srt_len]; omega))) H (lA 1 rfl own_rd l0) rfl rfl (e_fn kn54 rfl rfl) ?_
      rintro v21 _ w rfl H
      replace H := H.pick 3 rfl
      replace H := H.pick 3 rfl
      replace H := H.pick 3 rfl
      replace H : Hd _ _ _ [osl kPair v20 (srt (flat2 zs2)), osl kPair q (flat2 zs2), osl (kHd kPair) (.slice A5 zs2.length c6) zs2, osl kPair v21 (srt (flat2 zs2))] [rsl (kHd kPair) vruns us, rsl (kSl kPair) vruns runs] := H
      refine d_back ⟨_, H⟩ ?_
      refine d_main rfl ?_
      refine sc (samePairs_ok v20 v21 (srt (flat2 zs2)) (srt (flat2 zs2))) H (lA 0 rfl own_rd (lA 3 rfl own_rd l0)) rfl rfl (e_fn kn48 rfl rfl) ?_
      rintro _ _ w ⟨rfl, rfl⟩ H
      replace H := H.pick 2 rfl
      replace H := H.pick 2 rfl
      replace H := H.pick 2 rfl
      replace H : Hd _ _ _ [osl kPair v20 (srt (flat2 zs2)), osl kPair q (flat2 zs2), osl (kHd kPair) (.slice A5 zs2.length c6) zs2, osl kPair v21 (srt (flat2 zs2))] [rsl (kHd kPair) vruns us, rsl (kSl kPair) vruns runs] := H
      refine d_back ⟨_, H⟩ ?_
      refine d_val rfl rfl rfl (fun w ⟨Ar, H⟩ => r_mv rfl rfl) ?_
      refine d_dec (d := 41) (p := (srt (flat2 zs2)) = (srt (flat2 zs2))) rfl (fun h22 => ?_) (fun h22 => ?_)
      · skip
        refine d_val rfl rfl rfl (fun w ⟨Ar, H⟩ => r_mv rfl rfl) ?_
        refine d_main rfl ?_
        refine sc (sorted_ok v20 (srt (flat2 zs2)) (by first | omega | decide | (simp only [List.length_append, List.length_cons, List.length_nil, srt_len]; omega))) H (lA 0 rfl own_rd l0) rfl rfl (e_fn kn55 rfl rfl) ?_
        rintro _ _ w ⟨rfl, rfl⟩ H
        replace H := H.pick 2 rfl
        replace H := H.pick 2 rfl
        replace H := H.pick 2 rfl
        replace H : Hd _ _ _ [osl kPair v20 (srt (flat2 zs2)), osl kPair q (flat2 zs2), osl (kHd kPair) (.slice A5 zs2.length c6) zs2, osl kPair v21 (srt (flat2 zs2))] [rsl (kHd kPair) vruns us, rsl (kSl kPair) vruns runs] := H
        refine d_back ⟨_, H⟩ ?_
        refine d_val rfl rfl rfl (fun w ⟨Ar, H⟩ => r_pickT rfl rfl rfl) ?_
        refine d_val rfl rfl rfl (fun w ⟨Ar, H⟩ => r_mv rfl rfl) ?_
        refine d_dec (d := 45) (p := Ord (srt (flat2 zs2))) rfl (fun h23 => ?_) (fun h23 => ?_)
        · skip
          refine d_val rfl rfl rfl (fun w ⟨Ar, H⟩ => r_mv rfl rfl) ?_
          refine d_val rfl rfl rfl (fun w ⟨Ar, H⟩ => r_mv rfl rfl) ?_
          refine d_val rfl rfl rfl (fun w ⟨Ar, H⟩ => r_cutP rfl sl51 rfl rfl (by omega) (by omega) rfl) ?_
          refine d_val rfl rfl rfl (fun w ⟨Ar, H⟩ => r_mv rfl rfl) ?_
          refine d_val rfl rfl rfl (fun w ⟨Ar, H⟩ => r_mv rfl rfl) ?_
          refine d_val rfl rfl rfl (fun w ⟨Ar, H⟩ => r_cutS rfl sl51 rfl rfl (by omega) (by omega) rfl) ?_
          refine d_val rfl rfl rfl (fun w ⟨Ar, H⟩ => r_mv rfl rfl) ?_
          refine d_main rfl ?_
          refine sc (runs_ok (.slice A5 n c6) (zs2.take n) (by first | omega | decide | exact Nat.le_trans (flat2_le _ _) (by omega) | exact Nat.le_trans (flat2_le' _ _) (by omega) | (simp only [flat2, List.flatMap_cons, List.flatMap_nil, List.append_nil, srt_len]; omega))) H (lX (fun F hA hR => rsl_pre (own_rd F (hA _ (List.mem_of_getElem? (i := 2) rfl))) (i := n) (by omega)) l0) rfl rfl (e_fn kn47 rfl rfl) ?_
          rintro v24 _ w rfl H
          replace H := H.pick 3 rfl
          replace H := H.pick 3 rfl
          replace H := H.pick 3 rfl
          replace H : Hd _ _ _ [osl kPair v20 (srt (flat2 zs2)), osl kPair q (flat2 zs2), osl (kHd kPair) (.slice A5 zs2.length c6) zs2, osl kPair v24 (srt (flat2 (zs2.take n))), osl kPair v21 (srt (flat2 zs2))] [rsl (kHd kPair) vruns us, rsl (kSl kPair) vruns runs] := H
          refine d_back ⟨_, H⟩ ?_
          refine d_main rfl ?_
          refine sc (runs_ok (.slice (cutA A5 c6 n 1) (zs2.length - n) (c6 - n)) (zs2.drop n) (by first | omega | decide | exact Nat.le_trans (flat2_le _ _) (by omega) | exact Nat.le_trans (flat2_le' _ _) (by omega) | (simp only [flat2, List.flatMap_cons, List.flatMap_nil, List.append_nil, srt_len]; omega))) H (lX (fun F hA hR => rsl_suf (own_rd F (hA _ (List.mem_of_getElem? (i := 2) rfl))) (i := n) (by omega)) l0) rfl rfl (e_fn kn47 rfl rfl) ?_
          rintro v25 _ w rfl H
          replace H := H.pick 3 rfl
          replace H := H.pick 3 rfl
          replace H := H.pick 3 rfl
          replace H : Hd _ _ _ [osl kPair v20 (srt (flat2 zs2)), osl kPair q (flat2 zs2), osl (kHd kPair) (.slice A5 zs2.length c6) zs2, osl kPair v25 (srt (flat2 (zs2.drop n))), osl kPair v24 (srt (flat2 (zs2.take n))), osl kPair v21 (srt (flat2 zs2))] [rsl (kHd kPair) vruns us, rsl (kSl kPair) vruns runs] := H
          refine d_back ⟨_, H⟩ ?_
          refine d_main rfl ?_
          refine sc (two_ok v24 (srt (flat2 (zs2.take n))) v25 (srt (flat2 (zs2.drop n))) (by first | omega | decide | (simp only [List.length_append, List.length_cons, List.length_nil, srt_len]; omega))) H (lA 4 rfl own_rd (lA 3 rfl own_rd l0)) rfl rfl (e_fn kn52 rfl rfl) ?_
          rintro v26 _ w rfl H
          replace H := H.pick 3 rfl
          replace H := H.pick 3 rfl
          replace H := H.pick 3 rfl
          replace H : Hd _ _ _ [osl kPair v20 (srt (flat2 zs2)), osl kPair q (flat2 zs2), osl (kHd kPair) (.slice A5 zs2.length c6) zs2, osl kPair v26 (srt ((srt (flat2 (zs2.take n))) ++ (srt (flat2 (zs2.drop n))))), osl kPair v25 (srt (flat2 (zs2.drop n))), osl kPair v24 (srt (flat2 (zs2.take n))), osl kPair v21 (srt (flat2 zs2))] [rsl (kHd kPair) vruns us, rsl (kSl kPair) vruns runs] := H
          refine d_back ⟨_, H⟩ ?_
          refine d_main rfl ?_
          refine sc (samePairs_ok v26 v20 (srt ((srt (flat2 (zs2.take n))) ++ (srt (flat2 (zs2.drop n))))) (srt (flat2 zs2))) H (lA 3 rfl own_rd (lA 0 rfl own_rd l0)) rfl rfl (e_fn kn48 rfl rfl) ?_
          rintro _ _ w ⟨rfl, rfl⟩ H
          replace H := H.pick 2 rfl
          replace H := H.pick 2 rfl
          replace H := H.pick 2 rfl
          replace H : Hd _ _ _ [osl kPair v20 (srt (flat2 zs2)), osl kPair q (flat2 zs2), osl (kHd kPair) (.slice A5 zs2.length c6) zs2, osl kPair v26 (srt ((srt (flat2 (zs2.take n))) ++ (srt (flat2 (zs2.drop n))))), osl kPair v25 (srt (flat2 (zs2.drop n))), osl kPair v24 (srt (flat2 (zs2.take n))), osl kPair v21 (srt (flat2 zs2))] [rsl (kHd kPair) vruns us, rsl (kSl kPair) vruns runs] := H
          refine d_back ⟨_, H⟩ ?_
          refine d_val rfl rfl rfl (fun w ⟨Ar, H⟩ => r_pickT rfl rfl rfl) ?_
          refine d_val rfl rfl rfl (fun w ⟨Ar, H⟩ => r_mv rfl rfl) ?_
          refine d_dec (d := 58) (p := (srt ((srt (flat2 (zs2.take n))) ++ (srt (flat2 (zs2.drop n))))) = (srt (flat2 zs2))) rfl (fun h27 => ?_) (fun h27 => ?_)
          · skip
            refine d_main rfl ?_
            refine sc (awake11_ok ) H l0 rfl rfl (e_fn kn46 rfl rfl) ?_
            rintro _ _ w ⟨rfl, rfl⟩ H
            replace H := H.pick 2 rfl
            replace H := H.pick 2 rfl
            replace H := H.pick 2 rfl
            replace H : Hd _ _ _ [osl kPair v20 (srt (flat2 zs2)), osl kPair q (flat2 zs2), osl (kHd kPair) (.slice A5 zs2.length c6) zs2, osl kPair v26 (srt ((srt (flat2 (zs2.take n))) ++ (srt (flat2 (zs2.drop n))))), osl kPair v25 (srt (flat2 (zs2.drop n))), osl kPair v24 (srt (flat2 (zs2.take n))), osl kPair v21 (srt (flat2 zs2))] [rsl (kHd kPair) vruns us, rsl (kSl kPair) vruns runs] := H
            refine d_back ⟨_, H⟩ ?_
            refine d_val rfl rfl rfl (fun w ⟨Ar, H⟩ => r_pickT rfl rfl rfl) ?_
            refine d_val rfl rfl rfl (fun w ⟨Ar, H⟩ => r_as rfl rfl) ?_
            refine d_nil ?_
            refine q_then ?_
            refine c_env [(4, .bool true)] ⟨rfl, trivial⟩ ?_
            refine c_ret ?_
            refine q_ret1 rfl rfl ?_
            replace H := H.keep 0
            replace H := H.dropR
            exact fin ⟨rfl, rfl⟩ H
          · exact (h27 (by rw [srt_app_srt2, ← flat2_app, List.take_append_drop])).elim
        · exact (h23 (srt_ord _)).elim
      · exact (h22 rfl).elim

set_option maxHeartbeats 1000000 in
theorem mergeEmpty_ok (vruns : Value) (runs : List (List Pair)) (wruns : (∀ xs ∈ runs, (∀ p ∈ xs, p.key.size ≤ 9223372036854775807 ∧ p.val.size ≤ 9223372036854775807) ∧ xs.length ≤ 9223372036854775807) ∧ runs.length ≤ 9223372036854775807) (vone : Value) (one : List Pair) (wone : (∀ p ∈ one, p.key.size ≤ 9223372036854775807 ∧ p.val.size ≤ 9223372036854775807) ∧ one.length ≤ 9223372036854775807) :
    Cn Try.prog 12 [vruns, vone] [] [rsl (kSl kPair) vruns runs, rsl kPair vone one] (fun v Bs => v = .bool true ∧ Bs = []) := by
  intro w0 F0 H
  obtain ⟨us, hus, H⟩ := H.heads 0 rfl
  refine enter (args := [vruns, vone]) Try.func12 rfl rfl (Nat.le_of_ble_eq_true rfl) ?_
  refine c_seq ?_
  refine c_reg ?_
  refine s_val rfl rfl (r_as rfl rfl) ?_
  refine s_nil ?_
  refine q_then ?_
  refine c_env [(0, vruns), (1, vone), (4, .bool false)] ⟨rfl, rfl, rfl, trivial⟩ ?_
  refine c_seq ?_
  refine c_reg ?_
  refine s_val rfl rfl (r_mv rfl rfl) ?_
  refine sc (sortedRuns_ok vruns us) H (lR 0 rfl l0) rfl rfl (e_fn kn45 rfl rfl) ?_
  rintro _ _ w ⟨ok3, u1, zs2, rfl, rfl, hs⟩ H
  refine s_val rfl rfl (r_mv rfl rfl) ?_
  refine s_val rfl rfl (r_ex rfl rfl rfl) ?_
  refine s_val rfl rfl (r_ex rfl rfl rfl) ?_
  refine s_val rfl rfl (r_as rfl rfl) ?_
  refine s_val rfl rfl (r_as rfl rfl) ?_
  refine s_nil ?_
  refine q_then ?_
  replace H : Hd _ _ _ [osl (kHd kPair) u1 zs2] [rsl (kHd kPair) vruns us, rsl (kSl kPair) vruns runs, rsl kPair vone one] := H
  refine c_env [(1, vone), (4, .bool false), (5, u1), (6, .bool ok3)] ⟨rfl, rfl, rfl, rfl, trivial⟩ ?_
  refine c_seq ?_
  refine c_seq ?_
  refine c_reg ?_
  refine s_val rfl rfl (r_mv rfl rfl) ?_
  refine s_val rfl rfl (r_not rfl rfl rfl) ?_
  refine s_val rfl rfl (r_mv rfl rfl) ?_
  refine s_boo (d := 17) (b := !ok3) rfl (fun h4 => ?_) (fun h4 => ?_)
  · skip
    refine s_no rfl rfl ?_
    refine s_no rfl rfl ?_
    refine s_val rfl rfl (r_pickT rfl rfl rfl) ?_
    refine s_nil ?_
    refine q_then ?_
    refine c_env [(1, vone), (4, .bool false), (5, u1), (20, .bool true)] ⟨rfl, rfl, rfl, rfl, trivial⟩ ?_
    refine c_yes rfl ?_
    refine c_seq ?_
    refine c_reg ?_
    refine sc (awake11_ok ) H l0 rfl rfl (e_fn kn46 rfl rfl) ?_
    rintro _ _ w ⟨rfl, rfl⟩ H
    refine s_val rfl rfl (r_as rfl rfl) ?_
    refine s_nil ?_
    refine q_then ?_
    refine c_env [(1, vone), (4, .bool true), (5, u1)] ⟨rfl, rfl, rfl, trivial⟩ ?_
    refine c_ret ?_
    refine q_thenR ?_
    refine q_ret1 rfl rfl ?_
    replace H := H.keep 0
    replace H := H.dropR
    exact fin ⟨rfl, rfl⟩ H
  · skip
    refine s_val rfl rfl (r_mv rfl rfl) ?_
    refine sc (greatPairs_ok vone one 20) H (lR 2 rfl l0) rfl rfl (e_fn kn56 rfl rfl) ?_
    rintro _ _ w ⟨rfl, rfl⟩ H
    refine s_val rfl rfl (r_pickF rfl rfl rfl) ?_
    refine s_nil ?_
    refine q_then ?_
    refine c_env [(1, vone), (4, .bool false), (5, u1), (20, .bool (greatP one 20))] ⟨rfl, rfl, rfl, rfl, trivial⟩ ?_
    refine c_cond (b := greatP one 20) rfl (fun h5 => ?_) (fun h5 => ?_)
    · skip
      refine c_seq ?_
      refine c_reg ?_
      refine sc (awake11_ok ) H l0 rfl rfl (e_fn kn46 rfl rfl) ?_
      rintro _ _ w ⟨rfl, rfl⟩ H
      refine s_val rfl rfl (r_as rfl rfl) ?_
      refine s_nil ?_
      refine q_then ?_
      refine c_env [(1, vone), (4, .bool true), (5, u1)] ⟨rfl, rfl, rfl, trivial⟩ ?_
      refine c_ret ?_
      refine q_thenR ?_
      refine q_ret1 rfl rfl ?_
      replace H := H.keep 0
      replace H := H.dropR
      exact fin ⟨rfl, rfl⟩ H
    · skip
      refine c_skip ?_
      refine q_then ?_
      refine c_env [(1, vone), (4, .bool false), (5, u1)] ⟨rfl, rfl, rfl, trivial⟩ ?_
      refine c_seq ?_
      have hs1 := hs (by simpa using h4)
      have hfb := flat2_bound hs1.2
      have hsl0 := srt_len (flat2 zs2)
      have hg := (greatP_no h5).1
      have hs2 := srt_len one
      refine c_reg ?_
      refine s_val rfl rfl (r_as rfl rfl) ?_
      refine s_nil ?_
      refine q_then ?_
      refine c_env [(1, vone), (4, .bool false), (5, u1), (7, .slice none 0 0)] ⟨rfl, rfl, rfl, rfl, trivial⟩ ?_
      refine c_seq ?_
      refine c_seq ?_
      refine c_reg ?_
      refine s_val rfl rfl (r_as rfl rfl) ?_
      refine s_nil ?_
      refine q_then ?_
      refine c_env [(1, vone), (4, .bool false), (5, u1), (7, .slice none 0 0), (8, .int .i64 0)] ⟨rfl, rfl, rfl, rfl, rfl, trivial⟩ ?_
      refine c_block ?_
      replace H := H.newnil kHdr
      obtain ⟨A6, c7, rfl, hc8, hm9, hp10⟩ := H.fA 1 rfl
      replace H := H.pick 1 rfl
      replace H := H.pick 1 rfl
      refine c_loop (σ := Nat × Value) (fun (i, q) => [(1, vone), (4, .bool false), (5, .slice A6 zs2.length c7), (7, q), (8, .int .i64 ((i : Nat) : Int))]) (fun (i, q) w => (Hd w0 F0 w [osl kHdr q (moreH (zs2.take i)), osl (kHd kPair) (.slice A6 zs2.length c7) zs2] [rsl (kHd kPair) vruns us, rsl (kSl kPair) vruns runs, rsl kPair vone one]) ∧ (i ≤ zs2.length)) (fun (i, q) => zs2.length - i) (0, .slice none 0 0) ⟨rfl, rfl, rfl, rfl, rfl, trivial⟩ ⟨H, by (try dsimp only); omega⟩ ?_
      rintro ⟨i, q⟩ w ⟨H, hi⟩
      have hml := moreH_len (zs2.take i)
      have htl : (zs2.take i).length ≤ i := by simp; omega
      refine c_seq ?_
      refine c_seq ?_
      refine c_reg ?_
      refine s_val rfl rfl (r_mv rfl rfl) ?_
      refine s_val rfl rfl (r_mv rfl rfl) ?_
      refine s_val rfl rfl (r_lenL rfl un51 rfl) ?_
      refine s_val rfl rfl (r_lt rfl rfl rfl) ?_
      refine s_nil ?_
      refine q_then ?_
      refine c_env [(1, vone), (4, .bool false), (5, .slice A6 zs2.length c7), (7, q), (8, .int .i64 ((i : Nat) : Int)), (25, .bool (decide (((i : Nat) : Int) < ((zs2.length : Nat) : Int))))] ⟨rfl, rfl, rfl, rfl, rfl, rfl, trivial⟩ ?_
      refine c_dec (p := ((i : Nat) : Int) < ((zs2.length : Nat) : Int)) rfl (fun h11 => ?_) (fun h11 => ?_)
      · skip
        refine c_skip ?_
        refine q_then ?_
        refine c_env [(1, vone), (4, .bool false), (5, .slice A6 zs2.length c7), (7, q), (8, .int .i64 ((i : Nat) : Int))] ⟨rfl, rfl, rfl, rfl, rfl, trivial⟩ ?_
        refine c_seq ?_
        refine c_block ?_
        refine c_reg ?_
        refine s_val rfl rfl (r_mv rfl rfl) ?_
        refine s_val rfl rfl (r_mv rfl rfl) ?_
        refine s_val rfl rfl (r_mv rfl rfl) ?_
        obtain ⟨⟨u14, x12⟩, hx13⟩ : ∃ z9, zs2[i]? = some z9 := ⟨_, List.getElem?_eq_getElem (show i < zs2.length by omega)⟩
        obtain ⟨A15, c16, rfl, hc17, hm18⟩ := H.nestA 1 rfl hx13
        have hlx12 : x12.length ≤ 20 := hs1.2 _ (at_mem hx13)
        have th19 := H.thAd 1 rfl hx13
        refine s_val rfl rfl (r_iaE (p := oOf A6 + i * 1) rfl sl51 rfl rfl (by omega) (by omega) th19 rfl) ?_
        refine s_val rfl rfl (r_ld rfl ty54 rfl (H.elAd 1 rfl hx13 rfl)) ?_
        refine s_bsl (parts := [(0, .const (.slice none 0 0)), (1, .tmp 32), (2, .const (.slice none 0 0))]) (vs := [.slice none 0 0, .slice A15 x12.length c16, .slice none 0 0]) (cs := [.slice none 0 0, .slice A15 x12.length c16, .slice none 0 0]) rfl rfl rfl sl51 zr54 rfl (by decide) (by decide) rfl rfl H (fun b20 w H => ?_)
        replace H := H.pick 1 rfl
        refine s_appF (xs := moreH (zs2.take i)) (ys := [(⟨none, 0, 0⟩ : Hdr), (⟨A15, x12.length, c16⟩ : Hdr), (⟨none, 0, 0⟩ : Hdr)]) rfl rfl rfl sl51 zr54 rfl (by decide) rfl rfl H (by first | omega | (simp only [List.length_append]; omega)) (fun F hA hR => blk_rsl (hA _ (List.mem_of_getElem? (i := 0) rfl)) rfl (by decide) (RepsR.flat_eq.2 rfl)) (fun v21 w H => ?_)
        refine s_val rfl rfl (r_as rfl rfl) ?_
        refine s_nil ?_
        refine q_blockN ?_
        refine q_then ?_
        replace H : Hd _ _ _ [osl kHdr v21 ((moreH (zs2.take i)) ++ [(⟨none, 0, 0⟩ : Hdr), (⟨A15, x12.length, c16⟩ : Hdr), (⟨none, 0, 0⟩ : Hdr)]), blk b20 [.slice none 0 0, .slice A15 x12.length c16, .slice none 0 0] 54, osl (kHd kPair) (.slice A6 zs2.length c7) zs2] [rsl (kHd kPair) vruns us, rsl (kSl kPair) vruns runs, rsl kPair vone one] := H
        refine c_env [(1, vone), (4, .bool false), (5, .slice A6 zs2.length c7), (7, v21), (8, .int .i64 ((i : Nat) : Int))] ⟨rfl, rfl, rfl, rfl, rfl, trivial⟩ ?_
        refine c_reg ?_
        refine s_val rfl rfl (r_mv rfl rfl) ?_
        refine s_val rfl rfl (r_add (z := ((i + 1 : Nat) : Int)) rfl rfl rfl (by rw [w64 (by omega) (by omega)]; omega)) ?_
        refine s_val rfl rfl (r_as rfl rfl) ?_
        refine s_nil ?_
        replace H := H.pick 2 rfl
        replace H := H.pick 1 rfl
        replace H := H.keep 2
        replace H : Hd w0 F0 w [osl kHdr v21 (moreH (zs2.take (i + 1))), osl (kHd kPair) (.slice A6 zs2.length c7) zs2] [rsl (kHd kPair) vruns us, rsl (kSl kPair) vruns runs, rsl kPair vone one] := by rw [moreH_step hx13]; exact H
        replace H := H.pick 1 rfl
        replace H := H.pick 1 rfl
        exact q_round (s := (i, undef)) (i + 1, v21) ⟨rfl, rfl, rfl, rfl, rfl, trivial⟩ ⟨H, by (try dsimp only); omega⟩ (by (try dsimp only); omega)
      · skip
        refine c_exit ?_
        refine q_thenE ?_
        refine q_thenE ?_
        refine q_blockE ?_
        refine q_then ?_
        refine c_env [(1, vone), (4, .bool false), (5, .slice A6 zs2.length c7), (7, q)] ⟨rfl, rfl, rfl, rfl, trivial⟩ ?_
        refine c_seq ?_
        replace H := H.pick 1 rfl
        replace H := H.pick 1 rfl
        replace H : Hd w0 F0 w [osl kHdr q (moreH zs2), osl (kHd kPair) (.slice A6 zs2.length c7) zs2] [rsl (kHd kPair) vruns us, rsl (kSl kPair) vruns runs, rsl kPair vone one] := by rw [List.take_of_length_le (show zs2.length ≤ i by omega)] at H; exact H
        refine c_reg ?_
        refine s_val rfl rfl (r_mv rfl rfl) ?_
        replace H : Hd _ _ _ [osl kHdr q (moreH zs2), osl (kHd kPair) (.slice A6 zs2.length c7) zs2] [rsl (kHd kPair) vruns us, rsl (kSl kPair) vruns runs, rsl kPair vone one] := H
        refine sc (pairSort_ok vone one (by first | omega | decide | (simp only [List.length_append, List.length_cons, List.length_nil, srt_len]; omega))) H (lR 2 rfl l0) rfl rfl (e_fn kn54 rfl rfl) ?_
        rintro v22 _ w rfl H
        refine s_val rfl rfl (r_as rfl rfl) ?_
        refine s_nil ?_
        refine q_then ?_
        replace H : Hd _ _ _ [osl kPair v22 (srt one), osl kHdr q (moreH zs2), osl (kHd kPair) (.slice A6 zs2.length c7) zs2] [rsl (kHd kPair) vruns us, rsl (kSl kPair) vruns runs, rsl kPair vone one] := H
        refine c_env [(4, .bool false), (5, .slice A6 zs2.length c7), (7, q), (9, v22)] ⟨rfl, rfl, rfl, rfl, trivial⟩ ?_
        refine c_seq ?_
        obtain ⟨A23, c24, rfl, hc25, hm26, hp27⟩ := H.fA 1 rfl
        refine c_reg ?_
        refine s_val rfl rfl (r_mv rfl rfl) ?_
        replace H : Hd _ _ _ [osl kPair v22 (srt one), osl kHdr (.slice A23 ((moreH zs2).length) c24) (moreH zs2), osl (kHd kPair) (.slice A6 zs2.length c7) zs2] [rsl (kHd kPair) vruns us, rsl (kSl kPair) vruns runs, rsl kPair vone one] := H
        refine sc (runs_ok (.slice A23 ((moreH zs2).length) c24) (moreU zs2) (by rw [moreU_flat]; omega)) H (lX (fun F hA hR => more_rsl (own_rd F (hA _ (List.mem_of_getElem? (i := 1) rfl))) (own_rd F (hA _ (List.mem_of_getElem? (i := 2) rfl)))) l0) rfl rfl (e_fn kn47 rfl rfl) ?_
        rintro v28 _ w rfl H
        refine s_val rfl rfl (r_mv rfl rfl) ?_
        replace H : Hd _ _ _ [osl kPair v28 (srt (flat2 (moreU zs2))), osl kPair v22 (srt one), osl kHdr (.slice A23 ((moreH zs2).length) c24) (moreH zs2), osl (kHd kPair) (.slice A6 zs2.length c7) zs2] [rsl (kHd kPair) vruns us, rsl (kSl kPair) vruns runs, rsl kPair vone one] := H
        refine sc (runs_ok (.slice A6 zs2.length c7) zs2 (by first | omega | decide | exact Nat.le_trans (flat2_le _ _) (by omega) | exact Nat.le_trans (flat2_le' _ _) (by omega) | (simp only [flat2, List.flatMap_cons, List.flatMap_nil, List.append_nil, srt_len]; omega))) H (lA 3 rfl own_rd l0) rfl rfl (e_fn kn47 rfl rfl) ?_
        rintro v29 _ w rfl H
        refine sc (samePairs_ok v28 v29 (srt (flat2 (moreU zs2))) (srt (flat2 zs2))) H (lA 1 rfl own_rd (lA 0 rfl own_rd l0)) rfl rfl (e_fn kn48 rfl rfl) ?_
        rintro _ _ w ⟨rfl, rfl⟩ H
        refine s_val rfl rfl (r_mv rfl rfl) ?_
        refine s_dec (d := 42) (p := (srt (flat2 (moreU zs2))) = (srt (flat2 zs2))) rfl (fun h30 => ?_) (fun h30 => ?_)
        · skip
          refine s_val rfl rfl (r_mv rfl rfl) ?_
          obtain ⟨A32, c33, rfl, hc34, hm35, hp36⟩ := H.fA 2 rfl
          refine s_bsl (parts := [(0, .tmp 43)]) (vs := [.slice A32 ((srt one).length) c33]) (cs := [.slice A32 ((srt one).length) c33]) rfl rfl rfl sl51 zr54 rfl (by decide) (by decide) rfl rfl H (fun b31 w H => ?_)
          replace H : Hd _ _ _ [blk b31 [.slice A32 ((srt one).length) c33] 54, osl kPair v29 (srt (flat2 zs2)), osl kPair v28 (srt (flat2 (moreU zs2))), osl kPair (.slice A32 ((srt one).length) c33) (srt one), osl kHdr (.slice A23 ((moreH zs2).length) c24) (moreH zs2), osl (kHd kPair) (.slice A6 zs2.length c7) zs2] [rsl (kHd kPair) vruns us, rsl (kSl kPair) vruns runs, rsl kPair vone one] := H
          refine sc (runs_ok (.slice (some ⟨b31, 0, none⟩) 1 1) [(.slice A32 ((srt one).length) c33, srt one)] (by first | omega | decide | exact Nat.le_trans (flat2_le _ _) (by omega) | exact Nat.le_trans (flat2_le' _ _) (by omega) | (simp only [flat2, List.flatMap_cons, List.flatMap_nil, List.append_nil, srt_len]; omega))) H (lX (fun F hA hR => one_rsl (hA _ (List.mem_of_getElem? (i := 0) rfl)) (own_rd F (hA _ (List.mem_of_getElem? (i := 3) rfl)))) l0) rfl rfl (e_fn kn47 rfl rfl) ?_
          rintro v37 _ w rfl H
          refine s_val rfl rfl (r_mv rfl rfl) ?_
          refine sc (samePairs_ok v37 (.slice A32 ((srt one).length) c33) (srt (flat2 [(.slice A32 ((srt one).length) c33, srt one)])) (srt one)) H (lA 0 rfl own_rd (lA 4 rfl own_rd l0)) rfl rfl (e_fn kn48 rfl rfl) ?_
          rintro _ _ w ⟨rfl, rfl⟩ H
          refine s_val rfl rfl (r_pickT rfl rfl rfl) ?_
          refine s_val rfl rfl (r_mv rfl rfl) ?_
          refine s_dec (d := 49) (p := (srt (flat2 [(.slice A32 ((srt one).length) c33, srt one)])) = (srt one)) rfl (fun h38 => ?_) (fun h38 => ?_)
          · skip
            refine s_val rfl rfl (r_mv rfl rfl) ?_
            replace H : Hd _ _ _ [osl kPair v37 (srt (flat2 [(.slice A32 ((srt one).length) c33, srt one)])), blk b31 [.slice A32 ((srt one).length) c33] 54, osl kPair v29 (srt (flat2 zs2)), osl kPair v28 (srt (flat2 (moreU zs2))), osl kPair (.slice A32 ((srt one).length) c33) (srt one), osl kHdr (.slice A23 ((moreH zs2).length) c24) (moreH zs2), osl (kHd kPair) (.slice A6 zs2.length c7) zs2] [rsl (kHd kPair) vruns us, rsl (kSl kPair) vruns runs, rsl kPair vone one] := H
            refine sc (two_ok (.slice none 0 0) [] (.slice A32 ((srt one).length) c33) (srt one) (by first | omega | decide | (simp only [List.length_append, List.length_cons, List.length_nil, srt_len]; omega))) H (lX (fun F _ _ => rsl_nil _ _ F trivial (by decide)) (lA 4 rfl own_rd l0)) rfl rfl (e_fn kn52 rfl rfl) ?_
            rintro v39 _ w rfl H
            refine s_val rfl rfl (r_mv rfl rfl) ?_
            refine sc (samePairs_ok v39 (.slice A32 ((srt one).length) c33) (srt ([] ++ (srt one))) (srt one)) H (lA 0 rfl own_rd (lA 5 rfl own_rd l0)) rfl rfl (e_fn kn48 rfl rfl) ?_
            rintro _ _ w ⟨rfl, rfl⟩ H
            refine s_val rfl rfl (r_pickT rfl rfl rfl) ?_
            refine s_val rfl rfl (r_mv rfl rfl) ?_
            refine s_dec (d := 55) (p := (srt ([] ++ (srt one))) = (srt one)) rfl (fun h40 => ?_) (fun h40 => ?_)
            · skip
              refine s_val rfl rfl (r_mv rfl rfl) ?_
              replace H : Hd _ _ _ [osl kPair v39 (srt ([] ++ (srt one))), osl kPair v37 (srt (flat2 [(.slice A32 ((srt one).length) c33, srt one)])), blk b31 [.slice A32 ((srt one).length) c33] 54, osl kPair v29 (srt (flat2 zs2)), osl kPair v28 (srt (flat2 (moreU zs2))), osl kPair (.slice A32 ((srt one).length) c33) (srt one), osl kHdr (.slice A23 ((moreH zs2).length) c24) (moreH zs2), osl (kHd kPair) (.slice A6 zs2.length c7) zs2] [rsl (kHd kPair) vruns us, rsl (kSl kPair) vruns runs, rsl kPair vone one] := H
              refine sc (two_ok (.slice A32 ((srt one).length) c33) (srt one) (.slice none 0 0) [] (by first | omega | decide | (simp only [List.length_append, List.length_cons, List.length_nil, srt_len]; omega))) H (lA 5 rfl own_rd (lX (fun F _ _ => rsl_nil _ _ F trivial (by decide)) l0)) rfl rfl (e_fn kn52 rfl rfl) ?_
              rintro v41 _ w rfl H
              refine s_val rfl rfl (r_mv rfl rfl) ?_
              refine sc (samePairs_ok v41 (.slice A32 ((srt one).length) c33) (srt ((srt one) ++ [])) (srt one)) H (lA 0 rfl own_rd (lA 6 rfl own_rd l0)) rfl rfl (e_fn kn48 rfl rfl) ?_
              rintro _ _ w ⟨rfl, rfl⟩ H
              refine s_val rfl rfl (r_pickT rfl rfl rfl) ?_
              refine s_val rfl rfl (r_mv rfl rfl) ?_
              refine s_dec (d := 61) (p := (srt ((srt one) ++ [])) = (srt one)) rfl (fun h42 => ?_) (fun h42 => ?_)
              · skip
                refine sc (awake11_ok ) H l0 rfl rfl (e_fn kn46 rfl rfl) ?_
                rintro _ _ w ⟨rfl, rfl⟩ H
                refine s_val rfl rfl (r_pickT rfl rfl rfl) ?_
                refine s_val rfl rfl (r_as rfl rfl) ?_
                refine s_nil ?_
                refine q_then ?_
                replace H : Hd _ _ _ [osl kPair v41 (srt ((srt one) ++ [])), osl kPair v39 (srt ([] ++ (srt one))), osl kPair v37 (srt (flat2 [(.slice A32 ((srt one).length) c33, srt one)])), blk b31 [.slice A32 ((srt one).length) c33] 54, osl kPair v29 (srt (flat2 zs2)), osl kPair v28 (srt (flat2 (moreU zs2))), osl kPair (.slice A32 ((srt one).length) c33) (srt one), osl kHdr (.slice A23 ((moreH zs2).length) c24) (moreH zs2), osl (kHd kPair) (.slice A6 zs2.length c7) zs2] [rsl (kHd kPair) vruns us, rsl (kSl kPair) vruns runs, rsl kPair vone one] := H
                refine c_env [(4, .bool true)] ⟨rfl, trivial⟩ ?_
                refine c_ret ?_
                refine q_ret1 rfl rfl ?_
                replace H := H.keep 0
                replace H := H.dropR
                exact fin ⟨rfl, rfl⟩ H
              · exact (h42 (by first | rw [moreU_flat] | exact srt_flat_one _ _ | exact srt_srt _ | (rw [List.append_nil]; exact srt_srt _))).elim
            · exact (h40 (by first | rw [moreU_flat] | exact srt_flat_one _ _ | exact srt_srt _ | (rw [List.append_nil]; exact srt_srt _))).elim
          · exact (h38 (by first | rw [moreU_flat] | exact srt_flat_one _ _ | exact srt_srt _ | (rw [List.append_nil]; exact srt_srt _))).elim
        · exact (h30 (by first | rw [moreU_flat] | exact srt_flat_one _ _ | exact srt_srt _ | (rw [List.append_nil]; exact srt_srt _))).elim

set_option maxHeartbeats 1000000 in
theorem number_ok (key : ByteArray) (hb0 : key.size ≤ 9223372036854775807) :
    Cn Try.prog 107 [.string key] [] [] (fun v Bs => v = .int .u32 (numK key key.size) ∧ Bs = []) := by
  intro w0 F0 H
  refine enter (args := [.string key]) Try.func107 rfl rfl (Nat.le_of_ble_eq_true rfl) ?_
  refine c_seq ?_
  refine c_reg ?_
  refine s_val rfl rfl (r_as rfl rfl) ?_
  refine s_nil ?_
  refine q_then ?_
  refine c_env [(0, .string key), (2, .int .u32 0)] ⟨rfl, rfl, trivial⟩ ?_
  refine c_seq ?_
  refine c_reg ?_
  refine s_val rfl rfl (r_as rfl rfl) ?_
  refine s_nil ?_
  refine q_then ?_
  refine c_env [(0, .string key), (2, .int .u32 0), (3, .int .u32 7)] ⟨rfl, rfl, rfl, trivial⟩ ?_
  refine c_seq ?_
  refine c_seq ?_
  refine c_reg ?_
  refine s_val rfl rfl (r_mv rfl rfl) ?_
  refine s_val rfl rfl (r_lenS rfl un9 rfl) ?_
  refine s_val rfl rfl (r_mv rfl rfl) ?_
  refine s_nil ?_
  refine q_then ?_
  refine c_env [(0, .string key), (2, .int .u32 0), (3, .int .u32 7), (6, .int .i64 ((key.size : Nat) : Int)), (7, .int .i64 0)] ⟨rfl, rfl, rfl, rfl, rfl, trivial⟩ ?_
  refine c_block ?_
  refine c_loop (σ := Nat) (fun k => [(0, .string key), (2, .int .u32 0), (3, .int .u32 (numK key k)), (6, .int .i64 ((key.size : Nat) : Int)), (7, .int .i64 ((k : Nat) : Int))]) (fun k w => (Hd w0 F0 w [] []) ∧ (k ≤ key.size)) (fun k => key.size - k) 0 ⟨rfl, rfl, rfl, rfl, rfl, trivial⟩ ⟨H, by (try dsimp only); omega⟩ ?_
  rintro k w ⟨H, hk⟩
  refine c_seq ?_
  refine c_reg ?_
  refine s_val rfl rfl (r_lt rfl rfl rfl) ?_
  refine s_nil ?_
  refine q_then ?_
  refine c_env [(0, .string key), (2, .int .u32 0), (3, .int .u32 (numK key k)), (6, .int .i64 ((key.size : Nat) : Int)), (7, .int .i64 ((k : Nat) : Int)), (8, .bool (decide (((k : Nat) : Int) < ((key.size : Nat) : Int))))] ⟨rfl, rfl, rfl, rfl, rfl, rfl, trivial⟩ ?_
  refine c_seq ?_
  refine c_dec (p := ((k : Nat) : Int) < ((key.size : Nat) : Int)) rfl (fun h1 => ?_) (fun h1 => ?_)
  · skip
    refine c_skip ?_
    refine q_then ?_
    refine c_env [(0, .string key), (2, .int .u32 0), (3, .int .u32 (numK key k)), (6, .int .i64 ((key.size : Nat) : Int)), (7, .int .i64 ((k : Nat) : Int))] ⟨rfl, rfl, rfl, rfl, rfl, trivial⟩ ?_
    refine c_seq ?_
    refine c_block ?_
    refine c_seq ?_
    refine c_reg ?_
    refine s_val rfl rfl (r_mv rfl rfl) ?_
    refine s_val rfl rfl (r_as rfl rfl) ?_
    refine s_nil ?_
    refine q_then ?_
    refine c_env [(0, .string key), (2, .int .u32 0), (3, .int .u32 (numK key k)), (4, .int .i64 ((k : Nat) : Int)), (6, .int .i64 ((key.size : Nat) : Int)), (7, .int .i64 ((k : Nat) : Int))] ⟨rfl, rfl, rfl, rfl, rfl, rfl, trivial⟩ ?_
    refine c_reg ?_
    refine s_val rfl rfl (r_mv rfl rfl) ?_
    refine s_val rfl rfl (r_mul (z := IntKind.u32.wrap (31 * numK key k)) rfl rfl rfl rfl) ?_
    refine s_val rfl rfl (r_mv rfl rfl) ?_
    refine s_val rfl rfl (r_mv rfl rfl) ?_
    obtain ⟨b, hb⟩ : ∃ b, key[k]? = some b := ⟨_, getElem?_pos key k (by omega)⟩
    refine s_val rfl rfl (r_idxS rfl un9 rfl rfl (by omega) hb) ?_
    refine s_val rfl rfl (r_i2i (z := ((b).toNat : Int)) rfl rfl un5 un113 (wu32b b)) ?_
    refine s_val rfl rfl (r_add (z := IntKind.u32.wrap (IntKind.u32.wrap (31 * numK key k) + (b.toNat : Int))) rfl rfl rfl rfl) ?_
    refine s_val rfl rfl (r_as rfl rfl) ?_
    refine s_nil ?_
    refine q_blockN ?_
    refine q_then ?_
    refine c_env [(0, .string key), (2, .int .u32 0), (3, .int .u32 (IntKind.u32.wrap (IntKind.u32.wrap (31 * numK key k) + (b.toNat : Int)))), (6, .int .i64 ((key.size : Nat) : Int)), (7, .int .i64 ((k : Nat) : Int))] ⟨rfl, rfl, rfl, rfl, rfl, trivial⟩ ?_
    refine c_reg ?_
    refine s_val rfl rfl (r_add (z := ((k + 1 : Nat) : Int)) rfl rfl rfl (by rw [w64 (by omega) (by omega)]; omega)) ?_
    refine s_val rfl rfl (r_mv rfl rfl) ?_
    refine s_nil ?_
    exact q_round (s := k) (k + 1) ⟨rfl, rfl, congrArg (fun z => some (Value.int .u32 z)) (numK_step hb).symm, rfl, rfl, trivial⟩ ⟨H, by (try dsimp only); omega⟩ (by (try dsimp only); omega)
  · skip
    refine c_exit ?_
    refine q_thenE ?_
    refine q_thenE ?_
    refine q_blockE ?_
    refine q_then ?_
    refine c_env [(2, .int .u32 0), (3, .int .u32 (numK key k))] ⟨rfl, rfl, trivial⟩ ?_
    refine c_seq ?_
    refine c_reg ?_
    refine s_val rfl rfl (r_mv rfl rfl) ?_
    refine s_val rfl rfl (r_as rfl rfl) ?_
    refine s_nil ?_
    refine q_then ?_
    refine c_env [(2, .int .u32 (numK key k))] ⟨rfl, trivial⟩ ?_
    refine c_ret ?_
    refine q_ret1 rfl rfl ?_
    obtain rfl : k = key.size := by omega
    exact fin ⟨rfl, rfl⟩ H

set_option maxHeartbeats 1000000 in
theorem partOf_ok (key : ByteArray) (n : Int) (hb0 : key.size ≤ 9223372036854775807) (hn : n ≤ 9223372036854775807) :
    Cn Try.prog 92 [.string key, .int .i64 n] [] [] (fun v Bs => v = .int .i64 (partO key n) ∧ Bs = []) := by
  intro w0 F0 H
  refine enter (args := [.string key, .int .i64 n]) Try.func92 rfl rfl (Nat.le_of_ble_eq_true rfl) ?_
  refine c_seq ?_
  refine c_reg ?_
  refine s_val rfl rfl (r_as rfl rfl) ?_
  refine s_nil ?_
  refine q_then ?_
  refine c_env [(0, .string key), (1, .int .i64 n), (4, .int .i64 0)] ⟨rfl, rfl, rfl, trivial⟩ ?_
  refine c_seq ?_
  refine c_seq ?_
  refine c_reg ?_
  refine s_val rfl rfl (r_mv rfl rfl) ?_
  refine s_val rfl rfl (r_lt rfl rfl rfl) ?_
  refine s_nil ?_
  refine q_then ?_
  refine c_env [(0, .string key), (1, .int .i64 n), (4, .int .i64 0), (6, .bool (decide (n < 1)))] ⟨rfl, rfl, rfl, rfl, trivial⟩ ?_
  refine c_dec (p := n < 1) rfl (fun h1 => ?_) (fun h1 => ?_)
  · skip
    refine c_seq ?_
    refine c_reg ?_
    refine s_val rfl rfl (r_as rfl rfl) ?_
    refine s_nil ?_
    refine q_then ?_
    refine c_env [(0, .string key), (1, .int .i64 n), (4, .int .i64 (-1))] ⟨rfl, rfl, rfl, trivial⟩ ?_
    refine c_ret ?_
    refine q_thenR ?_
    refine q_ret1 rfl rfl ?_
    exact fin ⟨congrArg (Value.int .i64) (if_pos h1).symm, rfl⟩ H
  · skip
    refine c_skip ?_
    refine q_then ?_
    refine c_env [(0, .string key), (1, .int .i64 n), (4, .int .i64 0)] ⟨rfl, rfl, rfl, trivial⟩ ?_
    refine c_seq ?_
    refine c_reg ?_
    refine s_val rfl rfl (r_mv rfl rfl) ?_
    refine sc (number_ok key (by first | omega | decide | (simp only [List.length_append, List.length_cons, List.length_nil, srt_len]; omega))) H l0 rfl rfl (e_fn kn107 rfl rfl) ?_
    rintro _ _ w ⟨rfl, rfl⟩ H
    refine s_val rfl rfl (r_i2i (z := numK key key.size) rfl rfl un113 un112 (wu64 (numK_range key key.size).1 (by have := (numK_range key key.size).2; omega))) ?_
    refine s_val rfl rfl (r_mv rfl rfl) ?_
    refine s_val rfl rfl (r_i2i (z := n) rfl rfl un3 un112 (wu64 (by omega) (by omega))) ?_
    refine s_val rfl rfl (r_rem (z := (numK key key.size) % n) rfl rfl rfl (by omega) (Int.tmod_eq_emod_of_nonneg (numK_range key key.size).1)) ?_
    refine s_val rfl rfl (r_i2i (z := (numK key key.size) % n) rfl rfl un112 un3 (w64 (by have := Int.emod_nonneg (numK key key.size) (show n ≠ 0 by omega); omega) (by have := Int.emod_lt_of_pos (numK key key.size) (show 0 < n by omega); omega))) ?_
    refine s_val rfl rfl (r_as rfl rfl) ?_
    refine s_nil ?_
    refine q_then ?_
    refine c_env [(4, .int .i64 ((numK key key.size) % n))] ⟨rfl, trivial⟩ ?_
    refine c_ret ?_
    refine q_ret1 rfl rfl ?_
    exact fin ⟨congrArg (Value.int .i64) (if_neg h1).symm, rfl⟩ H

set_option maxHeartbeats 1000000 in
theorem only_ok (vxs : Value) (xs : List Pair) (n : Int) (p : Int) (hb : xs.length ≤ 1000000) (hn : n ≤ 9223372036854775807) (hk : ∀ x ∈ xs, x.key.size ≤ 9223372036854775807) :
    Cn Try.prog 58 [vxs, .int .i64 n, .int .i64 p] [] [rsl kPair vxs xs] (fun v Bs => Bs = [osl kPair v (onlyP xs n p)]) := by
  intro w0 F0 H
  obtain ⟨A1, c2, rfl, hc3, hm4, hp5⟩ := H.fR 0 rfl
  refine enter (args := [.slice A1 xs.length c2, .int .i64 n, .int .i64 p]) Try.func58 rfl rfl (Nat.le_of_ble_eq_true rfl) ?_
  refine c_seq ?_
  refine c_reg ?_
  refine s_val rfl rfl (r_as rfl rfl) ?_
  refine s_nil ?_
  refine q_then ?_
  replace H : Hd _ _ _ [] [rsl kPair (.slice A1 xs.length c2) xs] := H
  refine c_env [(0, .slice A1 xs.length c2), (1, .int .i64 n), (2, .int .i64 p), (6, .slice none 0 0)] ⟨rfl, rfl, rfl, rfl, trivial⟩ ?_
  refine c_seq ?_
  refine c_reg ?_
  refine s_val rfl rfl (r_as rfl rfl) ?_
  refine s_nil ?_
  refine q_then ?_
  refine c_env [(0, .slice A1 xs.length c2), (1, .int .i64 n), (2, .int .i64 p), (6, .slice none 0 0), (7, .slice none 0 0)] ⟨rfl, rfl, rfl, rfl, rfl, trivial⟩ ?_
  refine c_seq ?_
  refine c_seq ?_
  refine c_reg ?_
  refine s_val rfl rfl (r_mv rfl rfl) ?_
  refine s_val rfl rfl (r_lenL rfl un54 rfl) ?_
  refine s_val rfl rfl (r_mv rfl rfl) ?_
  refine s_nil ?_
  refine q_then ?_
  refine c_env [(1, .int .i64 n), (2, .int .i64 p), (6, .slice none 0 0), (7, .slice none 0 0), (10, .slice A1 xs.length c2), (11, .int .i64 ((xs.length : Nat) : Int)), (12, .int .i64 0)] ⟨rfl, rfl, rfl, rfl, rfl, rfl, rfl, trivial⟩ ?_
  refine c_block ?_
  replace H := H.newnil kPair
  refine c_loop (σ := Nat × Value) (fun (k, l) => [(1, .int .i64 n), (2, .int .i64 p), (6, .slice none 0 0), (7, l), (10, .slice A1 xs.length c2), (11, .int .i64 ((xs.length : Nat) : Int)), (12, .int .i64 ((k : Nat) : Int))]) (fun (k, l) w => (Hd w0 F0 w [osl kPair l (onlyP (xs.take k) n p)] [rsl kPair (.slice A1 xs.length c2) xs]) ∧ (k ≤ xs.length)) (fun (k, l) => xs.length - k) (0, .slice none 0 0) ⟨rfl, rfl, rfl, rfl, rfl, rfl, rfl, trivial⟩ ⟨H, by (try dsimp only); omega⟩ ?_
  rintro ⟨k, l⟩ w ⟨H, hk0⟩
  have hjl := only_len (xs.take k) n p
  have hjt : (xs.take k).length ≤ xs.length := by simp; omega
  refine c_seq ?_
  refine c_reg ?_
  refine s_val rfl rfl (r_lt rfl rfl rfl) ?_
  refine s_nil ?_
  refine q_then ?_
  refine c_env [(1, .int .i64 n), (2, .int .i64 p), (6, .slice none 0 0), (7, l), (10, .slice A1 xs.length c2), (11, .int .i64 ((xs.length : Nat) : Int)), (12, .int .i64 ((k : Nat) : Int)), (13, .bool (decide (((k : Nat) : Int) < ((xs.length : Nat) : Int))))] ⟨rfl, rfl, rfl, rfl, rfl, rfl, rfl, rfl, trivial⟩ ?_
  refine c_seq ?_
  refine c_dec (p := ((k : Nat) : Int) < ((xs.length : Nat) : Int)) rfl (fun h6 => ?_) (fun h6 => ?_)
  · skip
    refine c_skip ?_
    refine q_then ?_
    refine c_env [(1, .int .i64 n), (2, .int .i64 p), (6, .slice none 0 0), (7, l), (10, .slice A1 xs.length c2), (11, .int .i64 ((xs.length : Nat) : Int)), (12, .int .i64 ((k : Nat) : Int))] ⟨rfl, rfl, rfl, rfl, rfl, rfl, rfl, trivial⟩ ?_
    refine c_seq ?_
    refine c_block ?_
    refine c_seq ?_
    refine c_reg ?_
    obtain ⟨x7, hx8⟩ : ∃ z9, xs[k]? = some z9 := ⟨_, List.getElem?_eq_getElem (show k < xs.length by omega)⟩
    have th9 := H.thR 0 rfl hx8
    refine s_val rfl rfl (r_iaE (p := oOf A1 + k * 2) rfl sl54 rfl rfl (by omega) (by omega) th9 rfl) ?_
    refine s_val rfl rfl (r_ldA (cs := [.string x7.key, .string x7.val]) rfl ty91 rfl rfl (H.elsR 0 rfl hx8 rfl)) ?_
    refine s_alloc rfl rfl rfl zr91 H (fun b10 w H => ?_)
    refine s_st rfl rfl rfl ty91 rfl rfl H rfl (Nat.le_of_ble_eq_true rfl) (fun u hu => by simp [Value.cells] at hu; rcases hu with rfl | rfl <;> rfl) (fun w H => ?_)
    replace H : Hd _ _ _ [blk b10 [.string x7.key, .string x7.val] 91, osl kPair l (onlyP (xs.take k) n p)] [rsl kPair (.slice A1 xs.length c2) xs] := H
    refine s_nil ?_
    refine q_then ?_
    refine c_env [(1, .int .i64 n), (2, .int .i64 p), (6, .slice none 0 0), (7, l), (9, .pointer (some ⟨b10, 0, none⟩)), (10, .slice A1 xs.length c2), (11, .int .i64 ((xs.length : Nat) : Int)), (12, .int .i64 ((k : Nat) : Int))] ⟨rfl, rfl, rfl, rfl, rfl, rfl, rfl, rfl, trivial⟩ ?_
    refine c_seq ?_
    have hkx := hk _ (at_mem hx8)
    refine c_reg ?_
    refine s_val rfl rfl (r_fa rfl fo91_0 rfl) ?_
    refine s_val rfl rfl (r_ld rfl ty9 rfl (H.cellI 0 rfl rfl)) ?_
    refine s_val rfl rfl (r_mv rfl rfl) ?_
    refine sc (partOf_ok x7.key n (by first | omega | decide | (simp only [List.length_append, List.length_cons, List.length_nil, srt_len]; omega)) (by first | omega | decide | (simp only [List.length_append, List.length_cons, List.length_nil, srt_len]; omega))) H l0 rfl rfl (e_fn kn92 rfl rfl) ?_
    rintro _ _ w ⟨rfl, rfl⟩ H
    refine s_val rfl rfl (r_mv rfl rfl) ?_
    refine s_val rfl rfl (r_eq rfl rfl rfl) ?_
    refine s_nil ?_
    refine q_then ?_
    refine c_env [(1, .int .i64 n), (2, .int .i64 p), (6, .slice none 0 0), (7, l), (9, .pointer (some ⟨b10, 0, none⟩)), (10, .slice A1 xs.length c2), (11, .int .i64 ((xs.length : Nat) : Int)), (12, .int .i64 ((k : Nat) : Int)), (21, .bool (decide ((partO x7.key n) = p)))] ⟨rfl, rfl, rfl, rfl, rfl, rfl, rfl, rfl, rfl, trivial⟩ ?_
    refine c_dec (p := (partO x7.key n) = p) rfl (fun h11 => ?_) (fun h11 => ?_)
    · skip
      refine c_reg ?_
      refine s_val rfl rfl (r_mv rfl rfl) ?_
      refine s_val rfl rfl (r_ldA (cs := [.string x7.key, .string x7.val]) rfl ty91 rfl rfl (H.cellsI 0 rfl rfl)) ?_
      refine s_bsl (parts := [(0, .tmp 23)]) (vs := [.agg #[.string x7.key, .string x7.val]]) (cs := [.string x7.key, .string x7.val]) rfl rfl rfl sl54 zr91 rfl (by decide) (by decide) rfl rfl H (fun b12 w H => ?_)
      replace H := H.pick 2 rfl
      refine s_appF (xs := onlyP (xs.take k) n p) (ys := [x7]) rfl rfl rfl sl54 zr91 rfl (by decide) rfl rfl H (by omega) (fun F hA hR => blk_rsl (hA _ (List.mem_of_getElem? (i := 0) rfl)) rfl (by decide) (RepsR.flat_eq.2 rfl)) (fun v13 w H => ?_)
      refine s_val rfl rfl (r_as rfl rfl) ?_
      refine s_nil ?_
      refine q_blockN ?_
      refine q_then ?_
      replace H : Hd _ _ _ [osl kPair v13 ((onlyP (xs.take k) n p) ++ [x7]), blk b12 [.string x7.key, .string x7.val] 91, blk b10 [.string x7.key, .string x7.val] 91] [rsl kPair (.slice A1 xs.length c2) xs] := H
      refine c_env [(1, .int .i64 n), (2, .int .i64 p), (6, .slice none 0 0), (7, v13), (10, .slice A1 xs.length c2), (11, .int .i64 ((xs.length : Nat) : Int)), (12, .int .i64 ((k : Nat) : Int))] ⟨rfl, rfl, rfl, rfl, rfl, rfl, rfl, trivial⟩ ?_
      refine c_reg ?_
      refine s_val rfl rfl (r_add (z := ((k + 1 : Nat) : Int)) rfl rfl rfl (by rw [w64 (by omega) (by omega)]; omega)) ?_
      refine s_val rfl rfl (r_mv rfl rfl) ?_
      refine s_nil ?_
      rw [← only_yes hx8 h11] at H
      replace H := H.keep 1
      exact q_round (s := (k, undef)) (k + 1, v13) ⟨rfl, rfl, rfl, rfl, rfl, rfl, rfl, trivial⟩ ⟨H, by (try dsimp only); omega⟩ (by (try dsimp only); omega)
    · skip
      refine c_skip ?_
      refine q_blockN ?_
      refine q_then ?_
      refine c_env [(1, .int .i64 n), (2, .int .i64 p), (6, .slice none 0 0), (7, l), (10, .slice A1 xs.length c2), (11, .int .i64 ((xs.length : Nat) : Int)), (12, .int .i64 ((k : Nat) : Int))] ⟨rfl, rfl, rfl, rfl, rfl, rfl, rfl, trivial⟩ ?_
      refine c_reg ?_
      refine s_val rfl rfl (r_add (z := ((k + 1 : Nat) : Int)) rfl rfl rfl (by rw [w64 (by omega) (by omega)]; omega)) ?_
      refine s_val rfl rfl (r_mv rfl rfl) ?_
      refine s_nil ?_
      rw [← only_no hx8 h11] at H
      replace H := H.pick 1 rfl
      replace H := H.keep 1
      exact q_round (s := (k, undef)) (k + 1, l) ⟨rfl, rfl, rfl, rfl, rfl, rfl, rfl, trivial⟩ ⟨H, by (try dsimp only); omega⟩ (by (try dsimp only); omega)
  · skip
    refine c_exit ?_
    refine q_thenE ?_
    refine q_thenE ?_
    refine q_blockE ?_
    refine q_then ?_
    refine c_env [(6, .slice none 0 0), (7, l)] ⟨rfl, rfl, trivial⟩ ?_
    refine c_seq ?_
    refine c_reg ?_
    refine s_val rfl rfl (r_mv rfl rfl) ?_
    refine s_val rfl rfl (r_as rfl rfl) ?_
    refine s_nil ?_
    refine q_then ?_
    refine c_env [(6, l)] ⟨rfl, trivial⟩ ?_
    refine c_ret ?_
    refine q_ret1 rfl rfl ?_
    rw [List.take_of_length_le (show xs.length ≤ k by omega)] at H
    exact fin rfl H

set_option maxHeartbeats 1000000 in
theorem mergeParts_ok (vruns : Value) (runs : List (List Pair)) (wruns : (∀ xs ∈ runs, (∀ p ∈ xs, p.key.size ≤ 9223372036854775807 ∧ p.val.size ≤ 9223372036854775807) ∧ xs.length ≤ 9223372036854775807) ∧ runs.length ≤ 9223372036854775807) (parts : Int) (wparts : In64 parts) (key : ByteArray) (wkey : key.size ≤ 9223372036854775807) :
    Cn Try.prog 13 [vruns, .int .i64 parts, .string key] [] [rsl (kSl kPair) vruns runs] (fun v Bs => v = .bool true ∧ Bs = []) := by
  intro w0 F0 H
  unfold In64 at wparts
  obtain ⟨us, hus, H⟩ := H.heads 0 rfl
  refine enter (args := [vruns, .int .i64 parts, .string key]) Try.func13 rfl rfl (Nat.le_of_ble_eq_true rfl) ?_
  refine c_seq ?_
  refine c_reg ?_
  refine s_val rfl rfl (r_as rfl rfl) ?_
  refine s_nil ?_
  refine q_then ?_
  refine c_env [(0, vruns), (1, .int .i64 parts), (2, .string key), (6, .bool false)] ⟨rfl, rfl, rfl, rfl, trivial⟩ ?_
  refine c_seq ?_
  refine c_seq ?_
  refine c_reg ?_
  refine s_val rfl rfl (r_mv rfl rfl) ?_
  obtain ⟨A1, c2, rfl, hc3, hm4, hp5⟩ := H.fR 0 rfl
  refine s_val rfl rfl (r_lenL rfl un51 rfl) ?_
  refine s_val rfl rfl (r_gt rfl rfl rfl) ?_
  refine s_val rfl rfl (r_mv rfl rfl) ?_
  refine s_dec (d := 17) (p := (6 : Int) < ((us.length : Nat) : Int)) rfl (fun h6 => ?_) (fun h6 => ?_)
  · skip
    refine s_no rfl rfl ?_
    refine s_no rfl rfl ?_
    refine s_no rfl rfl ?_
    refine s_val rfl rfl (r_pickT rfl rfl rfl) ?_
    refine s_nil ?_
    refine q_then ?_
    replace H : Hd _ _ _ [] [rsl (kHd kPair) (.slice A1 us.length c2) us, rsl (kSl kPair) (.slice A1 us.length c2) runs] := H
    refine c_env [(0, .slice A1 us.length c2), (1, .int .i64 parts), (2, .string key), (6, .bool false), (21, .bool true)] ⟨rfl, rfl, rfl, rfl, rfl, trivial⟩ ?_
    refine c_yes rfl ?_
    refine c_seq ?_
    refine c_reg ?_
    refine sc (awake11_ok ) H l0 rfl rfl (e_fn kn46 rfl rfl) ?_
    rintro _ _ w ⟨rfl, rfl⟩ H
    refine s_val rfl rfl (r_as rfl rfl) ?_
    refine s_nil ?_
    refine q_then ?_
    refine c_env [(0, .slice A1 us.length c2), (1, .int .i64 parts), (2, .string key), (6, .bool true)] ⟨rfl, rfl, rfl, rfl, trivial⟩ ?_
    refine c_ret ?_
    refine q_thenR ?_
    refine q_ret1 rfl rfl ?_
    replace H := H.dropR
    exact fin ⟨rfl, rfl⟩ H
  · skip
    refine s_val rfl rfl (r_mv rfl rfl) ?_
    refine s_val rfl rfl (r_lenS rfl un9 rfl) ?_
    refine s_val rfl rfl (r_gt rfl rfl rfl) ?_
    refine s_val rfl rfl (r_pickF rfl rfl rfl) ?_
    refine s_nil ?_
    refine q_then ?_
    replace H : Hd _ _ _ [] [rsl (kHd kPair) (.slice A1 us.length c2) us, rsl (kSl kPair) (.slice A1 us.length c2) runs] := H
    refine c_env [(0, .slice A1 us.length c2), (1, .int .i64 parts), (2, .string key), (6, .bool false), (21, .bool (decide ((100 : Int) < ((key.size : Nat) : Int))))] ⟨rfl, rfl, rfl, rfl, rfl, trivial⟩ ?_
    refine c_dec (p := (100 : Int) < ((key.size : Nat) : Int)) rfl (fun h7 => ?_) (fun h7 => ?_)
    · skip
      refine c_seq ?_
      refine c_reg ?_
      refine sc (awake11_ok ) H l0 rfl rfl (e_fn kn46 rfl rfl) ?_
      rintro _ _ w ⟨rfl, rfl⟩ H
      refine s_val rfl rfl (r_as rfl rfl) ?_
      refine s_nil ?_
      refine q_then ?_
      refine c_env [(0, .slice A1 us.length c2), (1, .int .i64 parts), (2, .string key), (6, .bool true)] ⟨rfl, rfl, rfl, rfl, trivial⟩ ?_
      refine c_ret ?_
      refine q_thenR ?_
      refine q_ret1 rfl rfl ?_
      replace H := H.dropR
      exact fin ⟨rfl, rfl⟩ H
    · skip
      refine c_skip ?_
      refine q_then ?_
      refine c_env [(0, .slice A1 us.length c2), (1, .int .i64 parts), (2, .string key), (6, .bool false)] ⟨rfl, rfl, rfl, rfl, trivial⟩ ?_
      refine c_seq ?_
      refine c_reg ?_
      refine s_val rfl rfl (r_mv rfl rfl) ?_
      refine sc (low_ok parts 10 (by unfold In64; omega) (by omega) (by omega)) H l0 rfl rfl (e_fn kn30 rfl rfl) ?_
      rintro _ _ w ⟨rfl, rfl⟩ H
      refine s_val rfl rfl (r_add (z := 1 + (IntKind.u64.wrap parts % 10)) rfl rfl rfl (w64 (by omega) (by omega))) ?_
      refine s_val rfl rfl (r_as rfl rfl) ?_
      refine s_nil ?_
      refine q_then ?_
      refine c_env [(0, .slice A1 us.length c2), (1, .int .i64 (1 + (IntKind.u64.wrap parts % 10))), (2, .string key), (6, .bool false)] ⟨rfl, rfl, rfl, rfl, trivial⟩ ?_
      refine c_seq ?_
      have hk0 := Int.emod_nonneg (IntKind.u64.wrap parts) (show (10 : Int) ≠ 0 by omega)
      have hk1 := Int.emod_lt_of_pos (IntKind.u64.wrap parts) (show (0 : Int) < 10 by omega)
      obtain ⟨np, hnp, hn1, hn2⟩ : ∃ n : Int, 1 + (IntKind.u64.wrap parts % 10) = n ∧ 1 ≤ n ∧ n ≤ 10 := ⟨_, rfl, by omega, by omega⟩
      rw [hnp]
      refine c_reg ?_
      refine s_val rfl rfl (r_as rfl rfl) ?_
      refine s_nil ?_
      refine q_then ?_
      refine c_env [(0, .slice A1 us.length c2), (1, .int .i64 np), (2, .string key), (6, .bool false), (7, .slice none 0 0)] ⟨rfl, rfl, rfl, rfl, rfl, trivial⟩ ?_
      refine c_seq ?_
      refine c_reg ?_
      refine s_val rfl rfl (r_as rfl rfl) ?_
      refine s_nil ?_
      refine q_then ?_
      refine c_env [(0, .slice A1 us.length c2), (1, .int .i64 np), (2, .string key), (6, .bool false), (7, .slice none 0 0), (8, .slice none 0 0)] ⟨rfl, rfl, rfl, rfl, rfl, rfl, trivial⟩ ?_
      refine c_seq ?_
      refine c_seq ?_
      refine c_reg ?_
      refine s_val rfl rfl (r_as rfl rfl) ?_
      refine s_nil ?_
      refine q_then ?_
      refine c_env [(0, .slice A1 us.length c2), (1, .int .i64 np), (2, .string key), (6, .bool false), (7, .slice none 0 0), (8, .slice none 0 0), (9, .int .i64 0)] ⟨rfl, rfl, rfl, rfl, rfl, rfl, rfl, trivial⟩ ?_
      refine c_block ?_
      replace H := H.newnil kStr
      replace H := H.newnil (kHd kPair)
      replace H := H.pick 1 rfl
      replace H := H.pick 1 rfl
      refine c_loop (σ := Nat × Value × List (Value × List Pair) × Value) (fun (i, q, zs, q2) => [(0, .slice A1 us.length c2), (1, .int .i64 np), (2, .string key), (7, q), (8, q2), (9, .int .i64 ((i : Nat) : Int))]) (fun (i, q, zs, q2) w => (Hd w0 F0 w [osl (kHd kPair) q zs, osl kStr q2 (ofL (flat2 zs) key)] [rsl (kHd kPair) (.slice A1 us.length c2) us, rsl (kSl kPair) (.slice A1 us.length c2) runs]) ∧ (i ≤ us.length ∧ zs.length = i) ∧ (∀ p ∈ zs, p.2.length ≤ 20) ∧ (∀ p ∈ flat2 zs, p.key.size ≤ 100)) (fun (i, q, zs, q2) => us.length - i) (0, .slice none 0 0, [], .slice none 0 0) ⟨rfl, rfl, rfl, rfl, rfl, rfl, trivial⟩ ⟨H, ⟨Nat.zero_le _, rfl⟩, by (try dsimp only); simp, by (try dsimp only); simp [flat2]⟩ ?_
      rintro ⟨i, q, zs, q2⟩ w ⟨H, hi, hn, hkz⟩
      have hfb := flat2_bound hn
      have hol := ofL_len (flat2 zs) key
      refine c_seq ?_
      refine c_seq ?_
      refine c_reg ?_
      refine s_val rfl rfl (r_mv rfl rfl) ?_
      refine s_val rfl rfl (r_mv rfl rfl) ?_
      refine s_val rfl rfl (r_lenL rfl un51 rfl) ?_
      refine s_val rfl rfl (r_lt rfl rfl rfl) ?_
      refine s_nil ?_
      refine q_then ?_
      refine c_env [(0, .slice A1 us.length c2), (1, .int .i64 np), (2, .string key), (7, q), (8, q2), (9, .int .i64 ((i : Nat) : Int)), (29, .bool (decide (((i : Nat) : Int) < ((us.length : Nat) : Int))))] ⟨rfl, rfl, rfl, rfl, rfl, rfl, rfl, trivial⟩ ?_
      refine c_dec (p := ((i : Nat) : Int) < ((us.length : Nat) : Int)) rfl (fun h8 => ?_) (fun h8 => ?_)
      · skip
        refine c_skip ?_
        refine q_then ?_
        refine c_env [(0, .slice A1 us.length c2), (1, .int .i64 np), (2, .string key), (7, q), (8, q2), (9, .int .i64 ((i : Nat) : Int))] ⟨rfl, rfl, rfl, rfl, rfl, rfl, trivial⟩ ?_
        refine c_seq ?_
        refine c_block ?_
        refine c_seq ?_
        refine c_seq ?_
        refine c_reg ?_
        refine s_val rfl rfl (r_mv rfl rfl) ?_
        refine s_val rfl rfl (r_mv rfl rfl) ?_
        obtain ⟨⟨u11, x9⟩, hx10⟩ : ∃ z9, us[i]? = some z9 := ⟨_, List.getElem?_eq_getElem (show i < us.length by omega)⟩
        obtain ⟨A12, c13, rfl, hc14, hm15⟩ := H.nestR 0 rfl hx10
        have th16 := H.thRd 0 rfl hx10
        refine s_val rfl rfl (r_iaE (p := oOf A1 + i * 1) rfl sl51 rfl rfl (by omega) (by omega) th16 rfl) ?_
        refine s_val rfl rfl (r_ld rfl ty54 rfl (H.elRd 0 rfl hx10 rfl)) ?_
        refine sc (greatPairs_ok (.slice A12 x9.length c13) x9 20) H (lX (fun F hA hR => nest_rsl (hR _ (List.mem_of_getElem? (i := 0) rfl)) hx10) l0) rfl rfl (e_fn kn56 rfl rfl) ?_
        rintro _ _ w ⟨rfl, rfl⟩ H
        refine s_nil ?_
        refine q_then ?_
        refine c_env [(0, .slice A1 us.length c2), (1, .int .i64 np), (2, .string key), (7, q), (8, q2), (9, .int .i64 ((i : Nat) : Int)), (36, .bool (greatP x9 20))] ⟨rfl, rfl, rfl, rfl, rfl, rfl, rfl, trivial⟩ ?_
        refine c_cond (b := greatP x9 20) rfl (fun h17 => ?_) (fun h17 => ?_)
        · skip
          refine c_seq ?_
          refine c_reg ?_
          refine sc (awake11_ok ) H l0 rfl rfl (e_fn kn46 rfl rfl) ?_
          rintro _ _ w ⟨rfl, rfl⟩ H
          refine s_val rfl rfl (r_as rfl rfl) ?_
          refine s_nil ?_
          refine q_then ?_
          refine c_env [(0, .slice A1 us.length c2), (1, .int .i64 np), (2, .string key), (6, .bool true), (7, q), (8, q2), (9, .int .i64 ((i : Nat) : Int))] ⟨rfl, rfl, rfl, rfl, rfl, rfl, rfl, trivial⟩ ?_
          refine c_ret ?_
          refine q_thenR ?_
          refine q_blockR ?_
          refine q_thenR ?_
          refine q_thenR ?_
          refine q_blockR ?_
          refine q_thenR ?_
          refine q_ret1 rfl rfl ?_
          replace H := H.keep 0
          replace H := H.dropR
          exact fin ⟨rfl, rfl⟩ H
        · skip
          refine c_skip ?_
          refine q_then ?_
          refine c_env [(0, .slice A1 us.length c2), (1, .int .i64 np), (2, .string key), (7, q), (8, q2), (9, .int .i64 ((i : Nat) : Int))] ⟨rfl, rfl, rfl, rfl, rfl, rfl, trivial⟩ ?_
          refine c_seq ?_
          have hg := greatP_no h17
          have holx := ofL_len x9 key
          have hslx := srt_len x9
          refine c_reg ?_
          refine s_val rfl rfl (r_mv rfl rfl) ?_
          refine s_val rfl rfl (r_mv rfl rfl) ?_
          refine s_val rfl rfl (r_mv rfl rfl) ?_
          have th18 := H.thRd 0 rfl hx10
          refine s_val rfl rfl (r_iaE (p := oOf A1 + i * 1) rfl sl51 rfl rfl (by omega) (by omega) th18 rfl) ?_
          refine s_val rfl rfl (r_ld rfl ty54 rfl (H.elRd 0 rfl hx10 rfl)) ?_
          refine sc (pairSort_ok (.slice A12 x9.length c13) x9 (by first | omega | decide | (simp only [List.length_append, List.length_cons, List.length_nil, srt_len]; omega))) H (lX (fun F hA hR => nest_rsl (hR _ (List.mem_of_getElem? (i := 0) rfl)) hx10) l0) rfl rfl (e_fn kn54 rfl rfl) ?_
          rintro v19 _ w rfl H
          obtain ⟨A21, c22, rfl, hc23, hm24, hp25⟩ := H.fA 0 rfl
          refine s_bsl (parts := [(0, .tmp 43)]) (vs := [.slice A21 ((srt x9).length) c22]) (cs := [.slice A21 ((srt x9).length) c22]) rfl rfl rfl sl51 zr54 rfl (by decide) (by decide) rfl rfl H (fun b20 w H => ?_)
          replace H := H.pick 2 rfl
          replace H := H.pick 2 rfl
          replace H := H.pick 2 rfl
          replace H := H.pick 2 rfl
          replace H : Hd _ _ _ [osl (kHd kPair) q zs, blk b20 [.slice A21 ((srt x9).length) c22] 54, osl kPair (.slice A21 ((srt x9).length) c22) (srt x9), osl kStr q2 (ofL (flat2 zs) key)] [rsl (kHd kPair) (.slice A1 us.length c2) us, rsl (kSl kPair) (.slice A1 us.length c2) runs] := H
          refine s_appH rfl rfl rfl sl51 zr54 rfl (by decide) rfl rfl H (by first | omega | (simp only [List.length_append]; omega)) (fun v26 w H => ?_)
          refine s_val rfl rfl (r_as rfl rfl) ?_
          refine s_nil ?_
          refine q_then ?_
          replace H : Hd _ _ _ [osl (kHd kPair) v26 (zs ++ [(.slice A21 ((srt x9).length) c22, srt x9)]), osl kStr q2 (ofL (flat2 zs) key)] [rsl (kHd kPair) (.slice A1 us.length c2) us, rsl (kSl kPair) (.slice A1 us.length c2) runs] := H
          refine c_env [(0, .slice A1 us.length c2), (1, .int .i64 np), (2, .string key), (7, v26), (8, q2), (9, .int .i64 ((i : Nat) : Int))] ⟨rfl, rfl, rfl, rfl, rfl, rfl, trivial⟩ ?_
          refine c_reg ?_
          refine s_val rfl rfl (r_mv rfl rfl) ?_
          refine s_val rfl rfl (r_mv rfl rfl) ?_
          refine s_val rfl rfl (r_mv rfl rfl) ?_
          have th27 := H.thRd 0 rfl hx10
          refine s_val rfl rfl (r_iaE (p := oOf A1 + i * 1) rfl sl51 rfl rfl (by omega) (by omega) th27 rfl) ?_
          refine s_val rfl rfl (r_ld rfl ty54 rfl (H.elRd 0 rfl hx10 rfl)) ?_
          refine s_val rfl rfl (r_mv rfl rfl) ?_
          refine sc (pOf_ok (.slice A12 x9.length c13) x9 key (by first | omega | decide | (simp only [List.length_append, List.length_cons, List.length_nil, srt_len]; omega))) H (lX (fun F hA hR => nest_rsl (hR _ (List.mem_of_getElem? (i := 0) rfl)) hx10) l0) rfl rfl (e_fn kn57 rfl rfl) ?_
          rintro v28 _ w rfl H
          replace H := H.pick 2 rfl
          obtain ⟨A29, c30, rfl, hc31, hm32, hp33⟩ := H.fA 1 rfl
          refine s_appF (xs := ofL (flat2 zs) key) (ys := ofL x9 key) rfl rfl rfl sl66 zr9 rfl (by decide) rfl rfl H (by first | omega | (simp only [List.length_append]; omega)) (fun F hA hR => own_rd F (hA _ (List.mem_of_getElem? (i := 0) rfl))) (fun v34 w H => ?_)
          refine s_val rfl rfl (r_as rfl rfl) ?_
          refine s_nil ?_
          refine q_blockN ?_
          refine q_then ?_
          replace H : Hd _ _ _ [osl kStr v34 ((ofL (flat2 zs) key) ++ (ofL x9 key)), osl kStr (.slice A29 ((ofL x9 key).length) c30) (ofL x9 key), osl (kHd kPair) v26 (zs ++ [(.slice A21 ((srt x9).length) c22, srt x9)])] [rsl (kHd kPair) (.slice A1 us.length c2) us, rsl (kSl kPair) (.slice A1 us.length c2) runs] := H
          refine c_env [(0, .slice A1 us.length c2), (1, .int .i64 np), (2, .string key), (7, v26), (8, v34), (9, .int .i64 ((i : Nat) : Int))] ⟨rfl, rfl, rfl, rfl, rfl, rfl, trivial⟩ ?_
          refine c_reg ?_
          refine s_val rfl rfl (r_mv rfl rfl) ?_
          refine s_val rfl rfl (r_add (z := ((i + 1 : Nat) : Int)) rfl rfl rfl (by rw [w64 (by omega) (by omega)]; omega)) ?_
          refine s_val rfl rfl (r_as rfl rfl) ?_
          refine s_nil ?_
          replace H := H.pick 2 rfl
          replace H := H.keep 2
          replace H : Hd w0 F0 w [osl (kHd kPair) v26 (zs ++ [(.slice A21 ((srt x9).length) c22, srt x9)]), osl kStr v34 (ofL (flat2 (zs ++ [(.slice A21 ((srt x9).length) c22, srt x9)])) key)] [rsl (kHd kPair) (.slice A1 us.length c2) us, rsl (kSl kPair) (.slice A1 us.length c2) runs] := by rw [of_flat_snoc]; exact H
          have hn3 : ∀ p ∈ zs ++ [(.slice A21 ((srt x9).length) c22, srt x9)], p.2.length ≤ 20 := fun p hp => by
            rcases List.mem_append.1 hp with h | h
            · exact hn p h
            · rw [List.mem_singleton.1 h, srt_len]; omega
          replace H := H.pick 1 rfl
          replace H := H.pick 1 rfl
          exact q_round (s := (i, undef, zs, undef)) (i + 1, v26, zs ++ [(.slice A21 ((srt x9).length) c22, srt x9)], v34) ⟨rfl, rfl, rfl, rfl, rfl, rfl, trivial⟩ ⟨H, by (try dsimp only); simp only [List.length_append, List.length_cons, List.length_nil]; omega, hn3, flat_keys hkz (fun p hp => (hg.2 p hp).1)⟩ (by (try dsimp only); omega)
      · skip
        refine c_exit ?_
        refine q_thenE ?_
        refine q_thenE ?_
        refine q_blockE ?_
        refine q_then ?_
        refine c_env [(1, .int .i64 np), (2, .string key), (7, q), (8, q2)] ⟨rfl, rfl, rfl, rfl, trivial⟩ ?_
        refine c_seq ?_
        have hka : ∀ p ∈ srt (flat2 zs), p.key.size ≤ 9223372036854775807 := fun p hp => by have := hkz p ((srt_stab _).symm.mem hp); omega
        have hsl0 := srt_len (flat2 zs)
        refine c_reg ?_
        refine s_val rfl rfl (r_mv rfl rfl) ?_
        refine sc (runs_ok q zs (by first | omega | decide | exact Nat.le_trans (flat2_le _ _) (by omega) | exact Nat.le_trans (flat2_le' _ _) (by omega) | (simp only [flat2, List.flatMap_cons, List.flatMap_nil, List.append_nil, srt_len]; omega))) H (lA 0 rfl own_rd l0) rfl rfl (e_fn kn47 rfl rfl) ?_
        rintro v35 _ w rfl H
        refine s_val rfl rfl (r_as rfl rfl) ?_
        refine s_nil ?_
        refine q_then ?_
        replace H : Hd _ _ _ [osl kPair v35 (srt (flat2 zs)), osl (kHd kPair) q zs, osl kStr q2 (ofL (flat2 zs) key)] [rsl (kHd kPair) (.slice A1 us.length c2) us, rsl (kSl kPair) (.slice A1 us.length c2) runs] := H
        refine c_env [(1, .int .i64 np), (2, .string key), (7, q), (8, q2), (10, v35)] ⟨rfl, rfl, rfl, rfl, rfl, trivial⟩ ?_
        refine c_seq ?_
        refine c_seq ?_
        refine c_reg ?_
        refine s_val rfl rfl (r_as rfl rfl) ?_
        refine s_nil ?_
        refine q_then ?_
        refine c_env [(1, .int .i64 np), (2, .string key), (7, q), (8, q2), (10, v35), (11, .int .i64 0)] ⟨rfl, rfl, rfl, rfl, rfl, rfl, trivial⟩ ?_
        refine c_block ?_
        obtain ⟨A36, c37, rfl, hc38, hm39, hp40⟩ := H.fA 1 rfl
        obtain ⟨A41, c42, rfl, hc43, hm44, hp45⟩ := H.fA 2 rfl
        obtain ⟨A46, c47, rfl, hc48, hm49, hp50⟩ := H.fA 0 rfl
        replace H := H.pick 2 rfl
        replace H := H.pick 2 rfl
        refine c_loop (σ := Nat) (fun p => [(1, .int .i64 np), (2, .string key), (7, .slice A36 zs.length c37), (8, .slice A41 ((ofL (flat2 zs) key).length) c42), (10, .slice A46 ((srt (flat2 zs)).length) c47), (11, .int .i64 ((p : Nat) : Int))]) (fun p w => (Hd w0 F0 w [osl (kHd kPair) (.slice A36 zs.length c37) zs, osl kStr (.slice A41 ((ofL (flat2 zs) key).length) c42) (ofL (flat2 zs) key), osl kPair (.slice A46 ((srt (flat2 zs)).length) c47) (srt (flat2 zs))] [rsl (kHd kPair) (.slice A1 us.length c2) us, rsl (kSl kPair) (.slice A1 us.length c2) runs]) ∧ ((p : Int) ≤ np)) (fun p => np.toNat - p) 0 ⟨rfl, rfl, rfl, rfl, rfl, rfl, trivial⟩ ⟨H, by (try dsimp only); omega⟩ ?_
        rintro p w ⟨H, hp⟩
        refine c_seq ?_
        refine c_seq ?_
        refine c_reg ?_
        refine s_val rfl rfl (r_mv rfl rfl) ?_
        refine s_val rfl rfl (r_mv rfl rfl) ?_
        refine s_val rfl rfl (r_lt rfl rfl rfl) ?_
        refine s_nil ?_
        refine q_then ?_
        refine c_env [(1, .int .i64 np), (2, .string key), (7, .slice A36 zs.length c37), (8, .slice A41 ((ofL (flat2 zs) key).length) c42), (10, .slice A46 ((srt (flat2 zs)).length) c47), (11, .int .i64 ((p : Nat) : Int)), (58, .bool (decide (((p : Nat) : Int) < np)))] ⟨rfl, rfl, rfl, rfl, rfl, rfl, rfl, trivial⟩ ?_
        refine c_dec (p := ((p : Nat) : Int) < np) rfl (fun h51 => ?_) (fun h51 => ?_)
        · skip
          refine c_skip ?_
          refine q_then ?_
          refine c_env [(1, .int .i64 np), (2, .string key), (7, .slice A36 zs.length c37), (8, .slice A41 ((ofL (flat2 zs) key).length) c42), (10, .slice A46 ((srt (flat2 zs)).length) c47), (11, .int .i64 ((p : Nat) : Int))] ⟨rfl, rfl, rfl, rfl, rfl, rfl, trivial⟩ ?_
          refine c_seq ?_
          refine c_block ?_
          refine c_seq ?_
          refine c_reg ?_
          refine s_val rfl rfl (r_as rfl rfl) ?_
          refine s_nil ?_
          refine q_then ?_
          refine c_env [(1, .int .i64 np), (2, .string key), (7, .slice A36 zs.length c37), (8, .slice A41 ((ofL (flat2 zs) key).length) c42), (10, .slice A46 ((srt (flat2 zs)).length) c47), (11, .int .i64 ((p : Nat) : Int)), (12, .slice none 0 0)] ⟨rfl, rfl, rfl, rfl, rfl, rfl, rfl, trivial⟩ ?_
          refine c_seq ?_
          refine c_seq ?_
          refine c_reg ?_
          refine s_val rfl rfl (r_as rfl rfl) ?_
          refine s_nil ?_
          refine q_then ?_
          refine c_env [(1, .int .i64 np), (2, .string key), (7, .slice A36 zs.length c37), (8, .slice A41 ((ofL (flat2 zs) key).length) c42), (10, .slice A46 ((srt (flat2 zs)).length) c47), (11, .int .i64 ((p : Nat) : Int)), (12, .slice none 0 0), (13, .int .i64 0)] ⟨rfl, rfl, rfl, rfl, rfl, rfl, rfl, rfl, trivial⟩ ?_
          refine c_block ?_
          replace H := H.newnil (kHd kPair)
          replace H := H.pick 3 rfl
          replace H := H.pick 3 rfl
          replace H := H.pick 3 rfl
          replace H := H.pick 3 rfl
          refine c_loop (σ := Nat × Value × List (Value × List Pair)) (fun (j, q3, ws) => [(1, .int .i64 np), (2, .string key), (7, .slice A36 zs.length c37), (8, .slice A41 ((ofL (flat2 zs) key).length) c42), (10, .slice A46 ((srt (flat2 zs)).length) c47), (11, .int .i64 ((p : Nat) : Int)), (12, q3), (13, .int .i64 ((j : Nat) : Int))]) (fun (j, q3, ws) w => (Hd w0 F0 w [osl (kHd kPair) q3 ws, osl (kHd kPair) (.slice A36 zs.length c37) zs, osl kStr (.slice A41 ((ofL (flat2 zs) key).length) c42) (ofL (flat2 zs) key), osl kPair (.slice A46 ((srt (flat2 zs)).length) c47) (srt (flat2 zs))] [rsl (kHd kPair) (.slice A1 us.length c2) us, rsl (kSl kPair) (.slice A1 us.length c2) runs]) ∧ (j ≤ zs.length ∧ ws.length = j) ∧ (flat2 ws = onlyP (flat2 (zs.take j)) np p)) (fun (j, q3, ws) => zs.length - j) (0, .slice none 0 0, []) ⟨rfl, rfl, rfl, rfl, rfl, rfl, rfl, rfl, trivial⟩ ⟨H, ⟨Nat.zero_le _, rfl⟩, rfl⟩ ?_
          rintro ⟨j, q3, ws⟩ w ⟨H, hj, hw⟩
          refine c_seq ?_
          refine c_seq ?_
          refine c_reg ?_
          refine s_val rfl rfl (r_mv rfl rfl) ?_
          refine s_val rfl rfl (r_mv rfl rfl) ?_
          refine s_val rfl rfl (r_lenL rfl un51 rfl) ?_
          refine s_val rfl rfl (r_lt rfl rfl rfl) ?_
          refine s_nil ?_
          refine q_then ?_
          refine c_env [(1, .int .i64 np), (2, .string key), (7, .slice A36 zs.length c37), (8, .slice A41 ((ofL (flat2 zs) key).length) c42), (10, .slice A46 ((srt (flat2 zs)).length) c47), (11, .int .i64 ((p : Nat) : Int)), (12, q3), (13, .int .i64 ((j : Nat) : Int)), (64, .bool (decide (((j : Nat) : Int) < ((zs.length : Nat) : Int))))] ⟨rfl, rfl, rfl, rfl, rfl, rfl, rfl, rfl, rfl, trivial⟩ ?_
          refine c_dec (p := ((j : Nat) : Int) < ((zs.length : Nat) : Int)) rfl (fun h52 => ?_) (fun h52 => ?_)
          · skip
            refine c_skip ?_
            refine q_then ?_
            refine c_env [(1, .int .i64 np), (2, .string key), (7, .slice A36 zs.length c37), (8, .slice A41 ((ofL (flat2 zs) key).length) c42), (10, .slice A46 ((srt (flat2 zs)).length) c47), (11, .int .i64 ((p : Nat) : Int)), (12, q3), (13, .int .i64 ((j : Nat) : Int))] ⟨rfl, rfl, rfl, rfl, rfl, rfl, rfl, rfl, trivial⟩ ?_
            refine c_seq ?_
            refine c_block ?_
            refine c_reg ?_
            refine s_val rfl rfl (r_mv rfl rfl) ?_
            refine s_val rfl rfl (r_mv rfl rfl) ?_
            refine s_val rfl rfl (r_mv rfl rfl) ?_
            obtain ⟨⟨u55, x53⟩, hx54⟩ : ∃ z9, zs[j]? = some z9 := ⟨_, List.getElem?_eq_getElem (show j < zs.length by omega)⟩
            obtain ⟨A56, c57, rfl, hc58, hm59⟩ := H.nestA 1 rfl hx54
            have hlx53 : x53.length ≤ 20 := hn _ (at_mem hx54)
            have hkx53 : ∀ p ∈ x53, p.key.size ≤ 9223372036854775807 := fun p hp => by have := hkz p (mem_flat2 hx54 hp); omega
            have th60 := H.thAd 1 rfl hx54
            refine s_val rfl rfl (r_iaE (p := oOf A36 + j * 1) rfl sl51 rfl rfl (by omega) (by omega) th60 rfl) ?_
            refine s_val rfl rfl (r_ld rfl ty54 rfl (H.elAd 1 rfl hx54 rfl)) ?_
            refine s_val rfl rfl (r_mv rfl rfl) ?_
            refine s_val rfl rfl (r_mv rfl rfl) ?_
            refine sc (only_ok (.slice A56 x53.length c57) x53 np ((p : Nat) : Int) (by first | omega | (rw [srt_len]; omega)) (by omega) (by assumption)) H (lX (fun F hA hR => nest_rsl (own_rd F (hA _ (List.mem_of_getElem? (i := 1) rfl))) hx54) l0) rfl rfl (e_fn kn58 rfl rfl) ?_
            rintro v61 _ w rfl H
            obtain ⟨A63, c64, rfl, hc65, hm66, hp67⟩ := H.fA 0 rfl
            refine s_bsl (parts := [(0, .tmp 74)]) (vs := [.slice A63 ((onlyP x53 np ((p : Nat) : Int)).length) c64]) (cs := [.slice A63 ((onlyP x53 np ((p : Nat) : Int)).length) c64]) rfl rfl rfl sl51 zr54 rfl (by decide) (by decide) rfl rfl H (fun b62 w H => ?_)
            replace H := H.pick 2 rfl
            replace H := H.pick 2 rfl
            replace H := H.pick 2 rfl
            replace H := H.pick 2 rfl
            replace H : Hd _ _ _ [osl (kHd kPair) q3 ws, blk b62 [.slice A63 ((onlyP x53 np ((p : Nat) : Int)).length) c64] 54, osl kPair (.slice A63 ((onlyP x53 np ((p : Nat) : Int)).length) c64) (onlyP x53 np ((p : Nat) : Int)), osl (kHd kPair) (.slice A36 zs.length c37) zs, osl kStr (.slice A41 ((ofL (flat2 zs) key).length) c42) (ofL (flat2 zs) key), osl kPair (.slice A46 ((srt (flat2 zs)).length) c47) (srt (flat2 zs))] [rsl (kHd kPair) (.slice A1 us.length c2) us, rsl (kSl kPair) (.slice A1 us.length c2) runs] := H
            refine s_appH rfl rfl rfl sl51 zr54 rfl (by decide) rfl rfl H (by first | omega | (simp only [List.length_append]; omega)) (fun v68 w H => ?_)
            refine s_val rfl rfl (r_as rfl rfl) ?_
            refine s_nil ?_
            refine q_blockN ?_
            refine q_then ?_
            replace H : Hd _ _ _ [osl (kHd kPair) v68 (ws ++ [(.slice A63 ((onlyP x53 np ((p : Nat) : Int)).length) c64, onlyP x53 np ((p : Nat) : Int))]), osl (kHd kPair) (.slice A36 zs.length c37) zs, osl kStr (.slice A41 ((ofL (flat2 zs) key).length) c42) (ofL (flat2 zs) key), osl kPair (.slice A46 ((srt (flat2 zs)).length) c47) (srt (flat2 zs))] [rsl (kHd kPair) (.slice A1 us.length c2) us, rsl (kSl kPair) (.slice A1 us.length c2) runs] := H
            refine c_env [(1, .int .i64 np), (2, .string key), (7, .slice A36 zs.length c37), (8, .slice A41 ((ofL (flat2 zs) key).length) c42), (10, .slice A46 ((srt (flat2 zs)).length) c47), (11, .int .i64 ((p : Nat) : Int)), (12, v68), (13, .int .i64 ((j : Nat) : Int))] ⟨rfl, rfl, rfl, rfl, rfl, rfl, rfl, rfl, trivial⟩ ?_
            refine c_reg ?_
            refine s_val rfl rfl (r_mv rfl rfl) ?_
            refine s_val rfl rfl (r_add (z := ((j + 1 : Nat) : Int)) rfl rfl rfl (by rw [w64 (by omega) (by omega)]; omega)) ?_
            refine s_val rfl rfl (r_as rfl rfl) ?_
            refine s_nil ?_
            replace H := H.pick 3 rfl
            replace H := H.pick 3 rfl
            replace H := H.pick 3 rfl
            replace H := H.pick 3 rfl
            exact q_round (s := (j, undef, ws)) (j + 1, v68, ws ++ [(.slice A63 ((onlyP x53 np ((p : Nat) : Int)).length) c64, onlyP x53 np ((p : Nat) : Int))]) ⟨rfl, rfl, rfl, rfl, rfl, rfl, rfl, rfl, trivial⟩ ⟨H, by (try dsimp only); simp only [List.length_append, List.length_cons, List.length_nil]; omega, only_flat_snoc hx54 hw⟩ (by (try dsimp only); omega)
          · skip
            refine c_exit ?_
            refine q_thenE ?_
            refine q_thenE ?_
            refine q_blockE ?_
            refine q_then ?_
            refine c_env [(1, .int .i64 np), (2, .string key), (7, .slice A36 zs.length c37), (8, .slice A41 ((ofL (flat2 zs) key).length) c42), (10, .slice A46 ((srt (flat2 zs)).length) c47), (11, .int .i64 ((p : Nat) : Int)), (12, q3)] ⟨rfl, rfl, rfl, rfl, rfl, rfl, rfl, trivial⟩ ?_
            refine c_seq ?_
            have hwl : (flat2 ws).length ≤ 160 := by rw [hw]; exact Nat.le_trans (only_len _ _ _) (Nat.le_trans (flat2_le _ _) (by omega))
            refine c_reg ?_
            refine s_val rfl rfl (r_mv rfl rfl) ?_
            refine s_val rfl rfl (r_mv rfl rfl) ?_
            refine s_val rfl rfl (r_mv rfl rfl) ?_
            refine sc (only_ok (.slice A46 ((srt (flat2 zs)).length) c47) (srt (flat2 zs)) np ((p : Nat) : Int) (by first | omega | (rw [srt_len]; omega)) (by omega) (by assumption)) H (lA 3 rfl own_rd l0) rfl rfl (e_fn kn58 rfl rfl) ?_
            rintro v69 _ w rfl H
            refine s_val rfl rfl (r_mv rfl rfl) ?_
            replace H : Hd _ _ _ [osl kPair v69 (onlyP (srt (flat2 zs)) np ((p : Nat) : Int)), osl (kHd kPair) q3 ws, osl (kHd kPair) (.slice A36 zs.length c37) zs, osl kStr (.slice A41 ((ofL (flat2 zs) key).length) c42) (ofL (flat2 zs) key), osl kPair (.slice A46 ((srt (flat2 zs)).length) c47) (srt (flat2 zs))] [rsl (kHd kPair) (.slice A1 us.length c2) us, rsl (kSl kPair) (.slice A1 us.length c2) runs] := H
            refine sc (runs_ok q3 ws (by first | omega | decide | exact Nat.le_trans (flat2_le _ _) (by omega) | exact Nat.le_trans (flat2_le' _ _) (by omega) | (simp only [flat2, List.flatMap_cons, List.flatMap_nil, List.append_nil, srt_len]; omega))) H (lA 1 rfl own_rd l0) rfl rfl (e_fn kn47 rfl rfl) ?_
            rintro v70 _ w rfl H
            refine sc (samePairs_ok v69 v70 (onlyP (srt (flat2 zs)) np ((p : Nat) : Int)) (srt (flat2 ws))) H (lA 1 rfl own_rd (lA 0 rfl own_rd l0)) rfl rfl (e_fn kn48 rfl rfl) ?_
            rintro _ _ w ⟨rfl, rfl⟩ H
            refine s_val rfl rfl (r_notP rfl rfl) ?_
            refine s_nil ?_
            refine q_then ?_
            replace H : Hd _ _ _ [osl kPair v70 (srt (flat2 ws)), osl kPair v69 (onlyP (srt (flat2 zs)) np ((p : Nat) : Int)), osl (kHd kPair) q3 ws, osl (kHd kPair) (.slice A36 zs.length c37) zs, osl kStr (.slice A41 ((ofL (flat2 zs) key).length) c42) (ofL (flat2 zs) key), osl kPair (.slice A46 ((srt (flat2 zs)).length) c47) (srt (flat2 zs))] [rsl (kHd kPair) (.slice A1 us.length c2) us, rsl (kSl kPair) (.slice A1 us.length c2) runs] := H
            refine c_env [(1, .int .i64 np), (2, .string key), (7, .slice A36 zs.length c37), (8, .slice A41 ((ofL (flat2 zs) key).length) c42), (10, .slice A46 ((srt (flat2 zs)).length) c47), (11, .int .i64 ((p : Nat) : Int)), (84, .bool (decide (¬ ((onlyP (srt (flat2 zs)) np ((p : Nat) : Int)) = (srt (flat2 ws))))))] ⟨rfl, rfl, rfl, rfl, rfl, rfl, rfl, trivial⟩ ?_
            refine c_dec (p := ¬ ((onlyP (srt (flat2 zs)) np ((p : Nat) : Int)) = (srt (flat2 ws)))) rfl (fun h71 => ?_) (fun h71 => ?_)
            · exact (h71 (by rw [hw, List.take_of_length_le (by omega), only_srt])).elim
            · skip
              refine c_skip ?_
              refine q_blockN ?_
              refine q_then ?_
              refine c_env [(1, .int .i64 np), (2, .string key), (7, .slice A36 zs.length c37), (8, .slice A41 ((ofL (flat2 zs) key).length) c42), (10, .slice A46 ((srt (flat2 zs)).length) c47), (11, .int .i64 ((p : Nat) : Int))] ⟨rfl, rfl, rfl, rfl, rfl, rfl, trivial⟩ ?_
              refine c_reg ?_
              refine s_val rfl rfl (r_mv rfl rfl) ?_
              refine s_val rfl rfl (r_add (z := ((p + 1 : Nat) : Int)) rfl rfl rfl (by rw [w64 (by omega) (by omega)]; omega)) ?_
              refine s_val rfl rfl (r_as rfl rfl) ?_
              refine s_nil ?_
              replace H := H.pick 5 rfl
              replace H := H.pick 5 rfl
              replace H := H.pick 5 rfl
              replace H := H.keep 3
              exact q_round (s := p) (p + 1) ⟨rfl, rfl, rfl, rfl, rfl, rfl, trivial⟩ ⟨H, by (try dsimp only); omega⟩ (by (try dsimp only); omega)
        · skip
          refine c_exit ?_
          refine q_thenE ?_
          refine q_thenE ?_
          refine q_blockE ?_
          refine q_then ?_
          refine c_env [(2, .string key), (8, .slice A41 ((ofL (flat2 zs) key).length) c42), (10, .slice A46 ((srt (flat2 zs)).length) c47)] ⟨rfl, rfl, rfl, trivial⟩ ?_
          refine c_seq ?_
          refine c_reg ?_
          refine s_val rfl rfl (r_mv rfl rfl) ?_
          refine s_val rfl rfl (r_mv rfl rfl) ?_
          refine sc (pOf_ok (.slice A46 ((srt (flat2 zs)).length) c47) (srt (flat2 zs)) key (by first | omega | decide | (simp only [List.length_append, List.length_cons, List.length_nil, srt_len]; omega))) H (lA 2 rfl own_rd l0) rfl rfl (e_fn kn57 rfl rfl) ?_
          rintro v72 _ w rfl H
          refine s_val rfl rfl (r_mv rfl rfl) ?_
          refine sc (sameTexts_ok v72 (.slice A41 ((ofL (flat2 zs) key).length) c42) (ofL (srt (flat2 zs)) key) (ofL (flat2 zs) key)) H (lA 0 rfl own_rd (lA 2 rfl own_rd l0)) rfl rfl (e_fn kn59 rfl rfl) ?_
          rintro _ _ w ⟨rfl, rfl⟩ H
          refine s_val rfl rfl (r_mv rfl rfl) ?_
          refine s_dec (d := 90) (p := (ofL (srt (flat2 zs)) key) = (ofL (flat2 zs) key)) rfl (fun h73 => ?_) (fun h73 => ?_)
          · skip
            refine sc (awake11_ok ) H l0 rfl rfl (e_fn kn46 rfl rfl) ?_
            rintro _ _ w ⟨rfl, rfl⟩ H
            refine s_val rfl rfl (r_pickT rfl rfl rfl) ?_
            refine s_val rfl rfl (r_as rfl rfl) ?_
            refine s_nil ?_
            refine q_then ?_
            replace H : Hd _ _ _ [osl kStr v72 (ofL (srt (flat2 zs)) key), osl (kHd kPair) (.slice A36 zs.length c37) zs, osl kStr (.slice A41 ((ofL (flat2 zs) key).length) c42) (ofL (flat2 zs) key), osl kPair (.slice A46 ((srt (flat2 zs)).length) c47) (srt (flat2 zs))] [rsl (kHd kPair) (.slice A1 us.length c2) us, rsl (kSl kPair) (.slice A1 us.length c2) runs] := H
            refine c_env [(6, .bool true)] ⟨rfl, trivial⟩ ?_
            refine c_ret ?_
            refine q_ret1 rfl rfl ?_
            replace H := H.keep 0
            replace H := H.dropR
            exact fin ⟨rfl, rfl⟩ H
          · exact (h73 (of_stab (srt_stab _) _).symm).elim

end Go.Proofs.Ytnaaahpmnhoabaa.X
