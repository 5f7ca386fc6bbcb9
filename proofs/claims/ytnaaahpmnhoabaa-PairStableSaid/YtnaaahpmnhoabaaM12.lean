/- The walks of the statements on pairs. -/
import Derived.Test.YtnaaahpmnhoabaaM11
set_option linter.unusedVariables false
set_option linter.unusedSimpArgs false
namespace Go.Proofs.Ytnaaahpmnhoabaa.X
open Go
set_option maxHeartbeats 1000000 in
theorem awake7_ok  :
    Cn Try.prog 74 [] [] [] (fun v Bs => v = .bool true ∧ Bs = []) := by
  intro w0 F0 H
  refine enter (args := []) Try.func74 rfl rfl (Nat.le_of_ble_eq_true rfl) ?_
  refine c_seq ?_
  refine c_reg ?_
  refine s_val rfl rfl (r_as rfl rfl) ?_
  refine s_nil ?_
  refine q_then ?_
  refine c_env [(0, .bool false)] ⟨rfl, trivial⟩ ?_
  refine c_seq ?_
  refine c_reg ?_
  refine s_val rfl rfl (r_bd (parts := [(0, .const (.string ⟨#[98]⟩)), (1, .const (.string ⟨#[49]⟩))]) (vs := [.string ⟨#[98]⟩, .string ⟨#[49]⟩]) (cs := [.string ⟨#[98]⟩, .string ⟨#[49]⟩]) rfl bd91 rfl rfl) ?_
  refine s_val rfl rfl (r_bd (parts := [(0, .const (.string ⟨#[97]⟩)), (1, .const (.string ⟨#[50]⟩))]) (vs := [.string ⟨#[97]⟩, .string ⟨#[50]⟩]) (cs := [.string ⟨#[97]⟩, .string ⟨#[50]⟩]) rfl bd91 rfl rfl) ?_
  refine s_val rfl rfl (r_bd (parts := [(0, .const (.string ⟨#[98]⟩)), (1, .const (.string ⟨#[48]⟩))]) (vs := [.string ⟨#[98]⟩, .string ⟨#[48]⟩]) (cs := [.string ⟨#[98]⟩, .string ⟨#[48]⟩]) rfl bd91 rfl rfl) ?_
  refine s_bsl (parts := [(0, .tmp 2), (1, .tmp 3), (2, .tmp 4)]) (vs := [.agg #[.string ⟨#[98]⟩, .string ⟨#[49]⟩], .agg #[.string ⟨#[97]⟩, .string ⟨#[50]⟩], .agg #[.string ⟨#[98]⟩, .string ⟨#[48]⟩]]) (cs := [.string ⟨#[98]⟩, .string ⟨#[49]⟩, .string ⟨#[97]⟩, .string ⟨#[50]⟩, .string ⟨#[98]⟩, .string ⟨#[48]⟩]) rfl rfl rfl sl54 zr91 rfl (by decide) (by decide) rfl rfl H (fun b1 w H => ?_)
  refine s_val rfl rfl (r_as rfl rfl) ?_
  refine s_nil ?_
  refine q_then ?_
  replace H : Hd _ _ _ [blk b1 [.string ⟨#[98]⟩, .string ⟨#[49]⟩, .string ⟨#[97]⟩, .string ⟨#[50]⟩, .string ⟨#[98]⟩, .string ⟨#[48]⟩] 91] [] := H
  refine c_env [(0, .bool false), (1, .slice (some ⟨b1, 0, none⟩) 3 3)] ⟨rfl, rfl, trivial⟩ ?_
  refine c_seq ?_
  refine c_reg ?_
  refine s_val rfl rfl (r_mv rfl rfl) ?_
  refine sc (pairSort_ok (.slice (some ⟨b1, 0, none⟩) 3 3) [(⟨⟨#[98]⟩, ⟨#[49]⟩⟩ : Pair), (⟨⟨#[97]⟩, ⟨#[50]⟩⟩ : Pair), (⟨⟨#[98]⟩, ⟨#[48]⟩⟩ : Pair)] (by first | omega | decide | (simp only [List.length_append, List.length_cons, List.length_nil, srt_len]; omega))) H (lA 0 rfl (fun F h => blk_rsl h rfl (by decide) (RepsR.flat_eq.2 rfl)) l0) rfl rfl (e_fn kn54 rfl rfl) ?_
  rintro v2 _ w rfl H
  refine s_val rfl rfl (r_bd (parts := [(0, .const (.string ⟨#[97]⟩)), (1, .const (.string ⟨#[50]⟩))]) (vs := [.string ⟨#[97]⟩, .string ⟨#[50]⟩]) (cs := [.string ⟨#[97]⟩, .string ⟨#[50]⟩]) rfl bd91 rfl rfl) ?_
  refine s_val rfl rfl (r_bd (parts := [(0, .const (.string ⟨#[98]⟩)), (1, .const (.string ⟨#[49]⟩))]) (vs := [.string ⟨#[98]⟩, .string ⟨#[49]⟩]) (cs := [.string ⟨#[98]⟩, .string ⟨#[49]⟩]) rfl bd91 rfl rfl) ?_
  refine s_val rfl rfl (r_bd (parts := [(0, .const (.string ⟨#[98]⟩)), (1, .const (.string ⟨#[48]⟩))]) (vs := [.string ⟨#[98]⟩, .string ⟨#[48]⟩]) (cs := [.string ⟨#[98]⟩, .string ⟨#[48]⟩]) rfl bd91 rfl rfl) ?_
  refine s_bsl (parts := [(0, .tmp 8), (1, .tmp 9), (2, .tmp 10)]) (vs := [.agg #[.string ⟨#[97]⟩, .string ⟨#[50]⟩], .agg #[.string ⟨#[98]⟩, .string ⟨#[49]⟩], .agg #[.string ⟨#[98]⟩, .string ⟨#[48]⟩]]) (cs := [.string ⟨#[97]⟩, .string ⟨#[50]⟩, .string ⟨#[98]⟩, .string ⟨#[49]⟩, .string ⟨#[98]⟩, .string ⟨#[48]⟩]) rfl rfl rfl sl54 zr91 rfl (by decide) (by decide) rfl rfl H (fun b3 w H => ?_)
  refine sc (samePairs_ok v2 (.slice (some ⟨b3, 0, none⟩) 3 3) (srt [(⟨⟨#[98]⟩, ⟨#[49]⟩⟩ : Pair), (⟨⟨#[97]⟩, ⟨#[50]⟩⟩ : Pair), (⟨⟨#[98]⟩, ⟨#[48]⟩⟩ : Pair)]) [(⟨⟨#[97]⟩, ⟨#[50]⟩⟩ : Pair), (⟨⟨#[98]⟩, ⟨#[49]⟩⟩ : Pair), (⟨⟨#[98]⟩, ⟨#[48]⟩⟩ : Pair)]) H (lA 1 rfl own_rd (lA 0 rfl (fun F h => blk_rsl h rfl (by decide) (RepsR.flat_eq.2 rfl)) l0)) rfl rfl (e_fn kn48 rfl rfl) ?_
  rintro _ _ w ⟨rfl, rfl⟩ H
  refine s_val rfl rfl (r_mv rfl rfl) ?_
  refine s_dec (d := 13) (p := (srt [(⟨⟨#[98]⟩, ⟨#[49]⟩⟩ : Pair), (⟨⟨#[97]⟩, ⟨#[50]⟩⟩ : Pair), (⟨⟨#[98]⟩, ⟨#[48]⟩⟩ : Pair)]) = [(⟨⟨#[97]⟩, ⟨#[50]⟩⟩ : Pair), (⟨⟨#[98]⟩, ⟨#[49]⟩⟩ : Pair), (⟨⟨#[98]⟩, ⟨#[48]⟩⟩ : Pair)]) rfl (fun h4 => ?_) (fun h4 => ?_)
  · skip
    refine s_val rfl rfl (r_mv rfl rfl) ?_
    replace H : Hd _ _ _ [blk b3 [.string ⟨#[97]⟩, .string ⟨#[50]⟩, .string ⟨#[98]⟩, .string ⟨#[49]⟩, .string ⟨#[98]⟩, .string ⟨#[48]⟩] 91, osl kPair v2 (srt [(⟨⟨#[98]⟩, ⟨#[49]⟩⟩ : Pair), (⟨⟨#[97]⟩, ⟨#[50]⟩⟩ : Pair), (⟨⟨#[98]⟩, ⟨#[48]⟩⟩ : Pair)]), blk b1 [.string ⟨#[98]⟩, .string ⟨#[49]⟩, .string ⟨#[97]⟩, .string ⟨#[50]⟩, .string ⟨#[98]⟩, .string ⟨#[48]⟩] 91] [] := H
    refine sc (pKeys_ok (.slice (some ⟨b1, 0, none⟩) 3 3) [(⟨⟨#[98]⟩, ⟨#[49]⟩⟩ : Pair), (⟨⟨#[97]⟩, ⟨#[50]⟩⟩ : Pair), (⟨⟨#[98]⟩, ⟨#[48]⟩⟩ : Pair)] (by first | omega | decide | (simp only [List.length_append, List.length_cons, List.length_nil, srt_len]; omega))) H (lA 2 rfl (fun F h => blk_rsl h rfl (by decide) (RepsR.flat_eq.2 rfl)) l0) rfl rfl (e_fn kn75 rfl rfl) ?_
    rintro v5 _ w rfl H
    refine s_bsl (parts := [(0, .const (.string ⟨#[97]⟩)), (1, .const (.string ⟨#[98]⟩))]) (vs := [.string ⟨#[97]⟩, .string ⟨#[98]⟩]) (cs := [.string ⟨#[97]⟩, .string ⟨#[98]⟩]) rfl rfl rfl sl66 zr9 rfl (by decide) (by decide) rfl rfl H (fun b6 w H => ?_)
    refine sc (sameTexts_ok v5 (.slice (some ⟨b6, 0, none⟩) 2 2) (keysL [(⟨⟨#[98]⟩, ⟨#[49]⟩⟩ : Pair), (⟨⟨#[97]⟩, ⟨#[50]⟩⟩ : Pair), (⟨⟨#[98]⟩, ⟨#[48]⟩⟩ : Pair)]) [⟨#[97]⟩, ⟨#[98]⟩]) H (lA 1 rfl own_rd (lA 0 rfl (fun F h => blk_rsl h rfl (by decide) (RepsR.flat_eq.2 rfl)) l0)) rfl rfl (e_fn kn59 rfl rfl) ?_
    rintro _ _ w ⟨rfl, rfl⟩ H
    refine s_val rfl rfl (r_pickT rfl rfl rfl) ?_
    refine s_val rfl rfl (r_mv rfl rfl) ?_
    refine s_dec (d := 19) (p := (keysL [(⟨⟨#[98]⟩, ⟨#[49]⟩⟩ : Pair), (⟨⟨#[97]⟩, ⟨#[50]⟩⟩ : Pair), (⟨⟨#[98]⟩, ⟨#[48]⟩⟩ : Pair)]) = [⟨#[97]⟩, ⟨#[98]⟩]) rfl (fun h7 => ?_) (fun h7 => ?_)
    · skip
      refine s_val rfl rfl (r_mv rfl rfl) ?_
      refine sc (sorted_ok (.slice (some ⟨b1, 0, none⟩) 3 3) [(⟨⟨#[98]⟩, ⟨#[49]⟩⟩ : Pair), (⟨⟨#[97]⟩, ⟨#[50]⟩⟩ : Pair), (⟨⟨#[98]⟩, ⟨#[48]⟩⟩ : Pair)] (by first | omega | decide | (simp only [List.length_append, List.length_cons, List.length_nil, srt_len]; omega))) H (lA 4 rfl (fun F h => blk_rsl h rfl (by decide) (RepsR.flat_eq.2 rfl)) l0) rfl rfl (e_fn kn55 rfl rfl) ?_
      rintro _ _ w ⟨rfl, rfl⟩ H
      refine s_val rfl rfl (r_notP rfl rfl) ?_
      refine s_val rfl rfl (r_pickT rfl rfl rfl) ?_
      refine s_val rfl rfl (r_mv rfl rfl) ?_
      refine s_dec (d := 24) (p := ¬ (Ord [(⟨⟨#[98]⟩, ⟨#[49]⟩⟩ : Pair), (⟨⟨#[97]⟩, ⟨#[50]⟩⟩ : Pair), (⟨⟨#[98]⟩, ⟨#[48]⟩⟩ : Pair)])) rfl (fun h8 => ?_) (fun h8 => ?_)
      · skip
        refine s_val rfl rfl (r_mv rfl rfl) ?_
        replace H : Hd _ _ _ [blk b6 [.string ⟨#[97]⟩, .string ⟨#[98]⟩] 9, osl kStr v5 (keysL [(⟨⟨#[98]⟩, ⟨#[49]⟩⟩ : Pair), (⟨⟨#[97]⟩, ⟨#[50]⟩⟩ : Pair), (⟨⟨#[98]⟩, ⟨#[48]⟩⟩ : Pair)]), blk b3 [.string ⟨#[97]⟩, .string ⟨#[50]⟩, .string ⟨#[98]⟩, .string ⟨#[49]⟩, .string ⟨#[98]⟩, .string ⟨#[48]⟩] 91, osl kPair v2 (srt [(⟨⟨#[98]⟩, ⟨#[49]⟩⟩ : Pair), (⟨⟨#[97]⟩, ⟨#[50]⟩⟩ : Pair), (⟨⟨#[98]⟩, ⟨#[48]⟩⟩ : Pair)]), blk b1 [.string ⟨#[98]⟩, .string ⟨#[49]⟩, .string ⟨#[97]⟩, .string ⟨#[50]⟩, .string ⟨#[98]⟩, .string ⟨#[48]⟩] 91] [] := H
        refine sc (pOf_ok (.slice (some ⟨b1, 0, none⟩) 3 3) [(⟨⟨#[98]⟩, ⟨#[49]⟩⟩ : Pair), (⟨⟨#[97]⟩, ⟨#[50]⟩⟩ : Pair), (⟨⟨#[98]⟩, ⟨#[48]⟩⟩ : Pair)] (⟨#[98]⟩ : ByteArray) (by first | omega | decide | (simp only [List.length_append, List.length_cons, List.length_nil, srt_len]; omega))) H (lA 4 rfl (fun F h => blk_rsl h rfl (by decide) (RepsR.flat_eq.2 rfl)) l0) rfl rfl (e_fn kn57 rfl rfl) ?_
        rintro v9 _ w rfl H
        refine s_bsl (parts := [(0, .const (.string ⟨#[49]⟩)), (1, .const (.string ⟨#[48]⟩))]) (vs := [.string ⟨#[49]⟩, .string ⟨#[48]⟩]) (cs := [.string ⟨#[49]⟩, .string ⟨#[48]⟩]) rfl rfl rfl sl66 zr9 rfl (by decide) (by decide) rfl rfl H (fun b10 w H => ?_)
        refine sc (sameTexts_ok v9 (.slice (some ⟨b10, 0, none⟩) 2 2) (ofL [(⟨⟨#[98]⟩, ⟨#[49]⟩⟩ : Pair), (⟨⟨#[97]⟩, ⟨#[50]⟩⟩ : Pair), (⟨⟨#[98]⟩, ⟨#[48]⟩⟩ : Pair)] (⟨#[98]⟩ : ByteArray)) [⟨#[49]⟩, ⟨#[48]⟩]) H (lA 1 rfl own_rd (lA 0 rfl (fun F h => blk_rsl h rfl (by decide) (RepsR.flat_eq.2 rfl)) l0)) rfl rfl (e_fn kn59 rfl rfl) ?_
        rintro _ _ w ⟨rfl, rfl⟩ H
        refine s_val rfl rfl (r_pickT rfl rfl rfl) ?_
        refine s_val rfl rfl (r_as rfl rfl) ?_
        refine s_nil ?_
        refine q_then ?_
        replace H : Hd _ _ _ [blk b10 [.string ⟨#[49]⟩, .string ⟨#[48]⟩] 9, osl kStr v9 (ofL [(⟨⟨#[98]⟩, ⟨#[49]⟩⟩ : Pair), (⟨⟨#[97]⟩, ⟨#[50]⟩⟩ : Pair), (⟨⟨#[98]⟩, ⟨#[48]⟩⟩ : Pair)] (⟨#[98]⟩ : ByteArray)), blk b6 [.string ⟨#[97]⟩, .string ⟨#[98]⟩] 9, osl kStr v5 (keysL [(⟨⟨#[98]⟩, ⟨#[49]⟩⟩ : Pair), (⟨⟨#[97]⟩, ⟨#[50]⟩⟩ : Pair), (⟨⟨#[98]⟩, ⟨#[48]⟩⟩ : Pair)]), blk b3 [.string ⟨#[97]⟩, .string ⟨#[50]⟩, .string ⟨#[98]⟩, .string ⟨#[49]⟩, .string ⟨#[98]⟩, .string ⟨#[48]⟩] 91, osl kPair v2 (srt [(⟨⟨#[98]⟩, ⟨#[49]⟩⟩ : Pair), (⟨⟨#[97]⟩, ⟨#[50]⟩⟩ : Pair), (⟨⟨#[98]⟩, ⟨#[48]⟩⟩ : Pair)]), blk b1 [.string ⟨#[98]⟩, .string ⟨#[49]⟩, .string ⟨#[97]⟩, .string ⟨#[50]⟩, .string ⟨#[98]⟩, .string ⟨#[48]⟩] 91] [] := H
        refine c_env [(0, .bool (decide ((ofL [(⟨⟨#[98]⟩, ⟨#[49]⟩⟩ : Pair), (⟨⟨#[97]⟩, ⟨#[50]⟩⟩ : Pair), (⟨⟨#[98]⟩, ⟨#[48]⟩⟩ : Pair)] (⟨#[98]⟩ : ByteArray)) = [⟨#[49]⟩, ⟨#[48]⟩])))] ⟨rfl, trivial⟩ ?_
        refine c_ret ?_
        refine q_ret1 rfl rfl ?_
        replace H := H.keep 0
        exact fin ⟨congrArg Value.bool (decide_eq_true (by decide)), rfl⟩ H
      · exact absurd h8 (by decide)
    · exact (h7 ((keys_ref _).trans (by decide))).elim
  · exact absurd h4 (by decide)

set_option maxHeartbeats 1000000 in
theorem pairParts_ok (va : Value) (a : List Pair) (wa : (∀ p ∈ a, p.key.size ≤ 9223372036854775807 ∧ p.val.size ≤ 9223372036854775807) ∧ a.length ≤ 9223372036854775807) (vb : Value) (b : List Pair) (wb : (∀ p ∈ b, p.key.size ≤ 9223372036854775807 ∧ p.val.size ≤ 9223372036854775807) ∧ b.length ≤ 9223372036854775807) (key : ByteArray) (wkey : key.size ≤ 9223372036854775807) :
    Cn Try.prog 20 [va, vb, .string key] [] [rsl kPair va a, rsl kPair vb b] (fun v Bs => v = .bool true ∧ Bs = []) := by
  intro w0 F0 H
  obtain ⟨A1, c2, rfl, hc3, hm4, hp5⟩ := H.fR 0 rfl
  obtain ⟨A6, c7, rfl, hc8, hm9, hp10⟩ := H.fR 1 rfl
  refine enter (args := [.slice A1 a.length c2, .slice A6 b.length c7, .string key]) Try.func20 rfl rfl (Nat.le_of_ble_eq_true rfl) ?_
  refine c_seq ?_
  refine c_reg ?_
  refine s_val rfl rfl (r_as rfl rfl) ?_
  refine s_nil ?_
  refine q_then ?_
  replace H : Hd _ _ _ [] [rsl kPair (.slice A1 a.length c2) a, rsl kPair (.slice A6 b.length c7) b] := H
  refine c_env [(0, .slice A1 a.length c2), (1, .slice A6 b.length c7), (2, .string key), (6, .bool false)] ⟨rfl, rfl, rfl, rfl, trivial⟩ ?_
  refine c_seq ?_
  refine c_seq ?_
  refine c_reg ?_
  refine s_val rfl rfl (r_mv rfl rfl) ?_
  refine sc (greatPairs_ok (.slice A1 a.length c2) a 40) H (lR 0 rfl l0) rfl rfl (e_fn kn56 rfl rfl) ?_
  rintro _ _ w ⟨rfl, rfl⟩ H
  refine s_val rfl rfl (r_mv rfl rfl) ?_
  refine s_boo (d := 11) (b := greatP a 40) rfl (fun h11 => ?_) (fun h11 => ?_)
  · skip
    refine s_no rfl rfl ?_
    refine s_no rfl rfl ?_
    refine s_val rfl rfl (r_pickT rfl rfl rfl) ?_
    refine s_val rfl rfl (r_mv rfl rfl) ?_
    refine s_no rfl rfl ?_
    refine s_no rfl rfl ?_
    refine s_no rfl rfl ?_
    refine s_val rfl rfl (r_pickT rfl rfl rfl) ?_
    refine s_nil ?_
    refine q_then ?_
    refine c_env [(0, .slice A1 a.length c2), (1, .slice A6 b.length c7), (2, .string key), (6, .bool false), (19, .bool true)] ⟨rfl, rfl, rfl, rfl, rfl, trivial⟩ ?_
    refine c_yes rfl ?_
    refine c_seq ?_
    refine c_reg ?_
    refine sc (awake7_ok ) H l0 rfl rfl (e_fn kn74 rfl rfl) ?_
    rintro _ _ w ⟨rfl, rfl⟩ H
    refine s_val rfl rfl (r_as rfl rfl) ?_
    refine s_nil ?_
    refine q_then ?_
    refine c_env [(0, .slice A1 a.length c2), (1, .slice A6 b.length c7), (2, .string key), (6, .bool true)] ⟨rfl, rfl, rfl, rfl, trivial⟩ ?_
    refine c_ret ?_
    refine q_thenR ?_
    refine q_ret1 rfl rfl ?_
    exact fin ⟨rfl, rfl⟩ H
  · skip
    refine s_val rfl rfl (r_mv rfl rfl) ?_
    refine sc (greatPairs_ok (.slice A6 b.length c7) b 40) H (lR 1 rfl l0) rfl rfl (e_fn kn56 rfl rfl) ?_
    rintro _ _ w ⟨rfl, rfl⟩ H
    refine s_val rfl rfl (r_pickF rfl rfl rfl) ?_
    refine s_val rfl rfl (r_mv rfl rfl) ?_
    refine s_boo (d := 15) (b := greatP b 40) rfl (fun h12 => ?_) (fun h12 => ?_)
    · skip
      refine s_no rfl rfl ?_
      refine s_no rfl rfl ?_
      refine s_no rfl rfl ?_
      refine s_val rfl rfl (r_pickT rfl rfl rfl) ?_
      refine s_nil ?_
      refine q_then ?_
      refine c_env [(0, .slice A1 a.length c2), (1, .slice A6 b.length c7), (2, .string key), (6, .bool false), (19, .bool true)] ⟨rfl, rfl, rfl, rfl, rfl, trivial⟩ ?_
      refine c_yes rfl ?_
      refine c_seq ?_
      refine c_reg ?_
      refine sc (awake7_ok ) H l0 rfl rfl (e_fn kn74 rfl rfl) ?_
      rintro _ _ w ⟨rfl, rfl⟩ H
      refine s_val rfl rfl (r_as rfl rfl) ?_
      refine s_nil ?_
      refine q_then ?_
      refine c_env [(0, .slice A1 a.length c2), (1, .slice A6 b.length c7), (2, .string key), (6, .bool true)] ⟨rfl, rfl, rfl, rfl, trivial⟩ ?_
      refine c_ret ?_
      refine q_thenR ?_
      refine q_ret1 rfl rfl ?_
      exact fin ⟨rfl, rfl⟩ H
    · skip
      refine s_val rfl rfl (r_mv rfl rfl) ?_
      refine s_val rfl rfl (r_lenS rfl un9 rfl) ?_
      refine s_val rfl rfl (r_gt rfl rfl rfl) ?_
      refine s_val rfl rfl (r_pickF rfl rfl rfl) ?_
      refine s_nil ?_
      refine q_then ?_
      refine c_env [(0, .slice A1 a.length c2), (1, .slice A6 b.length c7), (2, .string key), (6, .bool false), (19, .bool (decide ((100 : Int) < ((key.size : Nat) : Int))))] ⟨rfl, rfl, rfl, rfl, rfl, trivial⟩ ?_
      refine c_dec (p := (100 : Int) < ((key.size : Nat) : Int)) rfl (fun h13 => ?_) (fun h13 => ?_)
      · skip
        refine c_seq ?_
        refine c_reg ?_
        refine sc (awake7_ok ) H l0 rfl rfl (e_fn kn74 rfl rfl) ?_
        rintro _ _ w ⟨rfl, rfl⟩ H
        refine s_val rfl rfl (r_as rfl rfl) ?_
        refine s_nil ?_
        refine q_then ?_
        refine c_env [(0, .slice A1 a.length c2), (1, .slice A6 b.length c7), (2, .string key), (6, .bool true)] ⟨rfl, rfl, rfl, rfl, trivial⟩ ?_
        refine c_ret ?_
        refine q_thenR ?_
        refine q_ret1 rfl rfl ?_
        exact fin ⟨rfl, rfl⟩ H
      · skip
        refine c_skip ?_
        refine q_then ?_
        refine c_env [(0, .slice A1 a.length c2), (1, .slice A6 b.length c7), (2, .string key), (6, .bool false)] ⟨rfl, rfl, rfl, rfl, trivial⟩ ?_
        refine c_seq ?_
        have hgh11 := (greatP_no h11).1
        have hgh12 := (greatP_no h12).1
        refine c_reg ?_
        refine s_val rfl rfl (r_mv rfl rfl) ?_
        replace H := H.newnil kPair
        refine s_appF (xs := []) (ys := a) rfl rfl rfl sl54 zr91 rfl (by decide) rfl rfl H (by first | omega | (have := ofL_len a key; have := ofL_len b key; (try simp only [List.length_append, List.length_cons, List.length_nil, srt_len]); omega)) (fun F hA hR => hR _ (List.mem_of_getElem? (i := 0) rfl)) (fun v14 w H => ?_)
        refine s_val rfl rfl (r_mv rfl rfl) ?_
        refine s_appF (xs := [] ++ a) (ys := b) rfl rfl rfl sl54 zr91 rfl (by decide) rfl rfl H (by first | omega | (have := ofL_len a key; have := ofL_len b key; (try simp only [List.length_append, List.length_cons, List.length_nil, srt_len]); omega)) (fun F hA hR => hR _ (List.mem_of_getElem? (i := 1) rfl)) (fun v15 w H => ?_)
        refine s_val rfl rfl (r_as rfl rfl) ?_
        refine s_nil ?_
        refine q_then ?_
        replace H : Hd _ _ _ [osl kPair v15 (([] ++ a) ++ b)] [rsl kPair (.slice A1 a.length c2) a, rsl kPair (.slice A6 b.length c7) b] := H
        refine c_env [(0, .slice A1 a.length c2), (1, .slice A6 b.length c7), (2, .string key), (6, .bool false), (7, v15)] ⟨rfl, rfl, rfl, rfl, rfl, trivial⟩ ?_
        refine c_seq ?_
        refine c_reg ?_
        refine s_val rfl rfl (r_mv rfl rfl) ?_
        refine s_val rfl rfl (r_mv rfl rfl) ?_
        refine sc (pOf_ok (.slice A1 a.length c2) a key (by first | omega | decide | (simp only [List.length_append, List.length_cons, List.length_nil, srt_len]; omega))) H (lR 0 rfl l0) rfl rfl (e_fn kn57 rfl rfl) ?_
        rintro v16 _ w rfl H
        refine s_val rfl rfl (r_mv rfl rfl) ?_
        refine s_val rfl rfl (r_mv rfl rfl) ?_
        replace H : Hd _ _ _ [osl kStr v16 (ofL a key), osl kPair v15 (([] ++ a) ++ b)] [rsl kPair (.slice A1 a.length c2) a, rsl kPair (.slice A6 b.length c7) b] := H
        refine sc (pOf_ok (.slice A6 b.length c7) b key (by first | omega | decide | (simp only [List.length_append, List.length_cons, List.length_nil, srt_len]; omega))) H (lR 1 rfl l0) rfl rfl (e_fn kn57 rfl rfl) ?_
        rintro v17 _ w rfl H
        replace H := H.pick 1 rfl
        obtain ⟨A18, c19, rfl, hc20, hm21, hp22⟩ := H.fA 1 rfl
        refine s_appF (xs := ofL a key) (ys := ofL b key) rfl rfl rfl sl66 zr9 rfl (by decide) rfl rfl H (by first | omega | (have := ofL_len a key; have := ofL_len b key; (try simp only [List.length_append, List.length_cons, List.length_nil, srt_len]); omega)) (fun F hA hR => own_rd F (hA _ (List.mem_of_getElem? (i := 0) rfl))) (fun v23 w H => ?_)
        refine s_val rfl rfl (r_as rfl rfl) ?_
        refine s_nil ?_
        refine q_then ?_
        replace H : Hd _ _ _ [osl kStr v23 ((ofL a key) ++ (ofL b key)), osl kStr (.slice A18 ((ofL b key).length) c19) (ofL b key), osl kPair v15 (([] ++ a) ++ b)] [rsl kPair (.slice A1 a.length c2) a, rsl kPair (.slice A6 b.length c7) b] := H
        refine c_env [(0, .slice A1 a.length c2), (1, .slice A6 b.length c7), (2, .string key), (6, .bool false), (7, v15), (8, v23)] ⟨rfl, rfl, rfl, rfl, rfl, rfl, trivial⟩ ?_
        refine c_seq ?_
        refine c_reg ?_
        refine s_val rfl rfl (r_mv rfl rfl) ?_
        refine s_val rfl rfl (r_mv rfl rfl) ?_
        refine sc (pOf_ok v15 (([] ++ a) ++ b) key (by first | omega | decide | (simp only [List.length_append, List.length_cons, List.length_nil, srt_len]; omega))) H (lA 2 rfl own_rd l0) rfl rfl (e_fn kn57 rfl rfl) ?_
        rintro v24 _ w rfl H
        refine s_val rfl rfl (r_mv rfl rfl) ?_
        refine sc (sameTexts_ok v24 v23 (ofL (([] ++ a) ++ b) key) ((ofL a key) ++ (ofL b key))) H (lA 0 rfl own_rd (lA 1 rfl own_rd l0)) rfl rfl (e_fn kn59 rfl rfl) ?_
        rintro _ _ w ⟨rfl, rfl⟩ H
        refine s_val rfl rfl (r_mv rfl rfl) ?_
        refine s_dec (d := 37) (p := (ofL (([] ++ a) ++ b) key) = ((ofL a key) ++ (ofL b key))) rfl (fun h25 => ?_) (fun h25 => ?_)
        · skip
          refine s_val rfl rfl (r_mv rfl rfl) ?_
          refine sc (pMayL_ok v15 (([] ++ a) ++ b)) H (lA 3 rfl own_rd l0) rfl rfl (e_fn kn79 rfl rfl) ?_
          rintro _ _ w ⟨rfl, rfl⟩ H
          refine s_val rfl rfl (r_mv rfl rfl) ?_
          refine sc (pMayL_ok (.slice A1 a.length c2) a) H (lR 0 rfl l0) rfl rfl (e_fn kn79 rfl rfl) ?_
          rintro _ _ w ⟨rfl, rfl⟩ H
          refine s_val rfl rfl (r_mv rfl rfl) ?_
          refine s_dec (d := 42) (p := mayL a) rfl (fun h26 => ?_) (fun h26 => ?_)
          · skip
            refine s_val rfl rfl (r_mv rfl rfl) ?_
            refine sc (pMayL_ok (.slice A6 b.length c7) b) H (lR 1 rfl l0) rfl rfl (e_fn kn79 rfl rfl) ?_
            rintro _ _ w ⟨rfl, rfl⟩ H
            refine s_val rfl rfl (r_pickT rfl rfl rfl) ?_
            refine s_val rfl rfl (r_beq rfl un4 rfl rfl) ?_
            refine s_val rfl rfl (r_pickT rfl rfl rfl) ?_
            refine s_val rfl rfl (r_mv rfl rfl) ?_
            refine s_dec (d := 48) (p := (decide (mayL (([] ++ a) ++ b))) = (decide (mayL b))) rfl (fun h27 => ?_) (fun h27 => ?_)
            · skip
              refine s_val rfl rfl (r_mv rfl rfl) ?_
              refine s_val rfl rfl (r_mv rfl rfl) ?_
              refine sc (pSame_ok (.slice A1 a.length c2) a (.slice A1 a.length c2) a) H (lR 0 rfl (lR 0 rfl l0)) rfl rfl (e_fn kn81 rfl rfl) ?_
              rintro _ _ w ⟨rfl, rfl⟩ H
              refine s_val rfl rfl (r_pickT rfl rfl rfl) ?_
              refine s_val rfl rfl (r_mv rfl rfl) ?_
              refine s_dec (d := 53) (p := a = a) rfl (fun h28 => ?_) (fun h28 => ?_)
              · skip
                refine s_val rfl rfl (r_mv rfl rfl) ?_
                replace H : Hd _ _ _ [osl kStr v24 (ofL (([] ++ a) ++ b) key), osl kStr v23 ((ofL a key) ++ (ofL b key)), osl kStr (.slice A18 ((ofL b key).length) c19) (ofL b key), osl kPair v15 (([] ++ a) ++ b)] [rsl kPair (.slice A1 a.length c2) a, rsl kPair (.slice A6 b.length c7) b] := H
                refine sc (pairSort_ok v15 (([] ++ a) ++ b) (by first | omega | decide | (simp only [List.length_append, List.length_cons, List.length_nil, srt_len]; omega))) H (lA 3 rfl own_rd l0) rfl rfl (e_fn kn54 rfl rfl) ?_
                rintro v29 _ w rfl H
                refine s_val rfl rfl (r_mv rfl rfl) ?_
                replace H : Hd _ _ _ [osl kPair v29 (srt (([] ++ a) ++ b)), osl kStr v24 (ofL (([] ++ a) ++ b) key), osl kStr v23 ((ofL a key) ++ (ofL b key)), osl kStr (.slice A18 ((ofL b key).length) c19) (ofL b key), osl kPair v15 (([] ++ a) ++ b)] [rsl kPair (.slice A1 a.length c2) a, rsl kPair (.slice A6 b.length c7) b] := H
                refine sc (pairSort_ok (.slice A1 a.length c2) a (by first | omega | decide | (simp only [List.length_append, List.length_cons, List.length_nil, srt_len]; omega))) H (lR 0 rfl l0) rfl rfl (e_fn kn54 rfl rfl) ?_
                rintro v30 _ w rfl H
                refine s_val rfl rfl (r_mv rfl rfl) ?_
                replace H : Hd _ _ _ [osl kPair v30 (srt a), osl kPair v29 (srt (([] ++ a) ++ b)), osl kStr v24 (ofL (([] ++ a) ++ b) key), osl kStr v23 ((ofL a key) ++ (ofL b key)), osl kStr (.slice A18 ((ofL b key).length) c19) (ofL b key), osl kPair v15 (([] ++ a) ++ b)] [rsl kPair (.slice A1 a.length c2) a, rsl kPair (.slice A6 b.length c7) b] := H
                refine sc (pairSort_ok (.slice A6 b.length c7) b (by first | omega | decide | (simp only [List.length_append, List.length_cons, List.length_nil, srt_len]; omega))) H (lR 1 rfl l0) rfl rfl (e_fn kn54 rfl rfl) ?_
                rintro v31 _ w rfl H
                replace H := H.pick 1 rfl
                obtain ⟨A32, c33, rfl, hc34, hm35, hp36⟩ := H.fA 1 rfl
                refine s_appF (xs := srt a) (ys := srt b) rfl rfl rfl sl54 zr91 rfl (by decide) rfl rfl H (by first | omega | (have := ofL_len a key; have := ofL_len b key; (try simp only [List.length_append, List.length_cons, List.length_nil, srt_len]); omega)) (fun F hA hR => own_rd F (hA _ (List.mem_of_getElem? (i := 0) rfl))) (fun v37 w H => ?_)
                replace H : Hd _ _ _ [osl kPair v37 ((srt a) ++ (srt b)), osl kPair (.slice A32 ((srt b).length) c33) (srt b), osl kPair v29 (srt (([] ++ a) ++ b)), osl kStr v24 (ofL (([] ++ a) ++ b) key), osl kStr v23 ((ofL a key) ++ (ofL b key)), osl kStr (.slice A18 ((ofL b key).length) c19) (ofL b key), osl kPair v15 (([] ++ a) ++ b)] [rsl kPair (.slice A1 a.length c2) a, rsl kPair (.slice A6 b.length c7) b] := H
                refine sc (pairSort_ok v37 ((srt a) ++ (srt b)) (by first | omega | decide | (simp only [List.length_append, List.length_cons, List.length_nil, srt_len]; omega))) H (lA 0 rfl own_rd l0) rfl rfl (e_fn kn54 rfl rfl) ?_
                rintro v38 _ w rfl H
                refine sc (samePairs_ok v29 v38 (srt (([] ++ a) ++ b)) (srt ((srt a) ++ (srt b)))) H (lA 3 rfl own_rd (lA 0 rfl own_rd l0)) rfl rfl (e_fn kn48 rfl rfl) ?_
                rintro _ _ w ⟨rfl, rfl⟩ H
                refine s_val rfl rfl (r_pickT rfl rfl rfl) ?_
                refine s_val rfl rfl (r_mv rfl rfl) ?_
                refine s_dec (d := 64) (p := (srt (([] ++ a) ++ b)) = (srt ((srt a) ++ (srt b)))) rfl (fun h39 => ?_) (fun h39 => ?_)
                · skip
                  refine sc (awake7_ok ) H l0 rfl rfl (e_fn kn74 rfl rfl) ?_
                  rintro _ _ w ⟨rfl, rfl⟩ H
                  refine s_val rfl rfl (r_pickT rfl rfl rfl) ?_
                  refine s_val rfl rfl (r_as rfl rfl) ?_
                  refine s_nil ?_
                  refine q_then ?_
                  replace H : Hd _ _ _ [osl kPair v38 (srt ((srt a) ++ (srt b))), osl kPair v37 ((srt a) ++ (srt b)), osl kPair (.slice A32 ((srt b).length) c33) (srt b), osl kPair v29 (srt (([] ++ a) ++ b)), osl kStr v24 (ofL (([] ++ a) ++ b) key), osl kStr v23 ((ofL a key) ++ (ofL b key)), osl kStr (.slice A18 ((ofL b key).length) c19) (ofL b key), osl kPair v15 (([] ++ a) ++ b)] [rsl kPair (.slice A1 a.length c2) a, rsl kPair (.slice A6 b.length c7) b] := H
                  refine c_env [(6, .bool true)] ⟨rfl, trivial⟩ ?_
                  refine c_ret ?_
                  refine q_ret1 rfl rfl ?_
                  replace H := H.keep 0
                  exact fin ⟨rfl, rfl⟩ H
                · exact absurd (srt_congr (Stab.append (srt_stab a) (srt_stab b))) h39
              · exact (h28 rfl).elim
            · exact absurd (by have := may_app a b; first | (simp only [decide_eq_decide]; simp_all) | simp_all) h27
          · skip
            refine s_no rfl rfl ?_
            refine s_no rfl rfl ?_
            refine s_val rfl rfl (r_pickF rfl rfl rfl) ?_
            refine s_val rfl rfl (r_beq rfl un4 rfl rfl) ?_
            refine s_val rfl rfl (r_pickT rfl rfl rfl) ?_
            refine s_val rfl rfl (r_mv rfl rfl) ?_
            refine s_dec (d := 48) (p := (decide (mayL (([] ++ a) ++ b))) = false) rfl (fun h40 => ?_) (fun h40 => ?_)
            · skip
              refine s_val rfl rfl (r_mv rfl rfl) ?_
              refine s_val rfl rfl (r_mv rfl rfl) ?_
              refine sc (pSame_ok (.slice A1 a.length c2) a (.slice A1 a.length c2) a) H (lR 0 rfl (lR 0 rfl l0)) rfl rfl (e_fn kn81 rfl rfl) ?_
              rintro _ _ w ⟨rfl, rfl⟩ H
              refine s_val rfl rfl (r_pickT rfl rfl rfl) ?_
              refine s_val rfl rfl (r_mv rfl rfl) ?_
              refine s_dec (d := 53) (p := a = a) rfl (fun h41 => ?_) (fun h41 => ?_)
              · skip
                refine s_val rfl rfl (r_mv rfl rfl) ?_
                replace H : Hd _ _ _ [osl kStr v24 (ofL (([] ++ a) ++ b) key), osl kStr v23 ((ofL a key) ++ (ofL b key)), osl kStr (.slice A18 ((ofL b key).length) c19) (ofL b key), osl kPair v15 (([] ++ a) ++ b)] [rsl kPair (.slice A1 a.length c2) a, rsl kPair (.slice A6 b.length c7) b] := H
                refine sc (pairSort_ok v15 (([] ++ a) ++ b) (by first | omega | decide | (simp only [List.length_append, List.length_cons, List.length_nil, srt_len]; omega))) H (lA 3 rfl own_rd l0) rfl rfl (e_fn kn54 rfl rfl) ?_
                rintro v42 _ w rfl H
                refine s_val rfl rfl (r_mv rfl rfl) ?_
                replace H : Hd _ _ _ [osl kPair v42 (srt (([] ++ a) ++ b)), osl kStr v24 (ofL (([] ++ a) ++ b) key), osl kStr v23 ((ofL a key) ++ (ofL b key)), osl kStr (.slice A18 ((ofL b key).length) c19) (ofL b key), osl kPair v15 (([] ++ a) ++ b)] [rsl kPair (.slice A1 a.length c2) a, rsl kPair (.slice A6 b.length c7) b] := H
                refine sc (pairSort_ok (.slice A1 a.length c2) a (by first | omega | decide | (simp only [List.length_append, List.length_cons, List.length_nil, srt_len]; omega))) H (lR 0 rfl l0) rfl rfl (e_fn kn54 rfl rfl) ?_
                rintro v43 _ w rfl H
                refine s_val rfl rfl (r_mv rfl rfl) ?_
                replace H : Hd _ _ _ [osl kPair v43 (srt a), osl kPair v42 (srt (([] ++ a) ++ b)), osl kStr v24 (ofL (([] ++ a) ++ b) key), osl kStr v23 ((ofL a key) ++ (ofL b key)), osl kStr (.slice A18 ((ofL b key).length) c19) (ofL b key), osl kPair v15 (([] ++ a) ++ b)] [rsl kPair (.slice A1 a.length c2) a, rsl kPair (.slice A6 b.length c7) b] := H
                refine sc (pairSort_ok (.slice A6 b.length c7) b (by first | omega | decide | (simp only [List.length_append, List.length_cons, List.length_nil, srt_len]; omega))) H (lR 1 rfl l0) rfl rfl (e_fn kn54 rfl rfl) ?_
                rintro v44 _ w rfl H
                replace H := H.pick 1 rfl
                obtain ⟨A45, c46, rfl, hc47, hm48, hp49⟩ := H.fA 1 rfl
                refine s_appF (xs := srt a) (ys := srt b) rfl rfl rfl sl54 zr91 rfl (by decide) rfl rfl H (by first | omega | (have := ofL_len a key; have := ofL_len b key; (try simp only [List.length_append, List.length_cons, List.length_nil, srt_len]); omega)) (fun F hA hR => own_rd F (hA _ (List.mem_of_getElem? (i := 0) rfl))) (fun v50 w H => ?_)
                replace H : Hd _ _ _ [osl kPair v50 ((srt a) ++ (srt b)), osl kPair (.slice A45 ((srt b).length) c46) (srt b), osl kPair v42 (srt (([] ++ a) ++ b)), osl kStr v24 (ofL (([] ++ a) ++ b) key), osl kStr v23 ((ofL a key) ++ (ofL b key)), osl kStr (.slice A18 ((ofL b key).length) c19) (ofL b key), osl kPair v15 (([] ++ a) ++ b)] [rsl kPair (.slice A1 a.length c2) a, rsl kPair (.slice A6 b.length c7) b] := H
                refine sc (pairSort_ok v50 ((srt a) ++ (srt b)) (by first | omega | decide | (simp only [List.length_append, List.length_cons, List.length_nil, srt_len]; omega))) H (lA 0 rfl own_rd l0) rfl rfl (e_fn kn54 rfl rfl) ?_
                rintro v51 _ w rfl H
                refine sc (samePairs_ok v42 v51 (srt (([] ++ a) ++ b)) (srt ((srt a) ++ (srt b)))) H (lA 3 rfl own_rd (lA 0 rfl own_rd l0)) rfl rfl (e_fn kn48 rfl rfl) ?_
                rintro _ _ w ⟨rfl, rfl⟩ H
                refine s_val rfl rfl (r_pickT rfl rfl rfl) ?_
                refine s_val rfl rfl (r_mv rfl rfl) ?_
                refine s_dec (d := 64) (p := (srt (([] ++ a) ++ b)) = (srt ((srt a) ++ (srt b)))) rfl (fun h52 => ?_) (fun h52 => ?_)
                · skip
                  refine sc (awake7_ok ) H l0 rfl rfl (e_fn kn74 rfl rfl) ?_
                  rintro _ _ w ⟨rfl, rfl⟩ H
                  refine s_val rfl rfl (r_pickT rfl rfl rfl) ?_
                  refine s_val rfl rfl (r_as rfl rfl) ?_
                  refine s_nil ?_
                  refine q_then ?_
                  replace H : Hd _ _ _ [osl kPair v51 (srt ((srt a) ++ (srt b))), osl kPair v50 ((srt a) ++ (srt b)), osl kPair (.slice A45 ((srt b).length) c46) (srt b), osl kPair v42 (srt (([] ++ a) ++ b)), osl kStr v24 (ofL (([] ++ a) ++ b) key), osl kStr v23 ((ofL a key) ++ (ofL b key)), osl kStr (.slice A18 ((ofL b key).length) c19) (ofL b key), osl kPair v15 (([] ++ a) ++ b)] [rsl kPair (.slice A1 a.length c2) a, rsl kPair (.slice A6 b.length c7) b] := H
                  refine c_env [(6, .bool true)] ⟨rfl, trivial⟩ ?_
                  refine c_ret ?_
                  refine q_ret1 rfl rfl ?_
                  replace H := H.keep 0
                  exact fin ⟨rfl, rfl⟩ H
                · exact absurd (srt_congr (Stab.append (srt_stab a) (srt_stab b))) h52
              · exact (h41 rfl).elim
            · exact absurd (by have := may_app a b; first | (simp only [decide_eq_decide]; simp_all) | simp_all) h40
        · exact absurd (of_append a b key) h25

set_option maxHeartbeats 1000000 in
theorem pairTells_ok (vps : Value) (ps : List Pair) (wps : (∀ p ∈ ps, p.key.size ≤ 9223372036854775807 ∧ p.val.size ≤ 9223372036854775807) ∧ ps.length ≤ 9223372036854775807) (vqs : Value) (qs : List Pair) (wqs : (∀ p ∈ qs, p.key.size ≤ 9223372036854775807 ∧ p.val.size ≤ 9223372036854775807) ∧ qs.length ≤ 9223372036854775807) (key : ByteArray) (wkey : key.size ≤ 9223372036854775807) :
    Cn Try.prog 19 [vps, vqs, .string key] [] [rsl kPair vps ps, rsl kPair vqs qs] (fun v Bs => v = .bool true ∧ Bs = []) := by
  intro w0 F0 H
  obtain ⟨A1, c2, rfl, hc3, hm4, hp5⟩ := H.fR 0 rfl
  obtain ⟨A6, c7, rfl, hc8, hm9, hp10⟩ := H.fR 1 rfl
  refine enter (args := [.slice A1 ps.length c2, .slice A6 qs.length c7, .string key]) Try.func19 rfl rfl (Nat.le_of_ble_eq_true rfl) ?_
  refine c_seq ?_
  refine c_reg ?_
  refine s_val rfl rfl (r_as rfl rfl) ?_
  refine s_nil ?_
  refine q_then ?_
  replace H : Hd _ _ _ [] [rsl kPair (.slice A1 ps.length c2) ps, rsl kPair (.slice A6 qs.length c7) qs] := H
  refine c_env [(0, .slice A1 ps.length c2), (1, .slice A6 qs.length c7), (2, .string key), (6, .bool false)] ⟨rfl, rfl, rfl, rfl, trivial⟩ ?_
  refine c_seq ?_
  refine c_seq ?_
  refine c_reg ?_
  refine s_val rfl rfl (r_mv rfl rfl) ?_
  refine sc (greatPairs_ok (.slice A1 ps.length c2) ps 80) H (lR 0 rfl l0) rfl rfl (e_fn kn56 rfl rfl) ?_
  rintro _ _ w ⟨rfl, rfl⟩ H
  refine s_val rfl rfl (r_mv rfl rfl) ?_
  refine s_boo (d := 14) (b := greatP ps 80) rfl (fun h11 => ?_) (fun h11 => ?_)
  · skip
    refine s_no rfl rfl ?_
    refine s_no rfl rfl ?_
    refine s_val rfl rfl (r_pickT rfl rfl rfl) ?_
    refine s_val rfl rfl (r_mv rfl rfl) ?_
    refine s_no rfl rfl ?_
    refine s_no rfl rfl ?_
    refine s_no rfl rfl ?_
    refine s_val rfl rfl (r_pickT rfl rfl rfl) ?_
    refine s_nil ?_
    refine q_then ?_
    refine c_env [(0, .slice A1 ps.length c2), (1, .slice A6 qs.length c7), (2, .string key), (6, .bool false), (22, .bool true)] ⟨rfl, rfl, rfl, rfl, rfl, trivial⟩ ?_
    refine c_yes rfl ?_
    refine c_seq ?_
    refine c_reg ?_
    refine sc (awake7_ok ) H l0 rfl rfl (e_fn kn74 rfl rfl) ?_
    rintro _ _ w ⟨rfl, rfl⟩ H
    refine s_val rfl rfl (r_as rfl rfl) ?_
    refine s_nil ?_
    refine q_then ?_
    refine c_env [(0, .slice A1 ps.length c2), (1, .slice A6 qs.length c7), (2, .string key), (6, .bool true)] ⟨rfl, rfl, rfl, rfl, trivial⟩ ?_
    refine c_ret ?_
    refine q_thenR ?_
    refine q_ret1 rfl rfl ?_
    exact fin ⟨rfl, rfl⟩ H
  · skip
    refine s_val rfl rfl (r_mv rfl rfl) ?_
    refine sc (greatPairs_ok (.slice A6 qs.length c7) qs 80) H (lR 1 rfl l0) rfl rfl (e_fn kn56 rfl rfl) ?_
    rintro _ _ w ⟨rfl, rfl⟩ H
    refine s_val rfl rfl (r_pickF rfl rfl rfl) ?_
    refine s_val rfl rfl (r_mv rfl rfl) ?_
    refine s_boo (d := 18) (b := greatP qs 80) rfl (fun h12 => ?_) (fun h12 => ?_)
    · skip
      refine s_no rfl rfl ?_
      refine s_no rfl rfl ?_
      refine s_no rfl rfl ?_
      refine s_val rfl rfl (r_pickT rfl rfl rfl) ?_
      refine s_nil ?_
      refine q_then ?_
      refine c_env [(0, .slice A1 ps.length c2), (1, .slice A6 qs.length c7), (2, .string key), (6, .bool false), (22, .bool true)] ⟨rfl, rfl, rfl, rfl, rfl, trivial⟩ ?_
      refine c_yes rfl ?_
      refine c_seq ?_
      refine c_reg ?_
      refine sc (awake7_ok ) H l0 rfl rfl (e_fn kn74 rfl rfl) ?_
      rintro _ _ w ⟨rfl, rfl⟩ H
      refine s_val rfl rfl (r_as rfl rfl) ?_
      refine s_nil ?_
      refine q_then ?_
      refine c_env [(0, .slice A1 ps.length c2), (1, .slice A6 qs.length c7), (2, .string key), (6, .bool true)] ⟨rfl, rfl, rfl, rfl, trivial⟩ ?_
      refine c_ret ?_
      refine q_thenR ?_
      refine q_ret1 rfl rfl ?_
      exact fin ⟨rfl, rfl⟩ H
    · skip
      refine s_val rfl rfl (r_mv rfl rfl) ?_
      refine s_val rfl rfl (r_lenS rfl un9 rfl) ?_
      refine s_val rfl rfl (r_gt rfl rfl rfl) ?_
      refine s_val rfl rfl (r_pickF rfl rfl rfl) ?_
      refine s_nil ?_
      refine q_then ?_
      refine c_env [(0, .slice A1 ps.length c2), (1, .slice A6 qs.length c7), (2, .string key), (6, .bool false), (22, .bool (decide ((100 : Int) < ((key.size : Nat) : Int))))] ⟨rfl, rfl, rfl, rfl, rfl, trivial⟩ ?_
      refine c_dec (p := (100 : Int) < ((key.size : Nat) : Int)) rfl (fun h13 => ?_) (fun h13 => ?_)
      · skip
        refine c_seq ?_
        refine c_reg ?_
        refine sc (awake7_ok ) H l0 rfl rfl (e_fn kn74 rfl rfl) ?_
        rintro _ _ w ⟨rfl, rfl⟩ H
        refine s_val rfl rfl (r_as rfl rfl) ?_
        refine s_nil ?_
        refine q_then ?_
        refine c_env [(0, .slice A1 ps.length c2), (1, .slice A6 qs.length c7), (2, .string key), (6, .bool true)] ⟨rfl, rfl, rfl, rfl, trivial⟩ ?_
        refine c_ret ?_
        refine q_thenR ?_
        refine q_ret1 rfl rfl ?_
        exact fin ⟨rfl, rfl⟩ H
      · skip
        refine c_skip ?_
        refine q_then ?_
        refine c_env [(0, .slice A1 ps.length c2), (1, .slice A6 qs.length c7), (2, .string key), (6, .bool false)] ⟨rfl, rfl, rfl, rfl, trivial⟩ ?_
        refine c_seq ?_
        have hgh11 := (greatP_no h11).1
        have hgh12 := (greatP_no h12).1
        refine c_reg ?_
        refine s_val rfl rfl (r_mv rfl rfl) ?_
        refine sc (lendPairs_ok (.slice A1 ps.length c2) ps (by omega)) H (lR 0 rfl l0) rfl rfl (e_fn kn51 rfl rfl) ?_
        rintro _ _ w ⟨b14, rfl, rfl⟩ H
        refine s_val rfl rfl (r_as rfl rfl) ?_
        refine s_nil ?_
        refine q_then ?_
        replace H : Hd _ _ _ [rowF encPair b14 91 (ps ++ List.replicate 3 (⟨⟨#[108, 101, 110, 116]⟩, ⟨#[]⟩⟩ : Pair))] [rsl kPair (.slice A1 ps.length c2) ps, rsl kPair (.slice A6 qs.length c7) qs] := H
        refine c_env [(0, .slice A1 ps.length c2), (1, .slice A6 qs.length c7), (2, .string key), (6, .bool false), (7, .slice (some ⟨b14, 0, none⟩) ps.length (ps.length + 3))] ⟨rfl, rfl, rfl, rfl, rfl, trivial⟩ ?_
        refine c_seq ?_
        refine c_reg ?_
        refine s_val rfl rfl (r_mv rfl rfl) ?_
        refine sc (pairSort_ok (.slice (some ⟨b14, 0, none⟩) ps.length (ps.length + 3)) ps (by first | omega | decide | (simp only [List.length_append, List.length_cons, List.length_nil, srt_len]; omega))) H (lA 0 rfl (fun F h => rowF_rsl (i := 0) h (by first | (simp; done) | exact List.take_of_length_le (by simp)) (by simp) (by simp) (by omega) (by simp)) l0) rfl rfl (e_fn kn54 rfl rfl) ?_
        rintro v15 _ w rfl H
        refine s_val rfl rfl (r_mv rfl rfl) ?_
        replace H : Hd _ _ _ [osl kPair v15 (srt ps), rowF encPair b14 91 (ps ++ List.replicate 3 (⟨⟨#[108, 101, 110, 116]⟩, ⟨#[]⟩⟩ : Pair))] [rsl kPair (.slice A1 ps.length c2) ps, rsl kPair (.slice A6 qs.length c7) qs] := H
        refine sc (pKeys_ok (.slice (some ⟨b14, 0, none⟩) ps.length (ps.length + 3)) ps (by first | omega | decide | (simp only [List.length_append, List.length_cons, List.length_nil, srt_len]; omega))) H (lA 1 rfl (fun F h => rowF_rsl (i := 0) h (by first | (simp; done) | exact List.take_of_length_le (by simp)) (by simp) (by simp) (by omega) (by simp)) l0) rfl rfl (e_fn kn75 rfl rfl) ?_
        rintro v16 _ w rfl H
        refine s_val rfl rfl (r_mv rfl rfl) ?_
        refine s_val rfl rfl (r_mv rfl rfl) ?_
        replace H : Hd _ _ _ [osl kStr v16 (keysL ps), osl kPair v15 (srt ps), rowF encPair b14 91 (ps ++ List.replicate 3 (⟨⟨#[108, 101, 110, 116]⟩, ⟨#[]⟩⟩ : Pair))] [rsl kPair (.slice A1 ps.length c2) ps, rsl kPair (.slice A6 qs.length c7) qs] := H
        refine sc (pOf_ok (.slice (some ⟨b14, 0, none⟩) ps.length (ps.length + 3)) ps key (by first | omega | decide | (simp only [List.length_append, List.length_cons, List.length_nil, srt_len]; omega))) H (lA 2 rfl (fun F h => rowF_rsl (i := 0) h (by first | (simp; done) | exact List.take_of_length_le (by simp)) (by simp) (by simp) (by omega) (by simp)) l0) rfl rfl (e_fn kn57 rfl rfl) ?_
        rintro v17 _ w rfl H
        refine s_val rfl rfl (r_as rfl rfl) ?_
        refine s_val rfl rfl (r_as rfl rfl) ?_
        refine s_val rfl rfl (r_as rfl rfl) ?_
        refine s_nil ?_
        refine q_then ?_
        replace H : Hd _ _ _ [osl kStr v17 (ofL ps key), osl kStr v16 (keysL ps), osl kPair v15 (srt ps), rowF encPair b14 91 (ps ++ List.replicate 3 (⟨⟨#[108, 101, 110, 116]⟩, ⟨#[]⟩⟩ : Pair))] [rsl kPair (.slice A1 ps.length c2) ps, rsl kPair (.slice A6 qs.length c7) qs] := H
        refine c_env [(0, .slice A1 ps.length c2), (1, .slice A6 qs.length c7), (2, .string key), (6, .bool false), (7, .slice (some ⟨b14, 0, none⟩) ps.length (ps.length + 3)), (8, v15), (9, v16), (10, v17)] ⟨rfl, rfl, rfl, rfl, rfl, rfl, rfl, rfl, trivial⟩ ?_
        refine c_seq ?_
        refine c_reg ?_
        refine s_val rfl rfl (r_mv rfl rfl) ?_
        refine s_val rfl rfl (r_mv rfl rfl) ?_
        refine sc (rSort_ok (.slice A1 ps.length c2) ps (by first | omega | decide | (simp only [List.length_append, List.length_cons, List.length_nil, srt_len]; omega))) H (lR 0 rfl l0) rfl rfl (e_fn kn76 rfl rfl) ?_
        rintro v18 _ w rfl H
        refine sc (samePairs_ok v15 v18 (srt ps) (srt ps)) H (lA 3 rfl own_rd (lA 0 rfl own_rd l0)) rfl rfl (e_fn kn48 rfl rfl) ?_
        rintro _ _ w ⟨rfl, rfl⟩ H
        refine s_val rfl rfl (r_mv rfl rfl) ?_
        refine s_dec (d := 37) (p := (srt ps) = (srt ps)) rfl (fun h19 => ?_) (fun h19 => ?_)
        · skip
          refine s_val rfl rfl (r_mv rfl rfl) ?_
          refine s_val rfl rfl (r_mv rfl rfl) ?_
          replace H : Hd _ _ _ [osl kPair v18 (srt ps), osl kStr v17 (ofL ps key), osl kStr v16 (keysL ps), osl kPair v15 (srt ps), rowF encPair b14 91 (ps ++ List.replicate 3 (⟨⟨#[108, 101, 110, 116]⟩, ⟨#[]⟩⟩ : Pair))] [rsl kPair (.slice A1 ps.length c2) ps, rsl kPair (.slice A6 qs.length c7) qs] := H
          refine sc (rKeys_ok (.slice A1 ps.length c2) ps (by first | omega | decide | (simp only [List.length_append, List.length_cons, List.length_nil, srt_len]; omega))) H (lR 0 rfl l0) rfl rfl (e_fn kn77 rfl rfl) ?_
          rintro v20 _ w rfl H
          refine sc (sameTexts_ok v16 v20 (keysL ps) (refK [] (ps.map (·.key)))) H (lA 3 rfl own_rd (lA 0 rfl own_rd l0)) rfl rfl (e_fn kn59 rfl rfl) ?_
          rintro _ _ w ⟨rfl, rfl⟩ H
          refine s_val rfl rfl (r_pickT rfl rfl rfl) ?_
          refine s_val rfl rfl (r_mv rfl rfl) ?_
          refine s_dec (d := 43) (p := (keysL ps) = (refK [] (ps.map (·.key)))) rfl (fun h21 => ?_) (fun h21 => ?_)
          · skip
            refine s_val rfl rfl (r_mv rfl rfl) ?_
            refine s_val rfl rfl (r_mv rfl rfl) ?_
            refine s_val rfl rfl (r_mv rfl rfl) ?_
            replace H : Hd _ _ _ [osl kStr v20 (refK [] (ps.map (·.key))), osl kPair v18 (srt ps), osl kStr v17 (ofL ps key), osl kStr v16 (keysL ps), osl kPair v15 (srt ps), rowF encPair b14 91 (ps ++ List.replicate 3 (⟨⟨#[108, 101, 110, 116]⟩, ⟨#[]⟩⟩ : Pair))] [rsl kPair (.slice A1 ps.length c2) ps, rsl kPair (.slice A6 qs.length c7) qs] := H
            refine sc (rOf_ok (.slice A1 ps.length c2) ps key (by first | omega | decide | (simp only [List.length_append, List.length_cons, List.length_nil, srt_len]; omega))) H (lR 0 rfl l0) rfl rfl (e_fn kn78 rfl rfl) ?_
            rintro v22 _ w rfl H
            refine sc (sameTexts_ok v17 v22 (ofL ps key) (ofL ps key)) H (lA 3 rfl own_rd (lA 0 rfl own_rd l0)) rfl rfl (e_fn kn59 rfl rfl) ?_
            rintro _ _ w ⟨rfl, rfl⟩ H
            refine s_val rfl rfl (r_pickT rfl rfl rfl) ?_
            refine s_val rfl rfl (r_mv rfl rfl) ?_
            refine s_dec (d := 50) (p := (ofL ps key) = (ofL ps key)) rfl (fun h23 => ?_) (fun h23 => ?_)
            · skip
              refine s_val rfl rfl (r_mv rfl rfl) ?_
              refine sc (pMayL_ok (.slice (some ⟨b14, 0, none⟩) ps.length (ps.length + 3)) ps) H (lA 6 rfl (fun F h => rowF_rsl (i := 0) h (by first | (simp; done) | exact List.take_of_length_le (by simp)) (by simp) (by simp) (by omega) (by simp)) l0) rfl rfl (e_fn kn79 rfl rfl) ?_
              rintro _ _ w ⟨rfl, rfl⟩ H
              refine s_val rfl rfl (r_mv rfl rfl) ?_
              refine sc (rMayL_ok (.slice A1 ps.length c2) ps) H (lR 0 rfl l0) rfl rfl (e_fn kn80 rfl rfl) ?_
              rintro _ _ w ⟨rfl, rfl⟩ H
              refine s_val rfl rfl (r_beq rfl un4 rfl rfl) ?_
              refine s_val rfl rfl (r_pickT rfl rfl rfl) ?_
              refine s_val rfl rfl (r_mv rfl rfl) ?_
              refine s_dec (d := 57) (p := (decide (mayL ps)) = (decide (mayL ps))) rfl (fun h24 => ?_) (fun h24 => ?_)
              · skip
                refine s_val rfl rfl (r_mv rfl rfl) ?_
                refine sc (sorted_ok (.slice (some ⟨b14, 0, none⟩) ps.length (ps.length + 3)) ps (by first | omega | decide | (simp only [List.length_append, List.length_cons, List.length_nil, srt_len]; omega))) H (lA 6 rfl (fun F h => rowF_rsl (i := 0) h (by first | (simp; done) | exact List.take_of_length_le (by simp)) (by simp) (by simp) (by omega) (by simp)) l0) rfl rfl (e_fn kn55 rfl rfl) ?_
                rintro _ _ w ⟨rfl, rfl⟩ H
                refine s_val rfl rfl (r_mv rfl rfl) ?_
                refine s_val rfl rfl (r_mv rfl rfl) ?_
                replace H : Hd _ _ _ [osl kStr v22 (ofL ps key), osl kStr v20 (refK [] (ps.map (·.key))), osl kPair v18 (srt ps), osl kStr v17 (ofL ps key), osl kStr v16 (keysL ps), osl kPair v15 (srt ps), rowF encPair b14 91 (ps ++ List.replicate 3 (⟨⟨#[108, 101, 110, 116]⟩, ⟨#[]⟩⟩ : Pair))] [rsl kPair (.slice A1 ps.length c2) ps, rsl kPair (.slice A6 qs.length c7) qs] := H
                refine sc (rSort_ok (.slice A1 ps.length c2) ps (by first | omega | decide | (simp only [List.length_append, List.length_cons, List.length_nil, srt_len]; omega))) H (lR 0 rfl l0) rfl rfl (e_fn kn76 rfl rfl) ?_
                rintro v25 _ w rfl H
                refine sc (samePairs_ok (.slice A1 ps.length c2) v25 ps (srt ps)) H (lR 0 rfl (lA 0 rfl own_rd l0)) rfl rfl (e_fn kn48 rfl rfl) ?_
                rintro _ _ w ⟨rfl, rfl⟩ H
                refine s_val rfl rfl (r_beq rfl un4 rfl rfl) ?_
                refine s_val rfl rfl (r_pickT rfl rfl rfl) ?_
                refine s_val rfl rfl (r_mv rfl rfl) ?_
                refine s_dec (d := 66) (p := (decide (Ord ps)) = (decide (ps = (srt ps)))) rfl (fun h26 => ?_) (fun h26 => ?_)
                · skip
                  refine s_val rfl rfl (r_mv rfl rfl) ?_
                  refine s_val rfl rfl (r_mv rfl rfl) ?_
                  refine sc (pSame_ok (.slice (some ⟨b14, 0, none⟩) ps.length (ps.length + 3)) ps (.slice A6 qs.length c7) qs) H (lA 7 rfl (fun F h => rowF_rsl (i := 0) h (by first | (simp; done) | exact List.take_of_length_le (by simp)) (by simp) (by simp) (by omega) (by simp)) (lR 1 rfl l0)) rfl rfl (e_fn kn81 rfl rfl) ?_
                  rintro _ _ w ⟨rfl, rfl⟩ H
                  refine s_val rfl rfl (r_mv rfl rfl) ?_
                  refine s_val rfl rfl (r_mv rfl rfl) ?_
                  refine sc (rSameP_ok (.slice A1 ps.length c2) (.slice A6 qs.length c7) ps qs) H (lR 0 rfl (lR 1 rfl l0)) rfl rfl (e_fn kn82 rfl rfl) ?_
                  rintro _ _ w ⟨rfl, rfl⟩ H
                  refine s_val rfl rfl (r_beq rfl un4 rfl rfl) ?_
                  refine s_val rfl rfl (r_pickT rfl rfl rfl) ?_
                  refine s_val rfl rfl (r_as rfl rfl) ?_
                  refine s_nil ?_
                  refine q_then ?_
                  replace H : Hd _ _ _ [osl kPair v25 (srt ps), osl kStr v22 (ofL ps key), osl kStr v20 (refK [] (ps.map (·.key))), osl kPair v18 (srt ps), osl kStr v17 (ofL ps key), osl kStr v16 (keysL ps), osl kPair v15 (srt ps), rowF encPair b14 91 (ps ++ List.replicate 3 (⟨⟨#[108, 101, 110, 116]⟩, ⟨#[]⟩⟩ : Pair))] [rsl kPair (.slice A1 ps.length c2) ps, rsl kPair (.slice A6 qs.length c7) qs] := H
                  refine c_env [(0, .slice A1 ps.length c2), (6, .bool false), (7, .slice (some ⟨b14, 0, none⟩) ps.length (ps.length + 3)), (8, v15), (9, v16), (10, v17), (11, .bool (decide ((decide (ps = qs)) = (decide (ps = qs)))))] ⟨rfl, rfl, rfl, rfl, rfl, rfl, rfl, trivial⟩ ?_
                  refine c_seq ?_
                  refine c_reg ?_
                  refine s_val rfl rfl (r_mv rfl rfl) ?_
                  replace H := H.pick 6 rfl
                  replace H : Hd _ _ _ [osl kPair v15 (srt ps), osl kPair v25 (srt ps), osl kStr v22 (ofL ps key), osl kStr v20 (refK [] (ps.map (·.key))), osl kPair v18 (srt ps), osl kStr v17 (ofL ps key), osl kStr v16 (keysL ps), rowF encPair b14 91 (ps ++ List.replicate 3 (⟨⟨#[108, 101, 110, 116]⟩, ⟨#[]⟩⟩ : Pair))] [rsl kPair (.slice A1 ps.length c2) ps, rsl kPair (.slice A6 qs.length c7) qs] := H
                  refine sc (overPairs_ok v15 (srt ps) (by first | (rw [srt_len]; omega) | (have := keysL_len ps; omega) | (have := ofL_len ps key; omega))) H l0 rfl rfl (e_fn kn50 rfl rfl) ?_
                  rintro _ _ w rfl H
                  refine s_nil ?_
                  refine q_then ?_
                  replace H : Hd _ _ _ [osl kPair v25 (srt ps), osl kStr v22 (ofL ps key), osl kStr v20 (refK [] (ps.map (·.key))), osl kPair v18 (srt ps), osl kStr v17 (ofL ps key), osl kStr v16 (keysL ps), rowF encPair b14 91 (ps ++ List.replicate 3 (⟨⟨#[108, 101, 110, 116]⟩, ⟨#[]⟩⟩ : Pair))] [rsl kPair (.slice A1 ps.length c2) ps, rsl kPair (.slice A6 qs.length c7) qs] := H
                  refine c_env [(0, .slice A1 ps.length c2), (6, .bool false), (7, .slice (some ⟨b14, 0, none⟩) ps.length (ps.length + 3)), (9, v16), (10, v17), (11, .bool (decide ((decide (ps = qs)) = (decide (ps = qs)))))] ⟨rfl, rfl, rfl, rfl, rfl, rfl, trivial⟩ ?_
                  refine c_seq ?_
                  refine c_reg ?_
                  refine s_val rfl rfl (r_mv rfl rfl) ?_
                  replace H := H.pick 5 rfl
                  replace H : Hd _ _ _ [osl kStr v16 (keysL ps), osl kPair v25 (srt ps), osl kStr v22 (ofL ps key), osl kStr v20 (refK [] (ps.map (·.key))), osl kPair v18 (srt ps), osl kStr v17 (ofL ps key), rowF encPair b14 91 (ps ++ List.replicate 3 (⟨⟨#[108, 101, 110, 116]⟩, ⟨#[]⟩⟩ : Pair))] [rsl kPair (.slice A1 ps.length c2) ps, rsl kPair (.slice A6 qs.length c7) qs] := H
                  refine sc (overTexts_ok v16 (keysL ps) (by first | (rw [srt_len]; omega) | (have := keysL_len ps; omega) | (have := ofL_len ps key; omega))) H l0 rfl rfl (e_fn kn83 rfl rfl) ?_
                  rintro _ _ w rfl H
                  refine s_nil ?_
                  refine q_then ?_
                  replace H : Hd _ _ _ [osl kPair v25 (srt ps), osl kStr v22 (ofL ps key), osl kStr v20 (refK [] (ps.map (·.key))), osl kPair v18 (srt ps), osl kStr v17 (ofL ps key), rowF encPair b14 91 (ps ++ List.replicate 3 (⟨⟨#[108, 101, 110, 116]⟩, ⟨#[]⟩⟩ : Pair))] [rsl kPair (.slice A1 ps.length c2) ps, rsl kPair (.slice A6 qs.length c7) qs] := H
                  refine c_env [(0, .slice A1 ps.length c2), (6, .bool false), (7, .slice (some ⟨b14, 0, none⟩) ps.length (ps.length + 3)), (10, v17), (11, .bool (decide ((decide (ps = qs)) = (decide (ps = qs)))))] ⟨rfl, rfl, rfl, rfl, rfl, trivial⟩ ?_
                  refine c_seq ?_
                  refine c_reg ?_
                  refine s_val rfl rfl (r_mv rfl rfl) ?_
                  replace H := H.pick 4 rfl
                  replace H : Hd _ _ _ [osl kStr v17 (ofL ps key), osl kPair v25 (srt ps), osl kStr v22 (ofL ps key), osl kStr v20 (refK [] (ps.map (·.key))), osl kPair v18 (srt ps), rowF encPair b14 91 (ps ++ List.replicate 3 (⟨⟨#[108, 101, 110, 116]⟩, ⟨#[]⟩⟩ : Pair))] [rsl kPair (.slice A1 ps.length c2) ps, rsl kPair (.slice A6 qs.length c7) qs] := H
                  refine sc (overTexts_ok v17 (ofL ps key) (by first | (rw [srt_len]; omega) | (have := keysL_len ps; omega) | (have := ofL_len ps key; omega))) H l0 rfl rfl (e_fn kn83 rfl rfl) ?_
                  rintro _ _ w rfl H
                  refine s_nil ?_
                  refine q_then ?_
                  replace H : Hd _ _ _ [osl kPair v25 (srt ps), osl kStr v22 (ofL ps key), osl kStr v20 (refK [] (ps.map (·.key))), osl kPair v18 (srt ps), rowF encPair b14 91 (ps ++ List.replicate 3 (⟨⟨#[108, 101, 110, 116]⟩, ⟨#[]⟩⟩ : Pair))] [rsl kPair (.slice A1 ps.length c2) ps, rsl kPair (.slice A6 qs.length c7) qs] := H
                  refine c_env [(0, .slice A1 ps.length c2), (6, .bool false), (7, .slice (some ⟨b14, 0, none⟩) ps.length (ps.length + 3)), (11, .bool (decide ((decide (ps = qs)) = (decide (ps = qs)))))] ⟨rfl, rfl, rfl, rfl, trivial⟩ ?_
                  refine c_seq ?_
                  refine c_reg ?_
                  refine s_val rfl rfl (r_mv rfl rfl) ?_
                  refine s_val rfl rfl (r_mv rfl rfl) ?_
                  refine s_dec (d := 82) (p := (decide (ps = qs)) = (decide (ps = qs))) rfl (fun h27 => ?_) (fun h27 => ?_)
                  · skip
                    refine s_val rfl rfl (r_mv rfl rfl) ?_
                    refine s_val rfl rfl (r_mv rfl rfl) ?_
                    refine sc (keptPairs_ok b14 ps (.slice A1 ps.length c2) ps (by omega)) H (lA 4 rfl (fun _ h => h) (lR 0 rfl l0)) rfl rfl (e_fn kn53 rfl rfl) ?_
                    rintro _ _ w ⟨rfl, rfl⟩ H
                    refine s_val rfl rfl (r_pickT rfl rfl rfl) ?_
                    refine s_val rfl rfl (r_mv rfl rfl) ?_
                    refine s_dec (d := 87) (p := ps = ps) rfl (fun h28 => ?_) (fun h28 => ?_)
                    · skip
                      refine sc (awake7_ok ) H l0 rfl rfl (e_fn kn74 rfl rfl) ?_
                      rintro _ _ w ⟨rfl, rfl⟩ H
                      refine s_val rfl rfl (r_pickT rfl rfl rfl) ?_
                      refine s_val rfl rfl (r_as rfl rfl) ?_
                      refine s_nil ?_
                      refine q_then ?_
                      refine c_env [(6, .bool true)] ⟨rfl, trivial⟩ ?_
                      refine c_ret ?_
                      refine q_ret1 rfl rfl ?_
                      replace H := H.keep 0
                      exact fin ⟨rfl, rfl⟩ H
                    · exact (h28 rfl).elim
                  · exact (h27 rfl).elim
                · exact absurd (decide_eq_decide.2 ord_iff) h26
              · exact (h24 rfl).elim
            · exact (h23 rfl).elim
          · exact absurd (keys_ref ps) h21
        · exact (h19 rfl).elim

set_option maxHeartbeats 1000000 in
theorem pairStable_ok (vps : Value) (ps : List Pair) (wps : (∀ p ∈ ps, p.key.size ≤ 9223372036854775807 ∧ p.val.size ≤ 9223372036854775807) ∧ ps.length ≤ 9223372036854775807) :
    Cn Try.prog 18 [vps] [] [rsl kPair vps ps] (fun v Bs => v = .bool true ∧ Bs = []) := by
  intro w0 F0 H
  obtain ⟨A1, c2, rfl, hc3, hm4, hp5⟩ := H.fR 0 rfl
  refine enter (args := [.slice A1 ps.length c2]) Try.func18 rfl rfl (Nat.le_of_ble_eq_true rfl) ?_
  refine c_seq ?_
  refine c_reg ?_
  refine s_val rfl rfl (r_as rfl rfl) ?_
  refine s_nil ?_
  refine q_then ?_
  replace H : Hd _ _ _ [] [rsl kPair (.slice A1 ps.length c2) ps] := H
  refine c_env [(0, .slice A1 ps.length c2), (2, .bool false)] ⟨rfl, rfl, trivial⟩ ?_
  refine c_seq ?_
  refine c_seq ?_
  refine c_reg ?_
  refine s_val rfl rfl (r_mv rfl rfl) ?_
  refine sc (greatPairs_ok (.slice A1 ps.length c2) ps 80) H (lR 0 rfl l0) rfl rfl (e_fn kn56 rfl rfl) ?_
  rintro _ _ w ⟨rfl, rfl⟩ H
  refine s_nil ?_
  refine q_then ?_
  refine c_env [(0, .slice A1 ps.length c2), (2, .bool false), (10, .bool (greatP ps 80))] ⟨rfl, rfl, rfl, trivial⟩ ?_
  refine c_cond (b := greatP ps 80) rfl (fun h6 => ?_) (fun h6 => ?_)
  · skip
    refine c_seq ?_
    refine c_reg ?_
    refine sc (awake7_ok ) H l0 rfl rfl (e_fn kn74 rfl rfl) ?_
    rintro _ _ w ⟨rfl, rfl⟩ H
    refine s_val rfl rfl (r_as rfl rfl) ?_
    refine s_nil ?_
    refine q_then ?_
    refine c_env [(0, .slice A1 ps.length c2), (2, .bool true)] ⟨rfl, rfl, trivial⟩ ?_
    refine c_ret ?_
    refine q_thenR ?_
    refine q_ret1 rfl rfl ?_
    exact fin ⟨rfl, rfl⟩ H
  · skip
    refine c_skip ?_
    refine q_then ?_
    refine c_env [(0, .slice A1 ps.length c2), (2, .bool false)] ⟨rfl, rfl, trivial⟩ ?_
    refine c_seq ?_
    have hgh6 := (greatP_no h6).1
    refine c_reg ?_
    refine s_val rfl rfl (r_mv rfl rfl) ?_
    refine sc (pairSort_ok (.slice A1 ps.length c2) ps (by first | omega | decide | (simp only [List.length_append, List.length_cons, List.length_nil, srt_len]; omega))) H (lR 0 rfl l0) rfl rfl (e_fn kn54 rfl rfl) ?_
    rintro v7 _ w rfl H
    refine s_val rfl rfl (r_as rfl rfl) ?_
    refine s_nil ?_
    refine q_then ?_
    replace H : Hd _ _ _ [osl kPair v7 (srt ps)] [rsl kPair (.slice A1 ps.length c2) ps] := H
    refine c_env [(0, .slice A1 ps.length c2), (2, .bool false), (3, v7)] ⟨rfl, rfl, rfl, trivial⟩ ?_
    refine c_seq ?_
    refine c_seq ?_
    refine c_reg ?_
    refine s_val rfl rfl (r_mv rfl rfl) ?_
    obtain ⟨A8, c9, rfl, hc10, hm11, hp12⟩ := H.fA 0 rfl
    refine s_val rfl rfl (r_lenL rfl un54 rfl) ?_
    refine s_val rfl rfl (r_mv rfl rfl) ?_
    refine s_val rfl rfl (r_lenL rfl un54 rfl) ?_
    refine s_val rfl rfl (r_ne rfl rfl rfl) ?_
    refine s_val rfl rfl (r_mv rfl rfl) ?_
    refine s_dec (d := 19) (p := (((srt ps).length : Nat) : Int) ≠ ((ps.length : Nat) : Int)) rfl (fun h13 => ?_) (fun h13 => ?_)
    · exact absurd (by rw [srt_len]) h13
    · skip
      refine s_val rfl rfl (r_mv rfl rfl) ?_
      refine sc (sorted_ok (.slice A8 ((srt ps).length) c9) (srt ps) (by first | omega | decide | (simp only [List.length_append, List.length_cons, List.length_nil, srt_len]; omega))) H (lA 0 rfl own_rd l0) rfl rfl (e_fn kn55 rfl rfl) ?_
      rintro _ _ w ⟨rfl, rfl⟩ H
      refine s_val rfl rfl (r_notP rfl rfl) ?_
      refine s_val rfl rfl (r_pickF rfl rfl rfl) ?_
      refine s_val rfl rfl (r_mv rfl rfl) ?_
      refine s_dec (d := 24) (p := ¬ (Ord (srt ps))) rfl (fun h14 => ?_) (fun h14 => ?_)
      · exact absurd (srt_ord ps) h14
      · skip
        refine s_val rfl rfl (r_mv rfl rfl) ?_
        replace H : Hd _ _ _ [osl kPair (.slice A8 ((srt ps).length) c9) (srt ps)] [rsl kPair (.slice A1 ps.length c2) ps] := H
        refine sc (pairSort_ok (.slice A8 ((srt ps).length) c9) (srt ps) (by first | omega | decide | (simp only [List.length_append, List.length_cons, List.length_nil, srt_len]; omega))) H (lA 0 rfl own_rd l0) rfl rfl (e_fn kn54 rfl rfl) ?_
        rintro v15 _ w rfl H
        refine s_val rfl rfl (r_mv rfl rfl) ?_
        refine sc (samePairs_ok v15 (.slice A8 ((srt ps).length) c9) (srt (srt ps)) (srt ps)) H (lA 0 rfl own_rd (lA 1 rfl own_rd l0)) rfl rfl (e_fn kn48 rfl rfl) ?_
        rintro _ _ w ⟨rfl, rfl⟩ H
        refine s_val rfl rfl (r_notP rfl rfl) ?_
        refine s_val rfl rfl (r_pickF rfl rfl rfl) ?_
        refine s_nil ?_
        refine q_then ?_
        replace H : Hd _ _ _ [osl kPair v15 (srt (srt ps)), osl kPair (.slice A8 ((srt ps).length) c9) (srt ps)] [rsl kPair (.slice A1 ps.length c2) ps] := H
        refine c_env [(0, .slice A1 ps.length c2), (2, .bool false), (3, .slice A8 ((srt ps).length) c9), (30, .bool (decide (¬ ((srt (srt ps)) = (srt ps)))))] ⟨rfl, rfl, rfl, rfl, trivial⟩ ?_
        refine c_dec (p := ¬ ((srt (srt ps)) = (srt ps))) rfl (fun h16 => ?_) (fun h16 => ?_)
        · exact absurd (srt_srt ps) h16
        · skip
          refine c_skip ?_
          refine q_then ?_
          refine c_env [(0, .slice A1 ps.length c2), (2, .bool false), (3, .slice A8 ((srt ps).length) c9)] ⟨rfl, rfl, rfl, trivial⟩ ?_
          refine c_seq ?_
          refine c_reg ?_
          refine s_val rfl rfl (r_mv rfl rfl) ?_
          refine sc (pKeys_ok (.slice A1 ps.length c2) ps (by first | omega | decide | (simp only [List.length_append, List.length_cons, List.length_nil, srt_len]; omega))) H (lR 0 rfl l0) rfl rfl (e_fn kn75 rfl rfl) ?_
          rintro v17 _ w rfl H
          refine s_val rfl rfl (r_as rfl rfl) ?_
          refine s_nil ?_
          refine q_then ?_
          replace H : Hd _ _ _ [osl kStr v17 (keysL ps), osl kPair v15 (srt (srt ps)), osl kPair (.slice A8 ((srt ps).length) c9) (srt ps)] [rsl kPair (.slice A1 ps.length c2) ps] := H
          refine c_env [(0, .slice A1 ps.length c2), (2, .bool false), (3, .slice A8 ((srt ps).length) c9), (4, v17)] ⟨rfl, rfl, rfl, rfl, trivial⟩ ?_
          refine c_seq ?_
          refine c_reg ?_
          refine s_val rfl rfl (r_as rfl rfl) ?_
          refine s_nil ?_
          refine q_then ?_
          refine c_env [(0, .slice A1 ps.length c2), (2, .bool false), (3, .slice A8 ((srt ps).length) c9), (4, v17), (5, .int .i64 0)] ⟨rfl, rfl, rfl, rfl, rfl, trivial⟩ ?_
          refine c_seq ?_
          refine c_seq ?_
          refine c_reg ?_
          refine s_val rfl rfl (r_as rfl rfl) ?_
          refine s_nil ?_
          refine q_then ?_
          refine c_env [(0, .slice A1 ps.length c2), (2, .bool false), (3, .slice A8 ((srt ps).length) c9), (4, v17), (5, .int .i64 0), (6, .int .i64 0)] ⟨rfl, rfl, rfl, rfl, rfl, rfl, trivial⟩ ?_
          refine c_block ?_
          obtain ⟨A18, c19, rfl, hc20, hm21, hp22⟩ := H.fA 0 rfl
          replace H := H.pick 2 rfl
          replace H := H.keep 2
          refine c_loop (σ := Nat) (fun i => [(0, .slice A1 ps.length c2), (3, .slice A8 ((srt ps).length) c9), (4, .slice A18 ((keysL ps).length) c19), (5, .int .i64 (((flatP ps ((keysL ps).take i)).length : Nat) : Int)), (6, .int .i64 ((i : Nat) : Int))]) (fun i w => (Hd w0 F0 w [osl kPair (.slice A8 ((srt ps).length) c9) (srt ps), osl kStr (.slice A18 ((keysL ps).length) c19) (keysL ps)] [rsl kPair (.slice A1 ps.length c2) ps]) ∧ (i ≤ (keysL ps).length)) (fun i => (keysL ps).length - i) 0 ⟨rfl, rfl, rfl, rfl, rfl, trivial⟩ ⟨H, by omega⟩ ?_
          rintro i w ⟨H, hi⟩
          have hkl := keysL_len ps
          have hbb0 := flatP_lenK ps i
          have hsl0 := srt_len ps
          refine c_seq ?_
          refine c_seq ?_
          refine c_reg ?_
          refine s_val rfl rfl (r_mv rfl rfl) ?_
          refine s_val rfl rfl (r_mv rfl rfl) ?_
          refine s_val rfl rfl (r_lenL rfl un66 rfl) ?_
          refine s_val rfl rfl (r_lt rfl rfl rfl) ?_
          refine s_nil ?_
          refine q_then ?_
          refine c_env [(0, .slice A1 ps.length c2), (3, .slice A8 ((srt ps).length) c9), (4, .slice A18 ((keysL ps).length) c19), (5, .int .i64 (((flatP ps ((keysL ps).take i)).length : Nat) : Int)), (6, .int .i64 ((i : Nat) : Int)), (36, .bool (decide (((i : Nat) : Int) < (((keysL ps).length : Nat) : Int))))] ⟨rfl, rfl, rfl, rfl, rfl, rfl, trivial⟩ ?_
          refine c_dec (p := ((i : Nat) : Int) < (((keysL ps).length : Nat) : Int)) rfl (fun h23 => ?_) (fun h23 => ?_)
          · skip
            refine c_skip ?_
            refine q_then ?_
            refine c_env [(0, .slice A1 ps.length c2), (3, .slice A8 ((srt ps).length) c9), (4, .slice A18 ((keysL ps).length) c19), (5, .int .i64 (((flatP ps ((keysL ps).take i)).length : Nat) : Int)), (6, .int .i64 ((i : Nat) : Int))] ⟨rfl, rfl, rfl, rfl, rfl, trivial⟩ ?_
            refine c_seq ?_
            refine c_block ?_
            refine c_seq ?_
            refine c_reg ?_
            refine s_val rfl rfl (r_mv rfl rfl) ?_
            refine s_val rfl rfl (r_mv rfl rfl) ?_
            refine s_val rfl rfl (r_mv rfl rfl) ?_
            obtain ⟨x24, hx25⟩ : ∃ z9, (keysL ps)[i]? = some z9 := ⟨_, List.getElem?_eq_getElem (show i < (keysL ps).length by omega)⟩
            have th26 := H.thA 1 rfl hx25
            refine s_val rfl rfl (r_iaE (p := oOf A18 + i * 1) rfl sl66 rfl rfl (by omega) (by omega) th26 rfl) ?_
            refine s_val rfl rfl (r_ld rfl ty9 rfl (H.elA 1 rfl hx25 (q := 0) rfl rfl)) ?_
            refine sc (pOf_ok (.slice A1 ps.length c2) ps x24 (by first | omega | decide | (simp only [List.length_append, List.length_cons, List.length_nil, srt_len]; omega))) H (lR 0 rfl l0) rfl rfl (e_fn kn57 rfl rfl) ?_
            rintro v27 _ w rfl H
            refine s_val rfl rfl (r_as rfl rfl) ?_
            refine s_nil ?_
            refine q_then ?_
            replace H : Hd _ _ _ [osl kStr v27 (ofL ps x24), osl kPair (.slice A8 ((srt ps).length) c9) (srt ps), osl kStr (.slice A18 ((keysL ps).length) c19) (keysL ps)] [rsl kPair (.slice A1 ps.length c2) ps] := H
            refine c_env [(0, .slice A1 ps.length c2), (3, .slice A8 ((srt ps).length) c9), (4, .slice A18 ((keysL ps).length) c19), (5, .int .i64 (((flatP ps ((keysL ps).take i)).length : Nat) : Int)), (6, .int .i64 ((i : Nat) : Int)), (7, v27)] ⟨rfl, rfl, rfl, rfl, rfl, rfl, trivial⟩ ?_
            refine c_seq ?_
            refine c_seq ?_
            replace H := H.pick 2 rfl
            replace H := H.pick 2 rfl
            replace H : Hd _ _ _ [osl kPair (.slice A8 ((srt ps).length) c9) (srt ps), osl kStr (.slice A18 ((keysL ps).length) c19) (keysL ps), osl kStr v27 (ofL ps x24)] [rsl kPair (.slice A1 ps.length c2) ps] := H
            refine c_ord (.e 0 (.e 1 (.e 2 (.e 3 (.e 4 (.e 5 (.e 6 (.e 7 (.e 8 (.e 9 (.e 10 (.e 11 (.e 12 (.e 13 (.e 14 (.e 15 (.e 16 (.e 17 (.e 18 (.e 19 (.e 20 (.e 21 (.e 22 (.e 23 (.e 24 (.e 26 (.m 25 (.m 27 (.e 28 (.e 29 .z)))))))))))))))))))))))))))))) (fun w => ∃ Ar, Hd w0 F0 w (osl kPair (.slice A8 ((srt ps).length) c9) (srt ps) :: osl kStr (.slice A18 ((keysL ps).length) c19) (keysL ps) :: Ar) [rsl kPair (.slice A1 ps.length c2) ps]) mo (by kernel_rfl) (fun w H => ⟨_, H⟩) H (fun w H => ?_)
            refine d_val rfl rfl rfl (fun w ⟨Ar, H⟩ => r_mv rfl rfl) ?_
            refine d_val rfl rfl rfl (fun w ⟨Ar, H⟩ => r_gt rfl rfl rfl) ?_
            refine d_val rfl rfl rfl (fun w ⟨Ar, H⟩ => r_mv rfl rfl) ?_
            refine d_dec (d := 47) (p := (0 : Int) < ((i : Nat) : Int)) rfl (fun h28 => ?_) (fun h28 => ?_)
            · skip
              refine d_val rfl rfl rfl (fun w ⟨Ar, H⟩ => r_mv rfl rfl) ?_
              refine d_val rfl rfl rfl (fun w ⟨Ar, H⟩ => r_mv rfl rfl) ?_
              refine d_val rfl rfl rfl (fun w ⟨Ar, H⟩ => r_sub (z := ((i - 1 : Nat) : Int)) rfl rfl rfl (by rw [w64 (by omega) (by omega)]; omega)) ?_
              obtain ⟨x29, hx30⟩ : ∃ z9, (keysL ps)[i - 1]? = some z9 := ⟨_, List.getElem?_eq_getElem (show i - 1 < (keysL ps).length by omega)⟩
              have th31 := H.thA 1 rfl hx30
              refine d_val rfl rfl rfl (fun w ⟨Ar, H⟩ => r_iaE (p := oOf A18 + (i - 1) * 1) rfl sl66 rfl rfl (by omega) (by omega) th31 rfl) ?_
              refine d_val rfl rfl rfl (fun w ⟨Ar, H⟩ => r_ld rfl ty9 rfl (H.elA 1 rfl hx30 (q := 0) rfl rfl)) ?_
              refine d_val rfl rfl rfl (fun w ⟨Ar, H⟩ => r_mv rfl rfl) ?_
              refine d_val rfl rfl rfl (fun w ⟨Ar, H⟩ => r_mv rfl rfl) ?_
              have th32 := H.thA 1 rfl hx25
              refine d_val rfl rfl rfl (fun w ⟨Ar, H⟩ => r_iaE (p := oOf A18 + i * 1) rfl sl66 rfl rfl (by omega) (by omega) th32 rfl) ?_
              refine d_val rfl rfl rfl (fun w ⟨Ar, H⟩ => r_ld rfl ty9 rfl (H.elA 1 rfl hx25 (q := 0) rfl rfl)) ?_
              refine d_val rfl rfl rfl (fun w ⟨Ar, H⟩ => r_geS rfl rfl rfl) ?_
              refine d_val rfl rfl rfl (fun w ⟨Ar, H⟩ => r_pickT rfl rfl rfl) ?_
              refine d_val rfl rfl rfl (fun w ⟨Ar, H⟩ => r_mv rfl rfl) ?_
              refine d_boo (d := 59) (b := !(ltS x29 x24)) rfl (fun h33 => ?_) (fun h33 => ?_)
              · exact absurd (keys_lt (by omega) hx30 hx25) (by simpa using h33)
              · skip
                refine d_val rfl rfl rfl (fun w ⟨Ar, H⟩ => r_mv rfl rfl) ?_
                obtain ⟨A34, c35, rfl, hc36, hm37, hp38⟩ := H.fA 2 rfl
                refine d_val rfl rfl rfl (fun w ⟨Ar, H⟩ => r_lenL rfl un66 rfl) ?_
                refine d_val rfl rfl rfl (fun w ⟨Ar, H⟩ => r_eq rfl rfl rfl) ?_
                refine d_val rfl rfl rfl (fun w ⟨Ar, H⟩ => r_pickF rfl rfl rfl) ?_
                refine d_val rfl rfl rfl (fun w ⟨Ar, H⟩ => r_mv rfl rfl) ?_
                refine d_dec (d := 64) (p := (((ofL ps x24).length : Nat) : Int) = 0) rfl (fun h39 => ?_) (fun h39 => ?_)
                · exact absurd (of_some hx25) (by omega)
                · skip
                  refine d_val rfl rfl rfl (fun w ⟨Ar, H⟩ => r_mv rfl rfl) ?_
                  refine d_val rfl rfl rfl (fun w ⟨Ar, H⟩ => r_mv rfl rfl) ?_
                  refine d_val rfl rfl rfl (fun w ⟨Ar, H⟩ => r_mv rfl rfl) ?_
                  have th40 := H.thA 1 rfl hx25
                  refine d_val rfl rfl rfl (fun w ⟨Ar, H⟩ => r_iaE (p := oOf A18 + i * 1) rfl sl66 rfl rfl (by omega) (by omega) th40 rfl) ?_
                  refine d_val rfl rfl rfl (fun w ⟨Ar, H⟩ => r_ld rfl ty9 rfl (H.elA 1 rfl hx25 (q := 0) rfl rfl)) ?_
                  refine d_val rfl rfl rfl (fun w ⟨Ar, H⟩ => r_mv rfl rfl) ?_
                  refine d_main rfl ?_
                  replace H : Hd _ _ _ [osl kPair (.slice A8 ((srt ps).length) c9) (srt ps), osl kStr (.slice A18 ((keysL ps).length) c19) (keysL ps), osl kStr (.slice A34 ((ofL ps x24).length) c35) (ofL ps x24)] [rsl kPair (.slice A1 ps.length c2) ps] := H
                  refine sc (pOf_ok (.slice A8 ((srt ps).length) c9) (srt ps) x24 (by first | omega | decide | (simp only [List.length_append, List.length_cons, List.length_nil, srt_len]; omega))) H (lA 0 rfl own_rd l0) rfl rfl (e_fn kn57 rfl rfl) ?_
                  rintro v41 _ w rfl H
                  replace H := H.pick 2 rfl
                  replace H := H.pick 2 rfl
                  replace H : Hd _ _ _ [osl kPair (.slice A8 ((srt ps).length) c9) (srt ps), osl kStr (.slice A18 ((keysL ps).length) c19) (keysL ps), osl kStr v41 (ofL (srt ps) x24), osl kStr (.slice A34 ((ofL ps x24).length) c35) (ofL ps x24)] [rsl kPair (.slice A1 ps.length c2) ps] := H
                  refine d_back ⟨_, H⟩ ?_
                  refine d_main rfl ?_
                  refine sc (sameTexts_ok v41 (.slice A34 ((ofL ps x24).length) c35) (ofL (srt ps) x24) (ofL ps x24)) H (lA 2 rfl own_rd (lA 3 rfl own_rd l0)) rfl rfl (e_fn kn59 rfl rfl) ?_
                  rintro _ _ w ⟨rfl, rfl⟩ H
                  replace H := H.pick 1 rfl
                  replace H := H.pick 1 rfl
                  replace H : Hd _ _ _ [osl kPair (.slice A8 ((srt ps).length) c9) (srt ps), osl kStr (.slice A18 ((keysL ps).length) c19) (keysL ps), osl kStr v41 (ofL (srt ps) x24), osl kStr (.slice A34 ((ofL ps x24).length) c35) (ofL ps x24)] [rsl kPair (.slice A1 ps.length c2) ps] := H
                  refine d_back ⟨_, H⟩ ?_
                  refine d_val rfl rfl rfl (fun w ⟨Ar, H⟩ => r_notP rfl rfl) ?_
                  refine d_val rfl rfl rfl (fun w ⟨Ar, H⟩ => r_pickF rfl rfl rfl) ?_
                  refine d_nil ?_
                  refine q_then ?_
                  refine c_env [(0, .slice A1 ps.length c2), (3, .slice A8 ((srt ps).length) c9), (4, .slice A18 ((keysL ps).length) c19), (5, .int .i64 (((flatP ps ((keysL ps).take i)).length : Nat) : Int)), (6, .int .i64 ((i : Nat) : Int)), (7, .slice A34 ((ofL ps x24).length) c35), (74, .bool (decide (¬ ((ofL (srt ps) x24) = (ofL ps x24)))))] ⟨rfl, rfl, rfl, rfl, rfl, rfl, rfl, trivial⟩ ?_
                  refine c_dec (p := ¬ ((ofL (srt ps) x24) = (ofL ps x24))) rfl (fun h42 => ?_) (fun h42 => ?_)
                  · exact absurd (of_stab (srt_stab ps) _).symm h42
                  · skip
                    refine c_skip ?_
                    refine q_then ?_
                    refine c_env [(0, .slice A1 ps.length c2), (3, .slice A8 ((srt ps).length) c9), (4, .slice A18 ((keysL ps).length) c19), (5, .int .i64 (((flatP ps ((keysL ps).take i)).length : Nat) : Int)), (6, .int .i64 ((i : Nat) : Int)), (7, .slice A34 ((ofL ps x24).length) c35)] ⟨rfl, rfl, rfl, rfl, rfl, rfl, trivial⟩ ?_
                    refine c_seq ?_
                    refine c_reg ?_
                    refine s_val rfl rfl (r_as rfl rfl) ?_
                    refine s_nil ?_
                    refine q_then ?_
                    refine c_env [(0, .slice A1 ps.length c2), (3, .slice A8 ((srt ps).length) c9), (4, .slice A18 ((keysL ps).length) c19), (5, .int .i64 (((flatP ps ((keysL ps).take i)).length : Nat) : Int)), (6, .int .i64 ((i : Nat) : Int)), (7, .slice A34 ((ofL ps x24).length) c35), (8, .int .i64 0)] ⟨rfl, rfl, rfl, rfl, rfl, rfl, rfl, trivial⟩ ?_
                    refine c_block ?_
                    have hfl2 := congrArg List.length (flatP_step (ps := ps) hx25)
                    rw [List.length_append, pairsOf_len] at hfl2
                    have hbb := flatP_lenK ps (i + 1)
                    have hsl := srt_len ps
                    replace H := H.pick 3 rfl
                    replace H := H.pick 2 rfl
                    replace H := H.pick 2 rfl
                    replace H := H.keep 3
                    refine c_loop (σ := Nat) (fun k => [(0, .slice A1 ps.length c2), (3, .slice A8 ((srt ps).length) c9), (4, .slice A18 ((keysL ps).length) c19), (5, .int .i64 (((flatP ps ((keysL ps).take i)).length + k : Nat) : Int)), (6, .int .i64 ((i : Nat) : Int)), (7, .slice A34 ((ofL ps x24).length) c35), (8, .int .i64 ((k : Nat) : Int))]) (fun k w => (Hd w0 F0 w [osl kPair (.slice A8 ((srt ps).length) c9) (srt ps), osl kStr (.slice A18 ((keysL ps).length) c19) (keysL ps), osl kStr (.slice A34 ((ofL ps x24).length) c35) (ofL ps x24)] [rsl kPair (.slice A1 ps.length c2) ps]) ∧ (k ≤ (ofL ps x24).length)) (fun k => (ofL ps x24).length - k) 0 ⟨rfl, rfl, rfl, rfl, rfl, rfl, rfl, trivial⟩ ⟨H, by omega⟩ ?_
                    rintro k w ⟨H, hk⟩
                    refine c_seq ?_
                    refine c_seq ?_
                    refine c_reg ?_
                    refine s_val rfl rfl (r_mv rfl rfl) ?_
                    refine s_val rfl rfl (r_mv rfl rfl) ?_
                    refine s_val rfl rfl (r_lenL rfl un66 rfl) ?_
                    refine s_val rfl rfl (r_lt rfl rfl rfl) ?_
                    refine s_nil ?_
                    refine q_then ?_
                    refine c_env [(0, .slice A1 ps.length c2), (3, .slice A8 ((srt ps).length) c9), (4, .slice A18 ((keysL ps).length) c19), (5, .int .i64 (((flatP ps ((keysL ps).take i)).length + k : Nat) : Int)), (6, .int .i64 ((i : Nat) : Int)), (7, .slice A34 ((ofL ps x24).length) c35), (8, .int .i64 ((k : Nat) : Int)), (78, .bool (decide (((k : Nat) : Int) < (((ofL ps x24).length : Nat) : Int))))] ⟨rfl, rfl, rfl, rfl, rfl, rfl, rfl, rfl, trivial⟩ ?_
                    refine c_dec (p := ((k : Nat) : Int) < (((ofL ps x24).length : Nat) : Int)) rfl (fun h43 => ?_) (fun h43 => ?_)
                    · skip
                      refine c_skip ?_
                      refine q_then ?_
                      refine c_env [(0, .slice A1 ps.length c2), (3, .slice A8 ((srt ps).length) c9), (4, .slice A18 ((keysL ps).length) c19), (5, .int .i64 (((flatP ps ((keysL ps).take i)).length + k : Nat) : Int)), (6, .int .i64 ((i : Nat) : Int)), (7, .slice A34 ((ofL ps x24).length) c35), (8, .int .i64 ((k : Nat) : Int))] ⟨rfl, rfl, rfl, rfl, rfl, rfl, rfl, trivial⟩ ?_
                      refine c_seq ?_
                      refine c_block ?_
                      refine c_seq ?_
                      refine c_seq ?_
                      refine c_draw mo (by kernel_rfl) H ?_
                      refine u_val rfl rfl (fun w H => r_mv rfl rfl) ?_
                      refine u_val rfl rfl (fun w H => r_mv rfl rfl) ?_
                      obtain ⟨x44, hx45⟩ : ∃ z9, (srt ps)[(flatP ps ((keysL ps).take i)).length + k]? = some z9 := ⟨_, List.getElem?_eq_getElem (show (flatP ps ((keysL ps).take i)).length + k < (srt ps).length by omega)⟩
                      have th46 := H.thA 0 rfl hx45
                      refine u_val rfl rfl (fun w H => r_iaE (p := oOf A8 + ((flatP ps ((keysL ps).take i)).length + k) * 2) rfl sl54 rfl rfl (by omega) (by omega) th46 rfl) ?_
                      refine u_val rfl rfl (fun w H => r_fa rfl fo91_0 rfl) ?_
                      refine u_val rfl rfl (fun w H => r_ld rfl ty9 rfl (H.elA 0 rfl hx45 (q := 0) rfl rfl)) ?_
                      refine u_val rfl rfl (fun w H => r_mv rfl rfl) ?_
                      refine u_val rfl rfl (fun w H => r_mv rfl rfl) ?_
                      have th47 := H.thA 1 rfl hx25
                      refine u_val rfl rfl (fun w H => r_iaE (p := oOf A18 + i * 1) rfl sl66 rfl rfl (by omega) (by omega) th47 rfl) ?_
                      refine u_val rfl rfl (fun w H => r_ld rfl ty9 rfl (H.elA 1 rfl hx25 (q := 0) rfl rfl)) ?_
                      refine u_val rfl rfl (fun w H => r_neS rfl rfl rfl) ?_
                      refine u_val rfl rfl (fun w H => r_mv rfl rfl) ?_
                      refine u_dec (d := 91) (p := x44.key ≠ x24) rfl (fun h48 => ?_) (fun h48 => ?_)
                      · exact absurd (by have e := (srt_at hx25 (List.getElem?_eq_getElem (show k < (ofL ps x24).length by omega))).symm.trans hx45; rw [← Option.some.inj e]) h48
                      · skip
                        refine u_val rfl rfl (fun w H => r_mv rfl rfl) ?_
                        refine u_val rfl rfl (fun w H => r_mv rfl rfl) ?_
                        have th49 := H.thA 0 rfl hx45
                        refine u_val rfl rfl (fun w H => r_iaE (p := oOf A8 + ((flatP ps ((keysL ps).take i)).length + k) * 2) rfl sl54 rfl rfl (by omega) (by omega) th49 rfl) ?_
                        refine u_val rfl rfl (fun w H => r_fa rfl fo91_1 rfl) ?_
                        refine u_val rfl rfl (fun w H => r_ld rfl ty9 rfl (H.elA 0 rfl hx45 (q := 1) rfl rfl)) ?_
                        refine u_val rfl rfl (fun w H => r_mv rfl rfl) ?_
                        refine u_val rfl rfl (fun w H => r_mv rfl rfl) ?_
                        obtain ⟨x50, hx51⟩ : ∃ z9, (ofL ps x24)[k]? = some z9 := ⟨_, List.getElem?_eq_getElem (show k < (ofL ps x24).length by omega)⟩
                        have th52 := H.thA 2 rfl hx51
                        refine u_val rfl rfl (fun w H => r_iaE (p := oOf A34 + k * 1) rfl sl66 rfl rfl (by omega) (by omega) th52 rfl) ?_
                        refine u_val rfl rfl (fun w H => r_ld rfl ty9 rfl (H.elA 2 rfl hx51 (q := 0) rfl rfl)) ?_
                        refine u_val rfl rfl (fun w H => r_neS rfl rfl rfl) ?_
                        refine u_val rfl rfl (fun w H => r_pickF rfl rfl rfl) ?_
                        refine u_end (fun w H => ?_)
                        refine q_then ?_
                        refine c_env [(0, .slice A1 ps.length c2), (3, .slice A8 ((srt ps).length) c9), (4, .slice A18 ((keysL ps).length) c19), (5, .int .i64 (((flatP ps ((keysL ps).take i)).length + k : Nat) : Int)), (6, .int .i64 ((i : Nat) : Int)), (7, .slice A34 ((ofL ps x24).length) c35), (8, .int .i64 ((k : Nat) : Int)), (102, .bool (decide (x44.val ≠ x50)))] ⟨rfl, rfl, rfl, rfl, rfl, rfl, rfl, rfl, trivial⟩ ?_
                        refine c_dec (p := x44.val ≠ x50) rfl (fun h53 => ?_) (fun h53 => ?_)
                        · exact absurd (by have e := (srt_at hx25 hx51).symm.trans hx45; rw [← Option.some.inj e]) h53
                        · skip
                          refine c_skip ?_
                          refine q_then ?_
                          refine c_env [(0, .slice A1 ps.length c2), (3, .slice A8 ((srt ps).length) c9), (4, .slice A18 ((keysL ps).length) c19), (5, .int .i64 (((flatP ps ((keysL ps).take i)).length + k : Nat) : Int)), (6, .int .i64 ((i : Nat) : Int)), (7, .slice A34 ((ofL ps x24).length) c35), (8, .int .i64 ((k : Nat) : Int))] ⟨rfl, rfl, rfl, rfl, rfl, rfl, rfl, trivial⟩ ?_
                          refine c_reg ?_
                          refine s_val rfl rfl (r_mv rfl rfl) ?_
                          refine s_val rfl rfl (r_add (z := (((flatP ps ((keysL ps).take i)).length + k + 1 : Nat) : Int)) rfl rfl rfl (by rw [w64 (by omega) (by omega)]; omega)) ?_
                          refine s_val rfl rfl (r_as rfl rfl) ?_
                          refine s_nil ?_
                          refine q_blockN ?_
                          refine q_then ?_
                          refine c_env [(0, .slice A1 ps.length c2), (3, .slice A8 ((srt ps).length) c9), (4, .slice A18 ((keysL ps).length) c19), (5, .int .i64 (((flatP ps ((keysL ps).take i)).length + k + 1 : Nat) : Int)), (6, .int .i64 ((i : Nat) : Int)), (7, .slice A34 ((ofL ps x24).length) c35), (8, .int .i64 ((k : Nat) : Int))] ⟨rfl, rfl, rfl, rfl, rfl, rfl, rfl, trivial⟩ ?_
                          refine c_reg ?_
                          refine s_val rfl rfl (r_mv rfl rfl) ?_
                          refine s_val rfl rfl (r_add (z := ((k + 1 : Nat) : Int)) rfl rfl rfl (by rw [w64 (by omega) (by omega)]; omega)) ?_
                          refine s_val rfl rfl (r_as rfl rfl) ?_
                          refine s_nil ?_
                          replace H := H.pick 2 rfl
                          replace H := H.pick 2 rfl
                          replace H := H.pick 2 rfl
                          exact q_round (s := k) (k + 1) ⟨rfl, rfl, rfl, rfl, rfl, rfl, rfl, trivial⟩ ⟨H, by (try dsimp only); omega⟩ (by (try dsimp only); omega)
                    · skip
                      refine c_exit ?_
                      refine q_thenE ?_
                      refine q_thenE ?_
                      refine q_blockE ?_
                      refine q_blockN ?_
                      refine q_then ?_
                      refine c_env [(0, .slice A1 ps.length c2), (3, .slice A8 ((srt ps).length) c9), (4, .slice A18 ((keysL ps).length) c19), (5, .int .i64 (((flatP ps ((keysL ps).take i)).length + k : Nat) : Int)), (6, .int .i64 ((i : Nat) : Int))] ⟨rfl, rfl, rfl, rfl, rfl, trivial⟩ ?_
                      refine c_reg ?_
                      refine s_val rfl rfl (r_mv rfl rfl) ?_
                      refine s_val rfl rfl (r_add (z := ((i + 1 : Nat) : Int)) rfl rfl rfl (by rw [w64 (by omega) (by omega)]; omega)) ?_
                      refine s_val rfl rfl (r_as rfl rfl) ?_
                      refine s_nil ?_
                      have hst := congrArg List.length (flatP_step (ps := ps) hx25)
                      rw [List.length_append, pairsOf_len] at hst
                      replace H := H.pick 1 rfl
                      replace H := H.pick 1 rfl
                      replace H := H.keep 2
                      exact q_round (s := i) (i + 1) ⟨rfl, rfl, rfl, congrArg (fun z => some (Value.int .i64 z)) (by (try dsimp only); omega), rfl, trivial⟩ ⟨H, by (try dsimp only); omega⟩ (by (try dsimp only); omega)
            · skip
              refine d_no rfl rfl rfl ?_
              refine d_no rfl rfl rfl ?_
              refine d_no rfl rfl rfl ?_
              refine d_no rfl rfl rfl ?_
              refine d_no rfl rfl rfl ?_
              refine d_no rfl rfl rfl ?_
              refine d_no rfl rfl rfl ?_
              refine d_no rfl rfl rfl ?_
              refine d_no rfl rfl rfl ?_
              refine d_no rfl rfl rfl ?_
              refine d_val rfl rfl rfl (fun w ⟨Ar, H⟩ => r_pickF rfl rfl rfl) ?_
              refine d_val rfl rfl rfl (fun w ⟨Ar, H⟩ => r_mv rfl rfl) ?_
              refine d_val rfl rfl rfl (fun w ⟨Ar, H⟩ => r_mv rfl rfl) ?_
              obtain ⟨A54, c55, rfl, hc56, hm57, hp58⟩ := H.fA 2 rfl
              refine d_val rfl rfl rfl (fun w ⟨Ar, H⟩ => r_lenL rfl un66 rfl) ?_
              refine d_val rfl rfl rfl (fun w ⟨Ar, H⟩ => r_eq rfl rfl rfl) ?_
              refine d_val rfl rfl rfl (fun w ⟨Ar, H⟩ => r_pickF rfl rfl rfl) ?_
              refine d_val rfl rfl rfl (fun w ⟨Ar, H⟩ => r_mv rfl rfl) ?_
              refine d_dec (d := 64) (p := (((ofL ps x24).length : Nat) : Int) = 0) rfl (fun h59 => ?_) (fun h59 => ?_)
              · exact absurd (of_some hx25) (by omega)
              · skip
                refine d_val rfl rfl rfl (fun w ⟨Ar, H⟩ => r_mv rfl rfl) ?_
                refine d_val rfl rfl rfl (fun w ⟨Ar, H⟩ => r_mv rfl rfl) ?_
                refine d_val rfl rfl rfl (fun w ⟨Ar, H⟩ => r_mv rfl rfl) ?_
                have th60 := H.thA 1 rfl hx25
                refine d_val rfl rfl rfl (fun w ⟨Ar, H⟩ => r_iaE (p := oOf A18 + i * 1) rfl sl66 rfl rfl (by omega) (by omega) th60 rfl) ?_
                refine d_val rfl rfl rfl (fun w ⟨Ar, H⟩ => r_ld rfl ty9 rfl (H.elA 1 rfl hx25 (q := 0) rfl rfl)) ?_
                refine d_val rfl rfl rfl (fun w ⟨Ar, H⟩ => r_mv rfl rfl) ?_
                refine d_main rfl ?_
                replace H : Hd _ _ _ [osl kPair (.slice A8 ((srt ps).length) c9) (srt ps), osl kStr (.slice A18 ((keysL ps).length) c19) (keysL ps), osl kStr (.slice A54 ((ofL ps x24).length) c55) (ofL ps x24)] [rsl kPair (.slice A1 ps.length c2) ps] := H
                refine sc (pOf_ok (.slice A8 ((srt ps).length) c9) (srt ps) x24 (by first | omega | decide | (simp only [List.length_append, List.length_cons, List.length_nil, srt_len]; omega))) H (lA 0 rfl own_rd l0) rfl rfl (e_fn kn57 rfl rfl) ?_
                rintro v61 _ w rfl H
                replace H := H.pick 2 rfl
                replace H := H.pick 2 rfl
                replace H : Hd _ _ _ [osl kPair (.slice A8 ((srt ps).length) c9) (srt ps), osl kStr (.slice A18 ((keysL ps).length) c19) (keysL ps), osl kStr v61 (ofL (srt ps) x24), osl kStr (.slice A54 ((ofL ps x24).length) c55) (ofL ps x24)] [rsl kPair (.slice A1 ps.length c2) ps] := H
                refine d_back ⟨_, H⟩ ?_
                refine d_main rfl ?_
                refine sc (sameTexts_ok v61 (.slice A54 ((ofL ps x24).length) c55) (ofL (srt ps) x24) (ofL ps x24)) H (lA 2 rfl own_rd (lA 3 rfl own_rd l0)) rfl rfl (e_fn kn59 rfl rfl) ?_
                rintro _ _ w ⟨rfl, rfl⟩ H
                replace H := H.pick 1 rfl
                replace H := H.pick 1 rfl
                replace H : Hd _ _ _ [osl kPair (.slice A8 ((srt ps).length) c9) (srt ps), osl kStr (.slice A18 ((keysL ps).length) c19) (keysL ps), osl kStr v61 (ofL (srt ps) x24), osl kStr (.slice A54 ((ofL ps x24).length) c55) (ofL ps x24)] [rsl kPair (.slice A1 ps.length c2) ps] := H
                refine d_back ⟨_, H⟩ ?_
                refine d_val rfl rfl rfl (fun w ⟨Ar, H⟩ => r_notP rfl rfl) ?_
                refine d_val rfl rfl rfl (fun w ⟨Ar, H⟩ => r_pickF rfl rfl rfl) ?_
                refine d_nil ?_
                refine q_then ?_
                refine c_env [(0, .slice A1 ps.length c2), (3, .slice A8 ((srt ps).length) c9), (4, .slice A18 ((keysL ps).length) c19), (5, .int .i64 (((flatP ps ((keysL ps).take i)).length : Nat) : Int)), (6, .int .i64 ((i : Nat) : Int)), (7, .slice A54 ((ofL ps x24).length) c55), (74, .bool (decide (¬ ((ofL (srt ps) x24) = (ofL ps x24)))))] ⟨rfl, rfl, rfl, rfl, rfl, rfl, rfl, trivial⟩ ?_
                refine c_dec (p := ¬ ((ofL (srt ps) x24) = (ofL ps x24))) rfl (fun h62 => ?_) (fun h62 => ?_)
                · exact absurd (of_stab (srt_stab ps) _).symm h62
                · skip
                  refine c_skip ?_
                  refine q_then ?_
                  refine c_env [(0, .slice A1 ps.length c2), (3, .slice A8 ((srt ps).length) c9), (4, .slice A18 ((keysL ps).length) c19), (5, .int .i64 (((flatP ps ((keysL ps).take i)).length : Nat) : Int)), (6, .int .i64 ((i : Nat) : Int)), (7, .slice A54 ((ofL ps x24).length) c55)] ⟨rfl, rfl, rfl, rfl, rfl, rfl, trivial⟩ ?_
                  refine c_seq ?_
                  refine c_reg ?_
                  refine s_val rfl rfl (r_as rfl rfl) ?_
                  refine s_nil ?_
                  refine q_then ?_
                  refine c_env [(0, .slice A1 ps.length c2), (3, .slice A8 ((srt ps).length) c9), (4, .slice A18 ((keysL ps).length) c19), (5, .int .i64 (((flatP ps ((keysL ps).take i)).length : Nat) : Int)), (6, .int .i64 ((i : Nat) : Int)), (7, .slice A54 ((ofL ps x24).length) c55), (8, .int .i64 0)] ⟨rfl, rfl, rfl, rfl, rfl, rfl, rfl, trivial⟩ ?_
                  refine c_block ?_
                  have hfl2 := congrArg List.length (flatP_step (ps := ps) hx25)
                  rw [List.length_append, pairsOf_len] at hfl2
                  have hbb := flatP_lenK ps (i + 1)
                  have hsl := srt_len ps
                  replace H := H.pick 3 rfl
                  replace H := H.pick 2 rfl
                  replace H := H.pick 2 rfl
                  replace H := H.keep 3
                  refine c_loop (σ := Nat) (fun k => [(0, .slice A1 ps.length c2), (3, .slice A8 ((srt ps).length) c9), (4, .slice A18 ((keysL ps).length) c19), (5, .int .i64 (((flatP ps ((keysL ps).take i)).length + k : Nat) : Int)), (6, .int .i64 ((i : Nat) : Int)), (7, .slice A54 ((ofL ps x24).length) c55), (8, .int .i64 ((k : Nat) : Int))]) (fun k w => (Hd w0 F0 w [osl kPair (.slice A8 ((srt ps).length) c9) (srt ps), osl kStr (.slice A18 ((keysL ps).length) c19) (keysL ps), osl kStr (.slice A54 ((ofL ps x24).length) c55) (ofL ps x24)] [rsl kPair (.slice A1 ps.length c2) ps]) ∧ (k ≤ (ofL ps x24).length)) (fun k => (ofL ps x24).length - k) 0 ⟨rfl, rfl, rfl, rfl, rfl, rfl, rfl, trivial⟩ ⟨H, by omega⟩ ?_
                  rintro k w ⟨H, hk⟩
                  refine c_seq ?_
                  refine c_seq ?_
                  refine c_reg ?_
                  refine s_val rfl rfl (r_mv rfl rfl) ?_
                  refine s_val rfl rfl (r_mv rfl rfl) ?_
                  refine s_val rfl rfl (r_lenL rfl un66 rfl) ?_
                  refine s_val rfl rfl (r_lt rfl rfl rfl) ?_
                  refine s_nil ?_
                  refine q_then ?_
                  refine c_env [(0, .slice A1 ps.length c2), (3, .slice A8 ((srt ps).length) c9), (4, .slice A18 ((keysL ps).length) c19), (5, .int .i64 (((flatP ps ((keysL ps).take i)).length + k : Nat) : Int)), (6, .int .i64 ((i : Nat) : Int)), (7, .slice A54 ((ofL ps x24).length) c55), (8, .int .i64 ((k : Nat) : Int)), (78, .bool (decide (((k : Nat) : Int) < (((ofL ps x24).length : Nat) : Int))))] ⟨rfl, rfl, rfl, rfl, rfl, rfl, rfl, rfl, trivial⟩ ?_
                  refine c_dec (p := ((k : Nat) : Int) < (((ofL ps x24).length : Nat) : Int)) rfl (fun h63 => ?_) (fun h63 => ?_)
                  · skip
                    refine c_skip ?_
                    refine q_then ?_
                    refine c_env [(0, .slice A1 ps.length c2), (3, .slice A8 ((srt ps).length) c9), (4, .slice A18 ((keysL ps).length) c19), (5, .int .i64 (((flatP ps ((keysL ps).take i)).length + k : Nat) : Int)), (6, .int .i64 ((i : Nat) : Int)), (7, .slice A54 ((ofL ps x24).length) c55), (8, .int .i64 ((k : Nat) : Int))] ⟨rfl, rfl, rfl, rfl, rfl, rfl, rfl, trivial⟩ ?_
                    refine c_seq ?_
                    refine c_block ?_
                    refine c_seq ?_
                    refine c_seq ?_
                    refine c_draw mo (by kernel_rfl) H ?_
                    refine u_val rfl rfl (fun w H => r_mv rfl rfl) ?_
                    refine u_val rfl rfl (fun w H => r_mv rfl rfl) ?_
                    obtain ⟨x64, hx65⟩ : ∃ z9, (srt ps)[(flatP ps ((keysL ps).take i)).length + k]? = some z9 := ⟨_, List.getElem?_eq_getElem (show (flatP ps ((keysL ps).take i)).length + k < (srt ps).length by omega)⟩
                    have th66 := H.thA 0 rfl hx65
                    refine u_val rfl rfl (fun w H => r_iaE (p := oOf A8 + ((flatP ps ((keysL ps).take i)).length + k) * 2) rfl sl54 rfl rfl (by omega) (by omega) th66 rfl) ?_
                    refine u_val rfl rfl (fun w H => r_fa rfl fo91_0 rfl) ?_
                    refine u_val rfl rfl (fun w H => r_ld rfl ty9 rfl (H.elA 0 rfl hx65 (q := 0) rfl rfl)) ?_
                    refine u_val rfl rfl (fun w H => r_mv rfl rfl) ?_
                    refine u_val rfl rfl (fun w H => r_mv rfl rfl) ?_
                    have th67 := H.thA 1 rfl hx25
                    refine u_val rfl rfl (fun w H => r_iaE (p := oOf A18 + i * 1) rfl sl66 rfl rfl (by omega) (by omega) th67 rfl) ?_
                    refine u_val rfl rfl (fun w H => r_ld rfl ty9 rfl (H.elA 1 rfl hx25 (q := 0) rfl rfl)) ?_
                    refine u_val rfl rfl (fun w H => r_neS rfl rfl rfl) ?_
                    refine u_val rfl rfl (fun w H => r_mv rfl rfl) ?_
                    refine u_dec (d := 91) (p := x64.key ≠ x24) rfl (fun h68 => ?_) (fun h68 => ?_)
                    · exact absurd (by have e := (srt_at hx25 (List.getElem?_eq_getElem (show k < (ofL ps x24).length by omega))).symm.trans hx65; rw [← Option.some.inj e]) h68
                    · skip
                      refine u_val rfl rfl (fun w H => r_mv rfl rfl) ?_
                      refine u_val rfl rfl (fun w H => r_mv rfl rfl) ?_
                      have th69 := H.thA 0 rfl hx65
                      refine u_val rfl rfl (fun w H => r_iaE (p := oOf A8 + ((flatP ps ((keysL ps).take i)).length + k) * 2) rfl sl54 rfl rfl (by omega) (by omega) th69 rfl) ?_
                      refine u_val rfl rfl (fun w H => r_fa rfl fo91_1 rfl) ?_
                      refine u_val rfl rfl (fun w H => r_ld rfl ty9 rfl (H.elA 0 rfl hx65 (q := 1) rfl rfl)) ?_
                      refine u_val rfl rfl (fun w H => r_mv rfl rfl) ?_
                      refine u_val rfl rfl (fun w H => r_mv rfl rfl) ?_
                      obtain ⟨x70, hx71⟩ : ∃ z9, (ofL ps x24)[k]? = some z9 := ⟨_, List.getElem?_eq_getElem (show k < (ofL ps x24).length by omega)⟩
                      have th72 := H.thA 2 rfl hx71
                      refine u_val rfl rfl (fun w H => r_iaE (p := oOf A54 + k * 1) rfl sl66 rfl rfl (by omega) (by omega) th72 rfl) ?_
                      refine u_val rfl rfl (fun w H => r_ld rfl ty9 rfl (H.elA 2 rfl hx71 (q := 0) rfl rfl)) ?_
                      refine u_val rfl rfl (fun w H => r_neS rfl rfl rfl) ?_
                      refine u_val rfl rfl (fun w H => r_pickF rfl rfl rfl) ?_
                      refine u_end (fun w H => ?_)
                      refine q_then ?_
                      refine c_env [(0, .slice A1 ps.length c2), (3, .slice A8 ((srt ps).length) c9), (4, .slice A18 ((keysL ps).length) c19), (5, .int .i64 (((flatP ps ((keysL ps).take i)).length + k : Nat) : Int)), (6, .int .i64 ((i : Nat) : Int)), (7, .slice A54 ((ofL ps x24).length) c55), (8, .int .i64 ((k : Nat) : Int)), (102, .bool (decide (x64.val ≠ x70)))] ⟨rfl, rfl, rfl, rfl, rfl, rfl, rfl, rfl, trivial⟩ ?_
                      refine c_dec (p := x64.val ≠ x70) rfl (fun h73 => ?_) (fun h73 => ?_)
                      · exact absurd (by have e := (srt_at hx25 hx71).symm.trans hx65; rw [← Option.some.inj e]) h73
                      · skip
                        refine c_skip ?_
                        refine q_then ?_
                        refine c_env [(0, .slice A1 ps.length c2), (3, .slice A8 ((srt ps).length) c9), (4, .slice A18 ((keysL ps).length) c19), (5, .int .i64 (((flatP ps ((keysL ps).take i)).length + k : Nat) : Int)), (6, .int .i64 ((i : Nat) : Int)), (7, .slice A54 ((ofL ps x24).length) c55), (8, .int .i64 ((k : Nat) : Int))] ⟨rfl, rfl, rfl, rfl, rfl, rfl, rfl, trivial⟩ ?_
                        refine c_reg ?_
                        refine s_val rfl rfl (r_mv rfl rfl) ?_
                        refine s_val rfl rfl (r_add (z := (((flatP ps ((keysL ps).take i)).length + k + 1 : Nat) : Int)) rfl rfl rfl (by rw [w64 (by omega) (by omega)]; omega)) ?_
                        refine s_val rfl rfl (r_as rfl rfl) ?_
                        refine s_nil ?_
                        refine q_blockN ?_
                        refine q_then ?_
                        refine c_env [(0, .slice A1 ps.length c2), (3, .slice A8 ((srt ps).length) c9), (4, .slice A18 ((keysL ps).length) c19), (5, .int .i64 (((flatP ps ((keysL ps).take i)).length + k + 1 : Nat) : Int)), (6, .int .i64 ((i : Nat) : Int)), (7, .slice A54 ((ofL ps x24).length) c55), (8, .int .i64 ((k : Nat) : Int))] ⟨rfl, rfl, rfl, rfl, rfl, rfl, rfl, trivial⟩ ?_
                        refine c_reg ?_
                        refine s_val rfl rfl (r_mv rfl rfl) ?_
                        refine s_val rfl rfl (r_add (z := ((k + 1 : Nat) : Int)) rfl rfl rfl (by rw [w64 (by omega) (by omega)]; omega)) ?_
                        refine s_val rfl rfl (r_as rfl rfl) ?_
                        refine s_nil ?_
                        replace H := H.pick 2 rfl
                        replace H := H.pick 2 rfl
                        replace H := H.pick 2 rfl
                        exact q_round (s := k) (k + 1) ⟨rfl, rfl, rfl, rfl, rfl, rfl, rfl, trivial⟩ ⟨H, by (try dsimp only); omega⟩ (by (try dsimp only); omega)
                  · skip
                    refine c_exit ?_
                    refine q_thenE ?_
                    refine q_thenE ?_
                    refine q_blockE ?_
                    refine q_blockN ?_
                    refine q_then ?_
                    refine c_env [(0, .slice A1 ps.length c2), (3, .slice A8 ((srt ps).length) c9), (4, .slice A18 ((keysL ps).length) c19), (5, .int .i64 (((flatP ps ((keysL ps).take i)).length + k : Nat) : Int)), (6, .int .i64 ((i : Nat) : Int))] ⟨rfl, rfl, rfl, rfl, rfl, trivial⟩ ?_
                    refine c_reg ?_
                    refine s_val rfl rfl (r_mv rfl rfl) ?_
                    refine s_val rfl rfl (r_add (z := ((i + 1 : Nat) : Int)) rfl rfl rfl (by rw [w64 (by omega) (by omega)]; omega)) ?_
                    refine s_val rfl rfl (r_as rfl rfl) ?_
                    refine s_nil ?_
                    have hst := congrArg List.length (flatP_step (ps := ps) hx25)
                    rw [List.length_append, pairsOf_len] at hst
                    replace H := H.pick 1 rfl
                    replace H := H.pick 1 rfl
                    replace H := H.keep 2
                    exact q_round (s := i) (i + 1) ⟨rfl, rfl, rfl, congrArg (fun z => some (Value.int .i64 z)) (by (try dsimp only); omega), rfl, trivial⟩ ⟨H, by (try dsimp only); omega⟩ (by (try dsimp only); omega)
          · skip
            refine c_exit ?_
            refine q_thenE ?_
            refine q_thenE ?_
            refine q_blockE ?_
            refine q_then ?_
            refine c_env [(3, .slice A8 ((srt ps).length) c9), (5, .int .i64 (((flatP ps ((keysL ps).take i)).length : Nat) : Int))] ⟨rfl, rfl, trivial⟩ ?_
            refine c_seq ?_
            refine c_reg ?_
            refine s_val rfl rfl (r_mv rfl rfl) ?_
            refine s_val rfl rfl (r_mv rfl rfl) ?_
            refine s_val rfl rfl (r_lenL rfl un54 rfl) ?_
            refine s_val rfl rfl (r_eq rfl rfl rfl) ?_
            refine s_val rfl rfl (r_mv rfl rfl) ?_
            refine s_dec (d := 109) (p := (((flatP ps ((keysL ps).take i)).length : Nat) : Int) = (((srt ps).length : Nat) : Int)) rfl (fun h74 => ?_) (fun h74 => ?_)
            · skip
              refine sc (awake7_ok ) H l0 rfl rfl (e_fn kn74 rfl rfl) ?_
              rintro _ _ w ⟨rfl, rfl⟩ H
              refine s_val rfl rfl (r_pickT rfl rfl rfl) ?_
              refine s_val rfl rfl (r_as rfl rfl) ?_
              refine s_nil ?_
              refine q_then ?_
              refine c_env [(2, .bool true)] ⟨rfl, trivial⟩ ?_
              refine c_ret ?_
              refine q_ret1 rfl rfl ?_
              replace H := H.keep 0
              exact fin ⟨rfl, rfl⟩ H
            · exact absurd (by rw [List.take_of_length_le (by omega), keys_ref, flat_srt]) h74

end Go.Proofs.Ytnaaahpmnhoabaa.X
