/- The walks of the statements on pairs. -/
import Derived.Test.YtnaaahpmnhoabaaM11
set_option linter.unusedVariables false
set_option linter.unusedSimpArgs false
namespace Go.Proofs.Ytnaaahpmnhoabaa.X
open Go
set_option maxHeartbeats 1000000 in
theorem awake7_ok  :
    Cn Try.prog 74 [] [] [] (fun v Bs => v = .bool true ∧ Bs = []) := by
  intro w0 F0 H
  refine enter (args := []) Try.func74 rfl rfl (Nat.le_of_ble_eq_true rfl) ?_
  refine c_seq ?_
  refine c_reg ?_
  refine s_val rfl rfl (r_as rfl rfl) ?_
  refine s_nil ?_
  refine q_then ?_
  refine c_env [(0, .bool false)] ⟨rfl, trivial⟩ ?_
  refine c_seq ?_
  refine c_reg ?_
  refine s_val rfl rfl (r_bd (parts := [(0, .const (.string ⟨#[98]⟩)), (1, .const (.string ⟨#[49]⟩))]) (vs := [.string ⟨#[98]⟩, .string ⟨#[49]⟩]) (cs := [.string ⟨#[98]⟩, .string ⟨#[49]⟩]) rfl bd91 rfl rfl) ?_
  refine s_val rfl rfl (r_bd (parts := [(0, .const (.string ⟨#[97]⟩)), (1, .const (.string ⟨#[50]⟩))]) (vs := [.string ⟨#[97]⟩, .string ⟨#[50]⟩]) (cs := [.string ⟨#[97]⟩, .string ⟨#[50]⟩]) rfl bd91 rfl rfl) ?_
  refine s_val rfl rfl (r_bd (parts := [(0, .const (.string ⟨#[98]⟩)), (1, .const (.string ⟨#[48]⟩))]) (vs := [.string ⟨#[98]⟩, .string ⟨#[48]⟩]) (cs := [.string ⟨#[98]⟩, .string ⟨#[48]⟩]) rfl bd91 rfl rfl) ?_
  refine s_bsl (parts := [(0, .tmp 2), (1, .tmp 3), (2, .tmp 4)]) (vs := [.agg #[.string ⟨#[98]⟩, .string ⟨#[49]⟩], .agg #[.string ⟨#[97]⟩, .string ⟨#[50]⟩], .agg #[.string ⟨#[98]⟩, .string ⟨#[48]⟩]]) (cs := [.string ⟨#[98]⟩, .string ⟨#[49]⟩, .string ⟨#[97]⟩, .string ⟨#[50]⟩, .string ⟨#[98]⟩, .string ⟨#[48]⟩]) rfl rfl rfl sl54 zr91 rfl (by decide) (by decide) rfl rfl H (fun b1 w H => ?_)
  refine s_val rfl rfl (r_as rfl rfl) ?_
  refine s_nil ?_
  refine q_then ?_
  replace H : Hd _ _ _ [blk b1 [.string ⟨#[98]⟩, .string ⟨#[49]⟩, .string ⟨#[97]⟩, .string ⟨#[50]⟩, .string ⟨#[98]⟩, .string ⟨#[48]⟩] 91] [] := H
  refine c_env [(0, .bool false), (1, .slice (some ⟨b1, 0, none⟩) 3 3)] ⟨rfl, rfl, trivial⟩ ?_
  refine c_seq ?_
  refine c_reg ?_
  refine s_val rfl rfl (r_mv rfl rfl) ?_
  refine sc (pairSort_ok (.slice (some ⟨b1, 0, none⟩) 3 3) [(⟨⟨#[98]⟩, ⟨#[49]⟩⟩ : Pair), (⟨⟨#[97]⟩, ⟨#[50]⟩⟩ : Pair), (⟨⟨#[98]⟩, ⟨#[48]⟩⟩ : Pair)] (by first | omega | decide | (simp only [List.length_append, List.length_cons, List.length_nil, srt_len]; omega))) H (lA 0 rfl (fun F h => blk_rsl h rfl (by decide) (RepsR.flat_eq.2 rfl)) l0) rfl rfl (e_fn kn54 rfl rfl) ?_
  rintro v2 _ w rfl H
  refine s_val rfl rfl (r_bd (parts := [(0, .const (.string ⟨#[97]⟩)), (1, .const (.string ⟨#[50]⟩))]) (vs := [.string ⟨#[97]⟩, .string ⟨#[50]⟩]) (cs := [.string ⟨#[97]⟩, .string ⟨#[50]⟩]) rfl bd91 rfl rfl) ?_
  refine s_val rfl rfl (r_bd (parts := [(0, .const (.string ⟨#[98]⟩)), (1, .const (.string ⟨#[49]⟩))]) (vs := [.string ⟨#[98]⟩, .string ⟨#[49]⟩]) (cs := [.string ⟨#[98]⟩, .string ⟨#[49]⟩]) rfl bd91 rfl rfl) ?_
  refine s_val rfl rfl (r_bd (parts := [(0, .const (.string ⟨#[98]⟩)), (1, .const (.string ⟨#[48]⟩))]) (vs := [.string ⟨#[98]⟩, .string ⟨#[48]⟩]) (cs := [.string ⟨#[98]⟩, .string ⟨#[48]⟩]) rfl bd91 rfl rfl) ?_
  refine s_bsl (parts := [(0, .tmp 8), (1, .tmp 9), (2, .tmp 10)]) (vs := [.agg #[.string ⟨#[97]⟩, .string ⟨#[50]⟩], .agg #[.string ⟨#[98]⟩, .string ⟨#[49]⟩], .agg #[.string ⟨#[98]⟩, .string ⟨#[48]⟩]]) (cs := [.string ⟨#[97]⟩, .string ⟨#[50]⟩, .string ⟨#[98]⟩, .string ⟨#[49]⟩, .string ⟨#[98]⟩, .string ⟨#[48]⟩]) rfl rfl rfl sl54 zr91 rfl (by decide) (by decide) rfl rfl H (fun b3 w H => ?_)
  refine sc (samePairs_ok v2 (.slice (some ⟨b3, 0, none⟩) 3 3) (srt [(⟨⟨#[98]⟩, ⟨#[49]⟩⟩ : Pair), (⟨⟨#[97]⟩, ⟨#[50]⟩⟩ : Pair), (⟨⟨#[98]⟩, ⟨#[48]⟩⟩ : Pair)]) [(⟨⟨#[97]⟩, ⟨#[50]⟩⟩ : Pair), (⟨⟨#[98]⟩, ⟨#[49]⟩⟩ : Pair), (⟨⟨#[98]⟩, ⟨#[48]⟩⟩ : Pair)]) H (lA 1 rfl own_rd (lA 0 rfl (fun F h => blk_rsl h rfl (by decide) (RepsR.flat_eq.2 rfl)) l0)) rfl rfl (e_fn kn48 rfl rfl) ?_
  rintro _ _ w ⟨rfl, rfl⟩ H
  refine s_val rfl rfl (r_mv rfl rfl) ?_
  refine s_dec (d := 13) (p := (srt [(⟨⟨#[98]⟩, ⟨#[49]⟩⟩ : Pair), (⟨⟨#[97]⟩, ⟨#[50]⟩⟩ : Pair), (⟨⟨#[98]⟩, ⟨#[48]⟩⟩ : Pair)]) = [(⟨⟨#[97]⟩, ⟨#[50]⟩⟩ : Pair), (⟨⟨#[98]⟩, ⟨#[49]⟩⟩ : Pair), (⟨⟨#[98]⟩, ⟨#[48]⟩⟩ : Pair)]) rfl (fun h4 => ?_) (fun h4 => ?_)
  · skip
    refine s_val rfl rfl (r_mv rfl rfl) ?_
    replace H : Hd _ _ _ [blk b3 [.string ⟨#[97]⟩, .string ⟨#[50]⟩, .string ⟨#[98]⟩, .string ⟨#[49]⟩, .string ⟨#[98]⟩, .string ⟨#[48]⟩] 91, osl kPair v2 (srt [(⟨⟨#[98]⟩, ⟨#[49]⟩⟩ : Pair), (⟨⟨#[97]⟩, ⟨#[50]⟩⟩ : Pair), (⟨⟨#[98]⟩, ⟨#[48]⟩⟩ : Pair)]), blk b1 [.string ⟨#[98]⟩, .string ⟨#[49]⟩, .string ⟨#[97]⟩, .string ⟨#[50]⟩, .string ⟨#[98]⟩, .string ⟨#[48]⟩] 91] [] := H
    refine sc (pKeys_ok (.slice (some ⟨b1, 0, none⟩) 3 3) [(⟨⟨#[98]⟩, ⟨#[49]⟩⟩ : Pair), (⟨⟨#[97]⟩, ⟨#[50]⟩⟩ : Pair), (⟨⟨#[98]⟩, ⟨#[48]⟩⟩ : Pair)] (by first | omega | decide | (simp only [List.length_append, List.length_cons, List.length_nil, srt_len]; omega))) H (lA 2 rfl (fun F h => blk_rsl h rfl (by decide) (RepsR.flat_eq.2 rfl)) l0) rfl rfl (e_fn kn75 rfl rfl) ?_
    rintro v5 _ w rfl H
    refine s_bsl (parts := [(0, .const (.string ⟨#[97]⟩)), (1, .const (.string ⟨#[98]⟩))]) (vs := [.string ⟨#[97]⟩, .string ⟨#[98]⟩]) (cs := [.string ⟨#[97]⟩, .string ⟨#[98]⟩]) rfl rfl rfl sl66 zr9 rfl (by decide) (by decide) rfl rfl H (fun b6 w H => ?_)
    refine sc (sameTexts_ok v5 (.slice (some ⟨b6, 0, none⟩) 2 2) (keysL [(⟨⟨#[98]⟩, ⟨#[49]⟩⟩ : Pair), (⟨⟨#[97]⟩, ⟨#[50]⟩⟩ : Pair), (⟨⟨#[98]⟩, ⟨#[48]⟩⟩ : Pair)]) [⟨#[97]⟩, ⟨#[98]⟩]) H (lA 1 rfl own_rd (lA 0 rfl (fun F h => blk_rsl h rfl (by decide) (RepsR.flat_eq.2 rfl)) l0)) rfl rfl (e_fn kn59 rfl rfl) ?_
    rintro _ _ w ⟨rfl, rfl⟩ H
    refine s_val rfl rfl (r_pickT rfl rfl rfl) ?_
    refine s_val rfl rfl (r_mv rfl rfl) ?_
    refine s_dec (d := 19) (p := (keysL [(⟨⟨#[98]⟩, ⟨#[49]⟩⟩ : Pair), (⟨⟨#[97]⟩, ⟨#[50]⟩⟩ : Pair), (⟨⟨#[98]⟩, ⟨#[48]⟩⟩ : Pair)]) = [⟨#[97]⟩, ⟨#[98]⟩]) rfl (fun h7 => ?_) (fun h7 => ?_)
    · skip
      refine s_val rfl rfl (r_mv rfl rfl) ?_
      refine sc (sorted_ok (.slice (some ⟨b1, 0, none⟩) 3 3) [(⟨⟨#[98]⟩, ⟨#[49]⟩⟩ : Pair), (⟨⟨#[97]⟩, ⟨#[50]⟩⟩ : Pair), (⟨⟨#[98]⟩, ⟨#[48]⟩⟩ : Pair)] (by first | omega | decide | (simp only [List.length_append, List.length_cons, List.length_nil, srt_len]; omega))) H (lA 4 rfl (fun F h => blk_rsl h rfl (by decide) (RepsR.flat_eq.2 rfl)) l0) rfl rfl (e_fn kn55 rfl rfl) ?_
      rintro _ _ w ⟨rfl, rfl⟩ H
      refine s_val rfl rfl (r_notP rfl rfl) ?_
      refine s_val rfl rfl (r_pickT rfl rfl rfl) ?_
      refine s_val rfl rfl (r_mv rfl rfl) ?_
      refine s_dec (d := 24) (p := ¬ (Ord [(⟨⟨#[98]⟩, ⟨#[49]⟩⟩ : Pair), (⟨⟨#[97]⟩, ⟨#[50]⟩⟩ : Pair), (⟨⟨#[98]⟩, ⟨#[48]⟩⟩ : Pair)])) rfl (fun h8 => ?_) (fun h8 => ?_)
      · skip
        refine s_val rfl rfl (r_mv rfl rfl) ?_
        replace H : Hd _ _ _ [blk b6 [.string ⟨#[97]⟩, .string ⟨#[98]⟩] 9, osl kStr v5 (keysL [(⟨⟨#[98]⟩, ⟨#[49]⟩⟩ : Pair), (⟨⟨#[97]⟩, ⟨#[50]⟩⟩ : Pair), (⟨⟨#[98]⟩, ⟨#[48]⟩⟩ : Pair)]), blk b3 [.string ⟨#[97]⟩, .string ⟨#[50]⟩, .string ⟨#[98]⟩, .string ⟨#[49]⟩, .string ⟨#[98]⟩, .string ⟨#[48]⟩] 91, osl kPair v2 (srt [(⟨⟨#[98]⟩, ⟨#[49]⟩⟩ : Pair), (⟨⟨#[97]⟩, ⟨#[50]⟩⟩ : Pair), (⟨⟨#[98]⟩, ⟨#[48]⟩⟩ : Pair)]), blk b1 [.string ⟨#[98]⟩, .string ⟨#[49]⟩, .string ⟨#[97]⟩, .string ⟨#[50]⟩, .string ⟨#[98]⟩, .string ⟨#[48]⟩] 91] [] := H
        refine sc (pOf_ok (.slice (some ⟨b1, 0, none⟩) 3 3) [(⟨⟨#[98]⟩, ⟨#[49]⟩⟩ : Pair), (⟨⟨#[97]⟩, ⟨#[50]⟩⟩ : Pair), (⟨⟨#[98]⟩, ⟨#[48]⟩⟩ : Pair)] (⟨#[98]⟩ : ByteArray) (by first | omega | decide | (simp only [List.length_append, List.length_cons, List.length_nil, srt_len]; omega))) H (lA 4 rfl (fun F h => blk_rsl h rfl (by decide) (RepsR.flat_eq.2 rfl)) l0) rfl rfl (e_fn kn57 rfl rfl) ?_
        rintro v9 _ w rfl H
        refine s_bsl (parts := [(0, .const (.string ⟨#[49]⟩)), (1, .const (.string ⟨#[48]⟩))]) (vs := [.string ⟨#[49]⟩, .string ⟨#[48]⟩]) (cs := [.string ⟨#[49]⟩, .string ⟨#[48]⟩]) rfl rfl rfl sl66 zr9 rfl (by decide) (by decide) rfl rfl H (fun b10 w H => ?_)
        refine sc (sameTexts_ok v9 (.slice (some ⟨b10, 0, none⟩) 2 2) (ofL [(⟨⟨#[98]⟩, ⟨#[49]⟩⟩ : Pair), (⟨⟨#[97]⟩, ⟨#[50]⟩⟩ : Pair), (⟨⟨#[98]⟩, ⟨#[48]⟩⟩ : Pair)] (⟨#[98]⟩ : ByteArray)) [⟨#[49]⟩, ⟨#[48]⟩]) H (lA 1 rfl own_rd (lA 0 rfl (fun F h => blk_rsl h rfl (by decide) (RepsR.flat_eq.2 rfl)) l0)) rfl rfl (e_fn kn59 rfl rfl) ?_
        rintro _ _ w ⟨rfl, rfl⟩ H
        refine s_val rfl rfl (r_pickT rfl rfl rfl) ?_
        refine s_val rfl rfl (r_as rfl rfl) ?_
        refine s_nil ?_
        refine q_then ?_
        replace H : Hd _ _ _ [blk b10 [.string ⟨#[49]⟩, .string ⟨#[48]⟩] 9, osl kStr v9 (ofL [(⟨⟨#[98]⟩, ⟨#[49]⟩⟩ : Pair), (⟨⟨#[97]⟩, ⟨#[50]⟩⟩ : Pair), (⟨⟨#[98]⟩, ⟨#[48]⟩⟩ : Pair)] (⟨#[98]⟩ : ByteArray)), blk b6 [.string ⟨#[97]⟩, .string ⟨#[98]⟩] 9, osl kStr v5 (keysL [(⟨⟨#[98]⟩, ⟨#[49]⟩⟩ : Pair), (⟨⟨#[97]⟩, ⟨#[50]⟩⟩ : Pair), (⟨⟨#[98]⟩, ⟨#[48]⟩⟩ : Pair)]), blk b3 [.string ⟨#[97]⟩, .string ⟨#[50]⟩, .string ⟨#[98]⟩, .string ⟨#[49]⟩, .string ⟨#[98]⟩, .string ⟨#[48]⟩] 91, osl kPair v2 (srt [(⟨⟨#[98]⟩, ⟨#[49]⟩⟩ : Pair), (⟨⟨#[97]⟩, ⟨#[50]⟩⟩ : Pair), (⟨⟨#[98]⟩, ⟨#[48]⟩⟩ : Pair)]), blk b1 [.string ⟨#[98]⟩, .string ⟨#[49]⟩, .string ⟨#[97]⟩, .string ⟨#[50]⟩, .string ⟨#[98]⟩, .string ⟨#[48]⟩] 91] [] := H
        refine c_env [(0, .bool (decide ((ofL [(⟨⟨#[98]⟩, ⟨#[49]⟩⟩ : Pair), (⟨⟨#[97]⟩, ⟨#[50]⟩⟩ : Pair), (⟨⟨#[98]⟩, ⟨#[48]⟩⟩ : Pair)] (⟨#[98]⟩ : ByteArray)) = [⟨#[49]⟩, ⟨#[48]⟩])))] ⟨rfl, trivial⟩ ?_
        refine c_ret ?_
        refine q_ret1 rfl rfl ?_
        replace H := H.keep 0
        exact fin ⟨congrArg Value.bool (decide_eq_true (by decide)), rfl⟩ H
      · exact absurd h8 (by decide)
    · exact (h7 ((keys_ref _).trans (by decide))).elim
  · exact absurd h4 (by decide)

set_option maxHeartbeats 1000000 in
theorem pairParts_ok (va : Value) (a : List Pair) (wa : (∀ p ∈ a, p.key.size ≤ 9223372036854775807 ∧ p.val.size ≤ 9223372036854775807) ∧ a.length ≤ 9223372036854775807) (vb : Value) (b : List Pair) (wb : (∀ p ∈ b, p.key.size ≤ 9223372036854775807 ∧ p.val.size ≤ 9223372036854775807) ∧ b.length ≤ 9223372036854775807) (key : ByteArray) (wkey : key.size ≤ 9223372036854775807) :
    Cn Try.prog 20 [va, vb, .string key] [] [rsl kPair va a, rsl kPair vb b] (fun v Bs => v = .bool true ∧ Bs = []) := by
  intro w0 F0 H
  obtain ⟨A1, c2, rfl, hc3, hm4, hp5⟩ := H.fR 0 rfl
  obtain ⟨A6, c7, rfl, hc8, hm9, hp10⟩ := H.fR 1 rfl
  refine enter (args := [.slice A1 a.length c2, .slice A6 b.length c7, .string key]) Try.func20 rfl rfl (Nat.le_of_ble_eq_true rfl) ?_
  refine c_seq ?_
  refine c_reg ?_
  refine s_val rfl rfl (r_as rfl rfl) ?_
  refine s_nil ?_
  refine q_then ?_
  replace H : Hd _ _ _ [] [rsl kPair (.slice A1 a.length c2) a, rsl kPair (.slice A6 b.length c7) b] := H
  refine c_env [(0, .slice A1 a.length c2), (1, .slice A6 b.length c7), (2, .string key), (6, .bool false)] ⟨rfl, rfl, rfl, rfl, trivial⟩ ?_
  refine c_seq ?_
  refine c_seq ?_
  refine c_reg ?_
  refine s_val rfl rfl (r_mv rfl rfl) ?_
  refine sc (greatPairs_ok (.slice A1 a.length c2) a 40) H (lR 0 rfl l0) rfl rfl (e_fn kn56 rfl rfl) ?_
  rintro _ _ w ⟨rfl, rfl⟩ H
  refine s_val rfl rfl (r_mv rfl rfl) ?_
  refine s_boo (d := 11) (b := greatP a 40) rfl (fun h11 => ?_) (fun h11 => ?_)
  · skip
    refine s_no rfl rfl ?_
    refine s_no rfl rfl ?_
    refine s_val rfl rfl (r_pickT rfl rfl rfl) ?_
    refine s_val rfl rfl (r_mv rfl rfl) ?_
    refine s_no rfl rfl ?_
    refine s_no rfl rfl ?_
    refine s_no rfl rfl ?_
    refine s_val rfl rfl (r_pickT rfl rfl rfl) ?_
    refine s_nil ?_
    refine q_then ?_
    refine c_env [(0, .slice A1 a.length c2), (1, .slice A6 b.length c7), (2, .string key), (6, .bool false), (19, .bool true)] ⟨rfl, rfl, rfl, rfl, rfl, trivial⟩ ?_
    refine c_yes rfl ?_
    refine c_seq ?_
    refine c_reg ?_
    refine sc (awake7_ok ) H l0 rfl rfl (e_fn kn74 rfl rfl) ?_
    rintro _ _ w ⟨rfl, rfl⟩ H
    refine s_val rfl rfl (r_as rfl rfl) ?_
    refine s_nil ?_
    refine q_then ?_
    refine c_env [(0, .slice A1 a.length c2), (1, .slice A6 b.length c7), (2, .string key), (6, .bool true)] ⟨rfl, rfl, rfl, rfl, trivial⟩ ?_
    refine c_ret ?_
    refine q_thenR ?_
    refine q_ret1 rfl rfl ?_
    exact fin ⟨rfl, rfl⟩ H
  · skip
    refine s_val rfl rfl (r_mv rfl rfl) ?_
    refine sc (greatPairs_ok (.slice A6 b.length c7) b 40) H (lR 1 rfl l0) rfl rfl (e_fn kn56 rfl rfl) ?_
    rintro _ _ w ⟨rfl, rfl⟩ H
    refine s_val rfl rfl (r_pickF rfl rfl rfl) ?_
    refine s_val rfl rfl (r_mv rfl rfl) ?_
    refine s_boo (d := 15) (b := greatP b 40) rfl (fun h12 => ?_) (fun h12 => ?_)
    · skip
      refine s_no rfl rfl ?_
      refine s_no rfl rfl ?_
      refine s_no rfl rfl ?_
      refine s_val rfl rfl (r_pickT rfl rfl rfl) ?_
      refine s_nil ?_
      refine q_then ?_
      refine c_env [(0, .slice A1 a.length c2), (1, .slice A6 b.length c7), (2, .string key), (6, .bool false), (19, .bool true)] ⟨rfl, rfl, rfl, rfl, rfl, trivial⟩ ?_
      refine c_yes rfl ?_
      refine c_seq ?_
      refine c_reg ?_
      refine sc (awake7_ok ) H l0 rfl rfl (e_fn kn74 rfl rfl) ?_
      rintro _ _ w ⟨rfl, rfl⟩ H
      refine s_val rfl rfl (r_as rfl rfl) ?_
      refine s_nil ?_
      refine q_then ?_
      refine c_env [(0, .slice A1 a.length c2), (1, .slice A6 b.length c7), (2, .string key), (6, .bool true)] ⟨rfl, rfl, rfl, rfl, trivial⟩ ?_
      refine c_ret ?_
      refine q_thenR ?_
      refine q_ret1 rfl rfl ?_
      exact fin ⟨rfl, rfl⟩ H
    · skip
      refine s_val rfl rfl (r_mv rfl rfl) ?_
      refine s_val rfl rfl (r_lenS rfl un9 rfl) ?_
      refine s_val rfl rfl (r_gt rfl rfl rfl) ?_
      refine s_val rfl rfl (r_pickF rfl rfl rfl) ?_
      refine s_nil ?_
      refine q_then ?_
      refine c_env [(0, .slice A1 a.length c2), (1, .slice A6 b.length c7), (2, .string key), (6, .bool false), (19, .bool (decide ((100 : Int) < ((key.size : Nat) : Int))))] ⟨rfl, rfl, rfl, rfl, rfl, trivial⟩ ?_
      refine c_dec (p := (100 : Int) < ((key.size : Nat) : Int)) rfl (fun h13 => ?_) (fun h13 => ?_)
      · skip
        refine c_seq ?_
        refine c_reg ?_
        refine sc (awake7_ok ) H l0 rfl rfl (e_fn kn74 rfl rfl) ?_
        rintro _ _ w ⟨rfl, rfl⟩ H
        refine s_val rfl rfl (r_as rfl rfl) ?_
        refine s_nil ?_
        refine q_then ?_
        refine c_env [(0, .slice A1 a.length c2), (1, .slice A6 b.length c7), (2, .string key), (6, .bool true)] ⟨rfl, rfl, rfl, rfl, trivial⟩ ?_
        refine c_ret ?_
        refine q_thenR ?_
        refine q_ret1 rfl rfl ?_
        exact fin ⟨rfl, rfl⟩ H
      · skip
        refine c_skip ?_
        refine q_then ?_
        refine c_env [(0, .slice A1 a.length c2), (1, .slice A6 b.length c7), (2, .string key), (6, .bool false)] ⟨rfl, rfl, rfl, rfl, trivial⟩ ?_
        refine c_seq ?_
        have hgh11 := (greatP_no h11).1
        have hgh12 := (greatP_no h12).1
        refine c_reg ?_
        refine s_val rfl rfl (r_mv rfl rfl) ?_
        replace H := H.newnil kPair
        refine s_appF (xs := []) (ys := a) rfl rfl rfl sl54 zr91 rfl (by decide) rfl rfl H (by first | omega | (have := ofL_len a key; have := ofL_len b key; (try simp only [List.length_append, List.length_cons, List.length_nil, srt_len]); omega)) (fun F hA hR => hR _ (List.mem_of_getElem? (i := 0) rfl)) (fun v14 w H => ?_)
        refine s_val rfl rfl (r_mv rfl rfl) ?_
        refine s_appF (xs := [] ++ a) (ys := b) rfl rfl rfl sl54 zr91 rfl (by decide) rfl rfl H (by first | omega | (have := ofL_len a key; have := ofL_len b key; (try simp only [List.length_append, List.length_cons, List.length_nil, srt_len]); omega)) (fun F hA hR => hR _ (List.mem_of_getElem? (i := 1) rfl)) (fun v15 w H => ?_)
        refine s_val rfl rfl (r_as rfl rfl) ?_
        refine s_nil ?_
        refine q_then ?_
        replace H : Hd _ _ _ [osl kPair v15 (([] ++ a) ++ b)] [rsl kPair (.slice A1 a.length c2) a, rsl kPair (.slice A6 b.length c7) b] := H
        refine c_env [(0, .slice A1 a.length c2), (1, .slice A6 b.length c7), (2, .string key), (6, .bool false), (7, v15)] ⟨rfl, rfl, rfl, rfl, rfl, trivial⟩ ?_
        refine c_seq ?_
        refine c_reg ?_
        refine s_val rfl rfl (r_mv rfl rfl) ?_
        refine s_val rfl rfl (r_mv rfl rfl) ?_
        refine sc (pOf_ok (.slice A1 a.length c2) a key (by first | omega | decide | (simp only [List.length_append, List.length_cons, List.length_nil, srt_len]; omega))) H (lR 0 rfl l0) rfl rfl (e_fn kn57 rfl rfl) ?_
        rintro v16 _ w rfl H
        refine s_val rfl rfl (r_mv rfl rfl) ?_
        refine s_val rfl rfl (r_mv rfl rfl) ?_
        replace H : Hd _ _ _ [osl kStr v16 (ofL a key), osl kPair v15 (([] ++ a) ++ b)] [rsl kPair (.slice A1 a.length c2) a, rsl kPair (.slice A6 b.length c7) b] := H
        refine sc (pOf_ok (.slice A6 b.length c7) b key (by first | omega | decide | (simp only [List.length_append, List.length_cons, List.length_nil, srt_len]; omega))) H (lR 1 rfl l0) rfl rfl (e_fn kn57 rfl rfl) ?_
        rintro v17 _ w rfl H
        replace H := H.pick 1 rfl
        obtain ⟨A18, c19, rfl, hc20, hm21, hp22⟩ := H.fA 1 rfl
        refine s_appF (xs := ofL a key) (ys := ofL b key) rfl rfl rfl sl66 zr9 rfl (by decide) rfl rfl H (by first | omega | (have := ofL_len a key; have := ofL_len b key; (try simp only [List.length_append, List.length_cons, List.length_nil, srt_len]); omega)) (fun F hA hR => own_rd F (hA _ (List.mem_of_getElem? (i := 0) rfl))) (fun v23 w H => ?_)
        refine s_val rfl rfl (r_as rfl rfl) ?_
        refine s_nil ?_
        refine q_then ?_
        replace H : Hd _ _ _ [osl kStr v23 ((ofL a key) ++ (ofL b key)), osl kStr (.slice A18 ((ofL b key).length) c19) (ofL b key), osl kPair v15 (([] ++ a) ++ b)] [rsl kPair (.slice A1 a.length c2) a, rsl kPair (.slice A6 b.length c7) b] := H
        refine c_env [(0, .slice A1 a.length c2), (1, .slice A6 b.length c7), (2, .string key), (6, .bool false), (7, v15), (8, v23)] ⟨rfl, rfl, rfl, rfl, rfl, rfl, trivial⟩ ?_
        refine c_seq ?_
        refine c_reg ?_
        refine s_val rfl rfl (r_mv rfl rfl) ?_
        refine s_val rfl rfl (r_mv rfl rfl) ?_
        refine sc (pOf_ok v15 (([] ++ a) ++ b) key (by first | omega | decide | (simp only [List.length_append, List.length_cons, List.length_nil, srt_len]; omega))) H (lA 2 rfl own_rd l0) rfl rfl (e_fn kn57 rfl rfl) ?_
        rintro v24 _ w rfl H
        refine s_val rfl rfl (r_mv rfl rfl) ?_
        refine sc (sameTexts_ok v24 v23 (ofL (([] ++ a) ++ b) key) ((ofL a key) ++ (ofL b key))) H (lA 0 rfl own_rd (lA 1 rfl own_rd l0)) rfl rfl (e_fn kn59 rfl rfl) ?_
        rintro _ _ w ⟨rfl, rfl⟩ H
        refine s_val rfl rfl (r_mv rfl rfl) ?_
        refine s_dec (d := 37) (p := (ofL (([] ++ a) ++ b) key) = ((ofL a key) ++ (ofL b key))) rfl (fun h25 => ?_) (fun h25 => ?_)
        · skip
          refine s_val rfl rfl (r_mv rfl rfl) ?_
          refine sc (pMayL_ok v15 (([] ++ a) ++ b)) H (lA 3 rfl own_rd l0) rfl rfl (e_fn kn79 rfl rfl) ?_
          rintro _ _ w ⟨rfl, rfl⟩ H
          refine s_val rfl rfl (r_mv rfl rfl) ?_
          refine sc (pMayL_ok (.slice A1 a.length c2) a) H (lR 0 rfl l0) rfl rfl (e_fn kn79 rfl rfl) ?_
          rintro _ _ w ⟨rfl, rfl⟩ H
          refine s_val rfl rfl (r_mv rfl rfl) ?_
          refine s_dec (d := 42) (p := mayL a) rfl (fun h26 => ?_) (fun h26 => ?_)
          · skip
            refine s_val rfl rfl (r_mv rfl rfl) ?_
            refine sc (pMayL_ok (.slice A6 b.length c7) b) H (lR 1 rfl l0) rfl rfl (e_fn kn79 rfl rfl) ?_
            rintro _ _ w ⟨rfl, rfl⟩ H
            refine s_val rfl rfl (r_pickT rfl rfl rfl) ?_
            refine s_val rfl rfl (r_beq rfl un4 rfl rfl) ?_
            refine s_val rfl rfl (r_pickT rfl rfl rfl) ?_
            refine s_val rfl rfl (r_mv rfl rfl) ?_
            refine s_dec (d := 48) (p := (decide (mayL (([] ++ a) ++ b))) = (decide (mayL b))) rfl (fun h27 => ?_) (fun h27 => ?_)
            · skip
              refine s_val rfl rfl (r_mv rfl rfl) ?_
              refine s_val rfl rfl (r_mv rfl rfl) ?_
              refine sc (pSame_ok (.slice A1 a.length c2) a (.slice A1 a.length c2) a) H (lR 0 rfl (lR 0 rfl l0)) rfl rfl (e_fn kn81 rfl rfl) ?_
              rintro _ _ w ⟨rfl, rfl⟩ H
              refine s_val rfl rfl (r_pickT rfl rfl rfl) ?_
              refine s_val rfl rfl (r_mv rfl rfl) ?_
              refine s_dec (d := 53) (p := a = a) rfl (fun h28 => ?_) (fun h28 => ?_)
              · skip
                refine s_val rfl rfl (r_mv rfl rfl) ?_
                replace H : Hd _ _ _ [osl kStr v24 (ofL (([] ++ a) ++ b) key), osl kStr v23 ((ofL a key) ++ (ofL b key)), osl kStr (.slice A18 ((ofL b key).length) c19) (ofL b key), osl kPair v15 (([] ++ a) ++ b)] [rsl kPair (.slice A1 a.length c2) a, rsl kPair (.slice A6 b.length c7) b] := H
                refine sc (pairSort_ok v15 (([] ++ a) ++ b) (by first | omega | decide | (simp only [List.length_append, List.length_cons, List.length_nil, srt_len]; omega))) H (lA 3 rfl own_rd l0) rfl rfl (e_fn kn54 rfl rfl) ?_
                rintro v29 _ w rfl H
                refine s_val rfl rfl (r_mv rfl rfl) ?_
                replace H : Hd _ _ _ [osl kPair v29 (srt (([] ++ a) ++ b)), osl kStr v24 (ofL (([] ++ a) ++ b) key), osl kStr v23 ((ofL a key) ++ (ofL b key)), osl kStr (.slice A18 ((ofL b key).length) c19) (ofL b key), osl kPair v15 (([] ++ a) ++ b)] [rsl kPair (.slice A1 a.length c2) a, rsl kPair (.slice A6 b.length c7) b] := H
                refine sc (pairSort_ok (.slice A1 a.length c2) a (by first | omega | decide | (simp only [List.length_append, List.length_cons, List.length_nil, srt_len]; omega))) H (lR 0 rfl l0) rfl rfl (e_fn kn54 rfl rfl) ?_
                rintro v30 _ w rfl H
                refine s_val rfl rfl (r_mv rfl rfl) ?_
                replace H : Hd _ _ _ [osl kPair v30 (srt a), osl kPair v29 (srt (([] ++ a) ++ b)), osl kStr v24 (ofL (([] ++ a) ++ b) key), osl kStr v23 ((ofL a key) ++ (ofL b key)), osl kStr (.slice A18 ((ofL b key).length) c19) (ofL b key), osl kPair v15 (([] ++ a) ++ b)] [rsl kPair (.slice A1 a.length c2) a, rsl kPair (.slice A6 b.length c7) b] := H
                refine sc (pairSort_ok (.slice A6 b.length c7) b (by first | omega | decide | (simp only [List.length_append, List.length_cons, List.length_nil, srt_len]; omega))) H (lR 1 rfl l0) rfl rfl (e_fn kn54 rfl rfl) ?_
                rintro v31 _ w rfl H
                replace H := H.pick 1 rfl
                obtain ⟨A32, c33, rfl, hc34, hm35, hp36⟩ := H.fA 1 rfl
                refine s_appF (xs := srt a) (ys := srt b) rfl rfl rfl sl54 zr91 rfl (by decide) rfl rfl H (by first | omega | (have := ofL_len a key; have := ofL_len b key; (try simp only [List.length_append, List.length_cons, List.length_nil, srt_len]); omega)) (fun F hA hR => own_rd F (hA _ (List.mem_of_getElem? (i := 0) rfl))) (fun v37 w H => ?_)
                replace H : Hd _ _ _ [osl kPair v37 ((srt a) ++ (srt b)), osl kPair (.slice A32 ((srt b).length) c33) (srt b), osl kPair v29 (srt (([] ++ a) ++ b)), osl kStr v24 (ofL (([] ++ a) ++ b) key), osl kStr v23 ((ofL a key) ++ (ofL b key)), osl kStr (.slice A18 ((ofL b key).length) c19) (ofL b key), osl kPair v15 (([] ++ a) ++ b)] [rsl kPair (.slice A1 a.length c2) a, rsl kPair (.slice A6 b.length c7) b] := H
                refine sc (pairSort_ok v37 ((srt a) ++ (srt b)) (by first | omega | decide | (simp only [List.length_append, List.length_cons, List.length_nil, srt_len]; omega))) H (lA 0 rfl own_rd l0) rfl rfl (e_fn kn54 rfl rfl) ?_
                rintro v38 _ w rfl H
                refine sc (samePairs_ok v29 v38 (srt (([] ++ a) ++ b)) (srt ((srt a) ++ (srt b)))) H (lA 3 rfl own_rd (lA 0 rfl own_rd l0)) rfl rfl (e_fn kn48 rfl rfl) ?_
                rintro _ _ w ⟨rfl, rfl⟩ H
                refine s_val rfl rfl (r_pickT rfl rfl rfl) ?_
                refine s_val rfl rfl (r_mv rfl rfl) ?_
                refine s_dec (d := 64) (p := (srt (([] ++ a) ++ b)) = (srt ((srt a) ++ (srt b)))) rfl (fun h39 => ?_) (fun h39 => ?_)
                · skip
                  refine sc (awake7_ok ) H l0 rfl rfl (e_fn kn74 rfl rfl) ?_
                  rintro _ _ w ⟨rfl, rfl⟩ H
                  refine s_val rfl rfl (r_pickT rfl rfl rfl) ?_
                  refine s_val rfl rfl (r_as rfl rfl) ?_
                  refine s_nil ?_
                  refine q_then ?_
                  replace H : Hd _ _ _ [osl kPair v38 (srt ((srt a) ++ (srt b))), osl kPair v37 ((srt a) ++ (srt b)), osl kPair (.slice A32 ((srt b).length) c33) (srt b), osl kPair v29 (srt (([] ++ a) ++ b)), osl kStr v24 (ofL (([] ++ a) ++ b) key), osl kStr v23 ((ofL a key) ++ (ofL b key)), osl kStr (.slice A18 ((ofL b key).length) c19) (ofL b key), osl kPair v15 (([] ++ a) ++ b)] [rsl kPair (.slice A1 a.length c2) a, rsl kPair (.slice A6 b.length c7) b] := H
                  refine c_env [(6, .bool true)] ⟨rfl, trivial⟩ ?_
                  refine c_ret ?_
                  refine q_ret1 rfl rfl ?_
                  replace H := H.keep 0
                  exact fin ⟨rfl, rfl⟩ H
                · exact absurd (srt_congr (Stab.append (srt_stab a) (srt_stab b))) h39
              · exact (h28 rfl).elim
            · exact absurd (by have := may_app a b; first | (simp only [decide_eq_decide]; simp_all) | simp_all) h27
          · skip
            refine s_no rfl rfl ?_
            refine s_no rfl rfl ?_
            refine s_val rfl rfl (r_pickF rfl rfl rfl) ?_
            refine s_val rfl rfl (r_beq rfl un4 rfl rfl) ?_
            refine s_val rfl rfl (r_pickT rfl rfl rfl) ?_
            refine s_val rfl rfl (r_mv rfl rfl) ?_
            refine s_dec (d := 48) (p := (decide (mayL (([] ++ a) ++ b))) = false) rfl (fun h40 => ?_) (fun h40 => ?_)
            · skip
              refine s_val rfl rfl (r_mv rfl rfl) ?_
              refine s_val rfl rfl (r_mv rfl rfl) ?_
              refine sc (pSame_ok (.slice A1 a.length c2) a (.slice A1 a.length c2) a) H (lR 0 rfl (lR 0 rfl l0)) rfl rfl (e_fn kn81 rfl rfl) ?_
              rintro _ _ w ⟨rfl, rfl⟩ H
              refine s_val rfl rfl (r_pickT rfl rfl rfl) ?_
              refine s_val rfl rfl (r_mv rfl rfl) ?_
              refine s_dec (d := 53) (p := a = a) rfl (fun h41 => ?_) (fun h41 => ?_)
              · skip
                refine s_val rfl rfl (r_mv rfl rfl) ?_
                replace H : Hd _ _ _ [osl kStr v24 (ofL (([] ++ a) ++ b) key), osl kStr v23 ((ofL a key) ++ (ofL b key)), osl kStr (.slice A18 ((ofL b key).length) c19) (ofL b key), osl kPair v15 (([] ++ a) ++ b)] [rsl kPair (.slice A1 a.length c2) a, rsl kPair (.slice A6 b.length c7) b] := H
                refine sc (pairSort_ok v15 (([] ++ a) ++ b) (by first | omega | decide | (simp only [List.length_append, List.length_cons, List.length_nil, srt_len]; omega))) H (lA 3 rfl own_rd l0) rfl rfl (e_fn kn54 rfl rfl) ?_
                rintro v42 _ w rfl H
                refine s_val rfl rfl (r_mv rfl rfl) ?_
                replace H : Hd _ _ _ [osl kPair v42 (srt (([] ++ a) ++ b)), osl kStr v24 (ofL (([] ++ a) ++ b) key), osl kStr v23 ((ofL a key) ++ (ofL b key)), osl kStr (.slice A18 ((ofL b key).length) c19) (ofL b key), osl kPair v15 (([] ++ a) ++ b)] [rsl kPair (.slice A1 a.length c2) a, rsl kPair (.slice A6 b.length c7) b] := H
                refine sc (pairSort_ok (.slice A1 a.length c2) a (by first | omega | decide | (simp only [List.length_append, List.length_cons, List.length_nil, srt_len]; omega))) H (lR 0 rfl l0) rfl rfl (e_fn kn54 rfl rfl) ?_
                rintro v43 _ w rfl H
                refine s_val rfl rfl (r_mv rfl rfl) ?_
                replace H : Hd _ _ _ [osl kPair v43 (srt a), osl kPair v42 (srt (([] ++ a) ++ b)), osl kStr v24 (ofL (([] ++ a) ++ b) key), osl kStr v23 ((ofL a key) ++ (ofL b key)), osl kStr (.slice A18 ((ofL b key).length) c19) (ofL b key), osl kPair v15 (([] ++ a) ++ b)] [rsl kPair (.slice A1 a.length c2) a, rsl kPair (.slice A6 b.length c7) b] := H
                refine sc (pairSort_ok (.slice A6 b.length c7) b (by first | omega | decide | (simp only [List.length_append, List.length_cons, List.length_nil, srt_len]; omega))) H (lR 1 rfl l0) rfl rfl (e_fn kn54 rfl rfl) ?_
                rintro v44 _ w rfl H
                replace H := H.pick 1 rfl
                obtain ⟨A45, c46, rfl, hc47, hm48, hp49⟩ := H.fA 1 rfl
                refine s_appF (xs := srt a) (ys := srt b) rfl rfl rfl sl54 zr91 rfl (by decide) rfl rfl H (by first | omega | (have := ofL_len a key; have := ofL_len b key; (try simp only [List.length_append, List.length_cons, List.length_nil, srt_len]); omega)) (fun F hA hR => own_rd F (hA _ (List.mem_of_getElem? (i := 0) rfl))) (fun v50 w H => ?_)
                replace H : Hd _ _ _ [osl kPair v50 ((srt a) ++ (srt b)), osl kPair (.slice A45 ((srt b).length) c46) (srt b), osl kPair v42 (srt (([] ++ a) ++ b)), osl kStr v24 (ofL (([] ++ a) ++ b) key), osl kStr v23 ((ofL a key) ++ (ofL b key)), osl kStr (.slice A18 ((ofL b key).length) c19) (ofL b key), osl kPair v15 (([] ++ a) ++ b)] [rsl kPair (.slice A1 a.length c2) a, rsl kPair (.slice A6 b.length c7) b] := H
                refine sc (pairSort_ok v50 ((srt a) ++ (srt b)) (by first | omega | decide | (simp only [List.length_append, List.length_cons, List.length_nil, srt_len]; omega))) H (lA 0 rfl own_rd l0) rfl rfl (e_fn kn54 rfl rfl) ?_
                rintro v51 _ w rfl H
                refine sc (samePairs_ok v42 v51 (srt (([] ++ a) ++ b)) (srt ((srt a) ++ (srt b)))) H (lA 3 rfl own_rd (lA 0 rfl own_rd l0)) rfl rfl (e_fn kn48 rfl rfl) ?_
                rintro _ _ w ⟨rfl, rfl⟩ H
                refine s_val rfl rfl (r_pickT rfl rfl rfl) ?_
                refine s_val rfl rfl (r_mv rfl rfl) ?_
                refine s_dec (d := 64) (p := (srt (([] ++ a) ++ b)) = (srt ((srt a) ++ (srt b)))) rfl (fun h52 => ?_) (fun h52 => ?_)
                · skip
                  refine sc (awake7_ok ) H l0 rfl rfl (e_fn kn74 rfl rfl) ?_
                  rintro _ _ w ⟨rfl, rfl⟩ H
                  refine s_val rfl rfl (r_pickT rfl rfl rfl) ?_
                  refine s_val rfl rfl (r_as rfl rfl) ?_
                  refine s_nil ?_
                  refine q_then ?_
                  replace H : Hd _ _ _ [osl kPair v51 (srt ((srt a) ++ (srt b))), osl kPair v50 ((srt a) ++ (srt b)), osl kPair (.slice A45 ((srt b).length) c46) (srt b), osl kPair v42 (srt (([] ++ a) ++ b)), osl kStr v24 (ofL (([] ++ a) ++ b) key), osl kStr v23 ((ofL a key) ++ (ofL b key)), osl kStr (.slice A18 ((ofL b key).length) c19) (ofL b key), osl kPair v15 (([] ++ a) ++ b)] [rsl kPair (.slice A1 a.length c2) a, rsl kPair (.slice A6 b.length c7) b] := H
                  refine c_env [(6, .bool true)] ⟨rfl, trivial⟩ ?_
                  refine c_ret ?_
                  refine q_ret1 rfl rfl ?_
                  replace H := H.keep 0
                  exact fin ⟨rfl, rfl⟩ H
                · exact absurd (srt_congr (Stab.append (srt_stab a) (srt_stab b))) h52
              · exact (h41 rfl).elim
            · exact absurd (by have := may_app a b; first | (simp only [decide_eq_decide]; simp_all) | simp_all) h40
        · exact absurd (of_append a b key) h25

set_option maxHeartbeats 1000000 in
theorem pairTells_ok (vps : Value) (ps : List Pair) (wps : (∀ p ∈ ps, p.key.size ≤ 9223372036854775807 ∧ p.val.size ≤ 9223372036854775807) ∧ ps.length ≤ 9223372036854775807) (vqs : Value) (qs : List Pair) (wqs : (∀ p ∈ qs, p.key.size ≤ 9223372036854775807 ∧ p.val.size ≤ 9223372036854775807) ∧ qs.length ≤ 9223372036854775807) (key : ByteArray) (wkey : key.size ≤ 9223372036854775807) :
    Cn Try.prog 19 [vps, vqs, .string key] [] [rsl kPair vps ps, rsl kPair vqs qs] (fun v Bs => v = .bool true ∧ Bs = []) := by
  intro w0 F0 H
  obtain ⟨A1, c2, rfl, hc3, hm4, hp5⟩ := H.fR 0 rfl
  obtain ⟨A6, c7, rfl, hc8, hm9, hp10⟩ := H.fR 1 rfl
  refine enter (args := [.slice A1 ps.length c2, .slice A6 qs.length c7, .string key]) Try.func19 rfl rfl (Nat.le_of_ble_eq_true rfl) ?_
  refine c_seq ?_
  refine c_reg ?_
  refine s_val rfl rfl (r_as rfl rfl) ?_
  refine s_nil ?_
  refine q_then ?_
  replace H : Hd _ _ _ [] [rsl kPair (.slice A1 ps.length c2) ps, rsl kPair (.slice A6 qs.length c7) qs] := H
  refine c_env [(0, .slice A1 ps.length c2), (1, .slice A6 qs.length c7), (2, .string key), (6, .bool false)] ⟨rfl, rfl, rfl, rfl, trivial⟩ ?_
  refine c_seq ?_
  refine c_seq ?_
  refine c_reg ?_
  refine s_val rfl rfl (r_mv rfl rfl) ?_
  refine sc (greatPairs_ok (.slice A1 ps.length c2) ps 80) H (lR 0 rfl l0) rfl rfl (e_fn kn56 rfl rfl) ?_
  rintro _ _ w ⟨rfl, rfl⟩ H
  refine s_val rfl rfl (r_mv rfl rfl) ?_
  refine s_boo (d := 14) (b := greatP ps 80) rfl (fun h11 => ?_) (fun h11 => ?_)
  · skip
    refine s_no rfl rfl ?_
    refine s_no rfl rfl ?_
    refine s_val rfl rfl (r_pickT rfl rfl rfl) ?_
    refine s_val rfl rfl (r_mv rfl rfl) ?_
    refine s_no rfl rfl ?_
    refine s_no rfl rfl ?_
    refine s_no rfl rfl ?_
    refine s_val rfl rfl (r_pickT rfl rfl rfl) ?_
    refine s_nil ?_
    refine q_then ?_
    refine c_env [(0, .slice A1 ps.length c2), (1, .slice A6 qs.length c7), (2, .string key), (6, .bool false), (22, .bool true)] ⟨rfl, rfl, rfl, rfl, rfl, trivial⟩ ?_
    refine c_yes rfl ?_
    refine c_seq ?_
    refine c_reg ?_
    refine sc (awake7_ok ) H l0 rfl rfl (e_fn kn74 rfl rfl) ?_
    rintro _ _ w ⟨rfl, rfl⟩ H
    refine s_val rfl rfl (r_as rfl rfl) ?_
    refine s_nil ?_
    refine q_then ?_
    refine c_env [(0, .slice A1 ps.length c2), (1, .slice A6 qs.length c7), (2, .string key), (6, .bool true)] ⟨rfl, rfl, rfl, rfl, trivial⟩ ?_
    refine c_ret ?_
    refine q_thenR ?_
    refine q_ret1 rfl rfl ?_
    exact fin ⟨rfl, rfl⟩ H
  · skip
    refine s_val rfl rfl (r_mv rfl rfl) ?_
    refine sc (greatPairs_ok (.slice A6 qs.length c7) qs 80) H (lR 1 rfl l0) rfl rfl (e_fn kn56 rfl rfl) ?_
    rintro _ _ w ⟨rfl, rfl⟩ H
    refine s_val rfl rfl (r_pickF rfl rfl rfl) ?_
    refine s_val rfl rfl (r_mv rfl rfl) ?_
    refine s_boo (d := 18) (b := greatP qs 80) rfl (fun h12 => ?_) (fun h12 => ?_)
    · skip
      refine s_no rfl rfl ?_
      refine s_no rfl rfl ?_
      refine s_no rfl rfl ?_
      refine s_val rfl rfl (r_pickT rfl rfl rfl) ?_
      refine s_nil ?_
      refine q_then ?_
      refine c_env [(0, .slice A1 ps.length c2), (1, .slice A6 qs.length c7), (2, .string key), (6, .bool false), (22, .bool true)] ⟨rfl, rfl, rfl, rfl, rfl, trivial⟩ ?_
      refine c_yes rfl ?_
      refine c_seq ?_
      refine c_reg ?_
      refine sc (awake7_ok ) H l0 rfl rfl (e_fn kn74 rfl rfl) ?_
      rintro _ _ w ⟨rfl, rfl⟩ H
      refine s_val rfl rfl (r_as rfl rfl) ?_
      refine s_nil ?_
      refine q_then ?_
      refine c_env [(0, .slice A1 ps.length c2), (1, .slice A6 qs.length c7), (2, .string key), (6, .bool true)] ⟨rfl, rfl, rfl, rfl, trivial⟩ ?_
      refine c_ret ?_
      refine q_thenR ?_
      refine q_ret1 rfl rfl ?_
      exact fin ⟨rfl, rfl⟩ H
    · skip
      refine s_val rfl rfl (r_mv rfl rfl) ?_
      refine s_val rfl rfl (r_lenS rfl un9 rfl) ?_
      refine s_val rfl rfl (r_gt rfl rfl rfl) ?_
      refine s_val rfl rfl (r_pickF rfl rfl rfl) ?_
      refine s_nil ?_
      refine q_then ?_
      refine c_env [(0, .slice A1 ps.length c2), (1, .slice A6 qs.length c7), (2, .string key), (6, .bool false), (22, .bool (decide ((100 : Int) < ((key.size : Nat) : Int))))] ⟨rfl, rfl, rfl, rfl, rfl, trivial⟩ ?_
      refine c_dec (p := (100 : Int) < ((key.size : Nat) : Int)) rfl (fun h13 => ?_) (fun h13 => ?_)
      · skip
        refine c_seq ?_
        refine c_reg ?_
        refine sc (awake7_ok ) H l0 rfl rfl (e_fn kn74 rfl rfl) ?_
        rintro _ _ w ⟨rfl, rfl⟩ H
        refine s_val rfl rfl (r_as rfl rfl) ?_
        refine s_nil ?_
        refine q_then ?_
        refine c_env [(0, .slice A1 ps.length c2), (1, .slice A6 qs.length c7), (2, .string key), (6, .bool true)] ⟨rfl, rfl, rfl, rfl, trivial⟩ ?_
        refine c_ret ?_
        refine q_thenR ?_
        refine q_ret1 rfl rfl ?_
        exact fin ⟨rfl, rfl⟩ H
      · skip
        refine c_skip ?_
        refine q_then ?_
        refine c_env [(0, .slice A1 ps.length c2), (1, .slice A6 qs.length c7), (2, .string key), (6, .bool false)] ⟨rfl, rfl, rfl, rfl, trivial⟩ ?_
        refine c_seq ?_
        have hgh11 := (greatP_no h11).1
        have hgh12 := (greatP_no h12).1
        refine c_reg ?_
        refine s_val rfl rfl (r_mv rfl rfl) ?_
        refine sc (lendPairs_ok (.slice A1 ps.length c2) ps (by omega)) H (lR 0 rfl l0) rfl rfl (e_fn kn51 rfl rfl) ?_
        rintro _ _ w ⟨b14, rfl, rfl⟩ H
        refine s_val rfl rfl (r_as rfl rfl) ?_
        refine s_nil ?_
        refine q_then ?_
        replace H : Hd _ _ _ [rowF encPair b14 91 (ps ++ List.replicate 3 (⟨⟨#[108, 101, 110, 116]⟩, ⟨#[]⟩⟩ : Pair))] [rsl kPair (.slice A1 ps.length c2) ps, rsl kPair (.slice A6 qs.length c7) qs] := H
        refine c_env [(0, .slice A1 ps.length c2), (1, .slice A6 qs.length c7), (2, .string key), (6, .bool false), (7, .slice (some ⟨b14, 0, none⟩) ps.length (ps.length + 3))] ⟨rfl, rfl, rfl, rfl, rfl, trivial⟩ ?_
        refine c_seq ?_
        refine c_reg ?_
        refine s_val rfl rfl (r_mv rfl rfl) ?_
        refine sc (pairSort_ok (.slice (some ⟨b14, 0, none⟩) ps.length (ps.length + 3)) ps (by first | omega | decide | (simp only [List.length_append, List.length_cons, List.length_nil, srt_len]; omega))) H (lA 0 rfl (fun F h => rowF_rsl (i := 0) h (by first | (simp; done) | exact List.take_of_length_le (by simp)) (by simp) (by simp) (by omega) (by simp)) l0) rfl rfl (e_fn kn54 rfl rfl) ?_
        rintro v15 _ w rfl H
        refine s_val rfl rfl (r_mv rfl rfl) ?_
        replace H : Hd _ _ _ [osl kPair v15 (srt ps), rowF encPair b14 91 (ps ++ List.replicate 3 (⟨⟨#[108, 101, 110, 116]⟩, ⟨#[]⟩⟩ : Pair))] [rsl kPair (.slice A1 ps.length c2) ps, rsl kPair (.slice A6 qs.length c7) qs] := H
        refine sc (pKeys_ok (.slice (some ⟨b14, 0, none⟩) ps.length (ps.length + 3)) ps (by first | omega | decide | (simp only [List.length_append, List.length_cons, List.length_nil, srt_len]; omega))) H (lA 1 rfl (fun F h => rowF_rsl (i := 0) h (by first | (simp; done) | exact List.take_of_length_le (by simp)) (by simp) (by simp) (by omega) (by simp)) l0) rfl rfl (e_fn kn75 rfl rfl) ?_
        rintro v16 _ w rfl H
        refine s_val rfl rfl (r_mv rfl rfl) ?_
        refine s_val rfl rfl (r_mv rfl rfl) ?_
        replace H : Hd _ _ _ [osl kStr v16 (keysL ps), osl kPair v15 (srt ps), rowF encPair b14 91 (ps ++ List.replicate 3 (⟨⟨#[108, 101, 110, 116]⟩, ⟨#[]⟩⟩ : Pair))] [rsl kPair (.slice A1 ps.length c2) ps, rsl kPair (.slice A6 qs.length c7) qs] := H
        refine sc (pOf_ok (.slice (some ⟨b14, 0, none⟩) ps.length (ps.length + 3)) ps key (by first | omega | decide | (simp only [List.length_append, List.length_cons, List.length_nil, srt_len]; omega))) H (lA 2 rfl (fun F h => rowF_rsl (i := 0) h (by first | (simp; done) | exact List.take_of_length_le (by simp)) (by simp) (by simp) (by omega) (by simp)) l0) rfl rfl (e_fn kn57 rfl rfl) ?_
        rintro v17 _ w rfl H
        refine s_val rfl rfl (r_as rfl rfl) ?_
        refine s_val rfl rfl (r_as rfl rfl) ?_
        refine s_val rfl rfl (r_as rfl rfl) ?_
        refine s_nil ?_
        refine q_then ?_
        replace H : Hd _ _ _ [osl kStr v17 (ofL ps key), osl kStr v16 (keysL ps), osl kPair v15 (srt ps), rowF encPair b14 91 (ps ++ List.replicate 3 (⟨⟨#[108, 101, 110, 116]⟩, ⟨#[]⟩⟩ : Pair))] [rsl kPair (.slice A1 ps.length c2) ps, rsl kPair (.slice A6 qs.length c7) qs] := H
        refine c_env [(0, .slice A1 ps.length c2), (1, .slice A6 qs.length c7), (2, .string key), (6, .bool false), (7, .slice (some ⟨b14, 0, none⟩) ps.length (ps.length + 3)), (8, v15), (9, v16), (10, v17)] ⟨rfl, rfl, rfl, rfl, rfl, rfl, rfl, rfl, trivial⟩ ?_
        refine c_seq ?_
        refine c_reg ?_
        refine s_val rfl rfl (r_mv rfl rfl) ?_
        refine s_val rfl rfl (r_mv rfl rfl) ?_
        refine sc (rSort_ok (.slice A1 ps.length c2) ps (by first | omega | decide | (simp only [List.length_append, List.length_cons, List.length_nil, srt_len]; omega))) H (lR 0 rfl l0) rfl rfl (e_fn kn76 rfl rfl) ?_
        rintro v18 _ w rfl H
        refine sc (samePairs_ok v15 v18 (srt ps) (srt ps)) H (lA 3 rfl own_rd (lA 0 rfl own_rd l0)) rfl rfl (e_fn kn48 rfl rfl) ?_
        rintro _ _ w ⟨rfl, rfl⟩ H
        refine s_val rfl rfl (r_mv rfl rfl) ?_
        refine s_dec (d := 37) (p := (srt ps) = (srt ps)) rfl (fun h19 => ?_) (fun h19 => ?_)
        · skip
          refine s_val rfl rfl (r_mv rfl rfl) ?_
          refine s_val rfl rfl (r_mv rfl rfl) ?_
          replace H : Hd _ _ _ [osl kPair v18 (srt ps), osl kStr v17 (ofL ps key), osl kStr v16 (keysL ps), osl kPair v15 (srt ps), rowF encPair b14 91 (ps ++ List.replicate 3 (⟨⟨#[108, 101, 110, 116]⟩, ⟨#[]⟩⟩ : Pair))] [rsl kPair (.slice A1 ps.length c2) ps, rsl kPair (.slice A6 qs.length c7) qs] := H
          refine sc (rKeys_ok (.slice A1 ps.length c2) ps (by first | omega | decide | (simp only [List.length_append, List.length_cons, List.length_nil, srt_len]; omega))) H (lR 0 rfl l0) rfl rfl (e_fn kn77 rfl rfl) ?_
          rintro v20 _ w rfl H
          refine sc (sameTexts_ok v16 v20 (keysL ps) (refK [] (ps.map (·.key)))) H (lA 3 rfl own_rd (lA 0 rfl own_rd l0)) rfl rfl (e_fn kn59 rfl rfl) ?_
          rintro _ _ w ⟨rfl, rfl⟩ H
          refine s_val rfl rfl (r_pickT rfl rfl rfl) ?_
          refine s_val rfl rfl (r_mv rfl rfl) ?_
          refine s_dec (d := 43) (p := (keysL ps) = (refK [] (ps.map (·.key)))) rfl (fun h21 => ?_) (fun h21 => ?_)
          · skip
            refine s_val rfl rfl (r_mv rfl rfl) ?_
            refine s_val rfl rfl (r_mv rfl rfl) ?_
            refine s_val rfl rfl (r_mv rfl rfl) ?_
            replace H : Hd _ _ _ [osl kStr v20 (refK [] (ps.map (·.key))), osl kPair v18 (srt ps), osl kStr v17 (ofL ps key), osl kStr v16 (keysL ps), osl kPair v15 (srt ps), rowF encPair b14 91 (ps ++ List.replicate 3 (⟨⟨#[108, 101, 110, 116]⟩, ⟨#[]⟩⟩ : Pair))] [rsl kPair (.slice A1 ps.length c2) ps, rsl kPair (.slice A6 qs.length c7) qs] := H
            refine sc (rOf_ok (.slice A1 ps.length c2) ps key (by first | omega | decide | (simp only [List.length_append, List.length_cons, List.length_nil, srt_len]; omega))) H (lR 0 rfl l0) rfl rfl (e_fn kn78 rfl rfl) ?_
            rintro v22 _ w rfl H
            refine sc (sameTexts_ok v17 v22 (ofL ps key) (ofL ps key)) H (lA 3 rfl own_rd (lA 0 rfl own_rd l0)) rfl rfl (e_fn kn59 rfl rfl) ?_
            rintro _ _ w ⟨rfl, rfl⟩ H
            refine s_val rfl rfl (r_pickT rfl rfl rfl) ?_
            refine s_val rfl rfl (r_mv rfl rfl) ?_
            refine s_dec (d := 50) (p := (ofL ps key) = (ofL ps key)) rfl (fun h23 => ?_) (fun h23 => ?_)
            · skip
              refine s_val rfl rfl (r_mv rfl rfl) ?_
              refine sc (pMayL_ok (.slice (some ⟨b14, 0, none⟩) ps.length (ps.length + 3)) ps) H (lA 6 rfl (fun F h => rowF_rsl (i := 0) h (by first | (simp; done) | exact List.take_of_length_le (by simp)) (by simp) (by simp) (by omega) (by simp)) l0) rfl rfl (e_fn kn79 rfl rfl) ?_
              rintro _ _ w ⟨rfl, rfl⟩ H
              refine s_val rfl rfl (r_mv rfl rfl) ?_
              refine sc (rMayL_ok (.slice A1 ps.length c2) ps) H (lR 0 rfl l0) rfl rfl (e_fn kn80 rfl rfl) ?_
              rintro _ _ w ⟨rfl, rfl⟩ H
              refine s_val rfl rfl (r_beq rfl un4 rfl rfl) ?_
              refine s_val rfl rfl (r_pickT rfl rfl rfl) ?_
              refine s_val rfl rfl (r_mv rfl rfl) ?_
              refine s_dec (d := 57) (p := (decide (mayL ps)) = (decide (mayL ps))) rfl (fun h24 => ?_) (fun h24 => ?_)
              · skip
                refine s_val rfl rfl (r_mv rfl rfl) ?_
                refine sc (sorted_ok (.slice (some ⟨b14, 0, none⟩) ps.length (ps.length + 3)) ps (by first | omega | decide | (simp only [List.length_append, List.length_cons, List.length_nil, srt_len]; omega))) H (lA 6 rfl (fun F h => rowF_rsl (i := 0) h (by first | (simp; done) | exact List.take_of_length_le (by simp)) (by simp) (by simp) (by omega) (by simp)) l0) rfl rfl (e_fn kn55 rfl rfl) ?_
                rintro _ _ w ⟨rfl, rfl⟩ H
                refine s_val rfl rfl (r_mv rfl rfl) ?_
                refine s_val rfl rfl (r_mv rfl rfl) ?_
                replace H : Hd _ _ _ [osl kStr v22 (ofL ps key), osl kStr v20 (refK [] (ps.map (·.key))), osl kPair v18 (srt ps), osl kStr v17 (ofL ps key), osl kStr v16 (keysL ps), osl kPair v15 (srt ps), rowF encPair b14 91 (ps ++ List.replicate 3 (⟨⟨#[108, 101, 110, 116]⟩, ⟨#[]⟩⟩ : Pair))] [rsl kPair (.slice A1 ps.length c2) ps, rsl kPair (.slice A6 qs.length c7) qs] := H
                refine sc (rSort_ok (.slice A1 ps.length c2) ps (by first | omega | decide | (simp only [List.length_append, List.length_cons, List.length_nil, srt_len]; omega))) H (lR 0 rfl l0) rfl rfl (e_fn kn76 rfl rfl) ?_
                rintro v25 _ w rfl H
                refine sc (samePairs_ok (.slice A1 ps.length c2) v25 ps (srt ps)) H (lR 0 rfl (lA 0 rfl own_rd l0)) rfl rfl (e_fn kn48 rfl rfl) ?_
                rintro _ _ w ⟨rfl, rfl⟩ H
                refine s_val rfl rfl (r_beq rfl un4 rfl rfl) ?_
                refine s_val rfl rfl (r_pickT rfl rfl rfl) ?_
                refine s_val rfl rfl (r_mv rfl rfl) ?_
                refine s_dec (d := 66) (p := (decide (Ord ps)) = (decide (ps = (srt ps)))) rfl (fun h26 => ?_) (fun h26 => ?_)
                · skip
                  refine s_val rfl rfl (r_mv rfl rfl) ?_
                  refine s_val rfl rfl (r_mv rfl rfl) ?_
                  refine sc (pSame_ok (.slice (some ⟨b14, 0, none⟩) ps.length (ps.length + 3)) ps (.slice A6 qs.length c7) qs) H (lA 7 rfl (fun F h => rowF_rsl (i := 0) h (by first | (simp; done) | exact List.take_of_length_le (by simp)) (by simp) (by simp) (by omega) (by simp)) (lR 1 rfl l0)) rfl rfl (e_fn kn81 rfl rfl) ?_
                  rintro _ _ w ⟨rfl, rfl⟩ H
                  refine s_val rfl rfl (r_mv rfl rfl) ?_
                  refine s_val rfl rfl (r_mv rfl rfl) ?_
                  refine sc (rSameP_ok (.slice A1 ps.length c2) (.slice A6 qs.length c7) ps qs) H (lR 0 rfl (lR 1 rfl l0)) rfl rfl (e_fn kn82 rfl rfl) ?_
                  rintro _ _ w ⟨rfl, rfl⟩ H
                  refine s_val rfl rfl (r_beq rfl un4 rfl rfl) ?_
                  refine s_val rfl rfl (r_pickT rfl rfl rfl) ?_
                  refine s_val rfl rfl (r_as rfl rfl) ?_
                  refine s_nil ?_
                  refine q_then ?_
                  replace H : Hd _ _ _ [osl kPair v25 (srt ps), osl kStr v22 (ofL ps key), osl kStr v20 (refK [] (ps.map (·.key))), osl kPair v18 (srt ps), osl kStr v17 (ofL ps key), osl kStr v16 (keysL ps), osl kPair v15 (srt ps), rowF encPair b14 91 (ps ++ List.replicate 3 (⟨⟨#[108, 101, 110, 116]⟩, ⟨#[]⟩⟩ : Pair))] [rsl kPair (.slice A1 ps.length c2) ps, rsl kPair (.slice A6 qs.length c7) qs] := H
                  refine c_env [(0, .slice A1 ps.length c2), (6, .bool false), (7, .slice (some ⟨b14, 0, none⟩) ps.length (ps.length + 3)), (8, v15), (9, v16), (10, v17), (11, .bool (decide ((decide (ps = qs)) = (decide (ps = qs)))))] ⟨rfl, rfl, rfl, rfl, rfl, rfl, rfl, trivial⟩ ?_
                  refine c_seq ?_
                  refine c_reg ?_
                  refine s_val rfl rfl (r_mv rfl rfl) ?_
                  replace H := H.pick 6 rfl
                  replace H : Hd _ _ _ [osl kPair v15 (srt ps), osl kPair v25 (srt ps), osl kStr v22 (ofL ps key), osl kStr v20 (refK [] (ps.map (·.key))), osl kPair v18 (srt ps), osl kStr v17 (ofL ps key), osl kStr v16 (keysL ps), rowF encPair b14 91 (ps ++ List.replicate 3 (⟨⟨#[108, 101, 110, 116]⟩, ⟨#[]⟩⟩ : Pair))] [rsl kPair (.slice A1 ps.length c2) ps, rsl kPair (.slice A6 qs.length c7) qs] := H
                  refine sc (overPairs_ok v15 (srt ps) (by first | (rw [srt_len]; omega) | (have := keysL_len ps; omega) | (have := ofL_len ps key; omega))) H l0 rfl rfl (e_fn kn50 rfl rfl) ?_
                  rintro _ _ w rfl H
                  refine s_nil ?_
                  refine q_then ?_
                  replace H : Hd _ _ _ [osl kPair v25 (srt ps), osl kStr v22 (ofL ps key), osl kStr v20 (refK [] (ps.map (·.key))), osl kPair v18 (srt ps), osl kStr v17 (ofL ps key), osl kStr v16 (keysL ps), rowF encPair b14 91 (ps ++ List.replicate 3 (⟨⟨#[108, 101, 110, 116]⟩, ⟨#[]⟩⟩ : Pair))] [rsl kPair (.slice A1 ps.length c2) ps, rsl kPair (.slice A6 qs.length c7) qs] := H
                  refine c_env [(0, .slice A1 ps.length c2), (6, .bool false), (7, .slice (some ⟨b14, 0, none⟩) ps.length (ps.length + 3)), (9, v16), (10, v17), (11, .bool (decide ((decide (ps = qs)) = (decide (ps = qs)))))] ⟨rfl, rfl, rfl, rfl, rfl, rfl, trivial⟩ ?_
                  refine c_seq ?_
                  refine c_reg ?_
                  refine s_val rfl rfl (r_mv rfl rfl) ?_
                  replace H := H.pick 5 rfl
                  replace H : Hd _ _ _ [osl kStr v16 (keysL ps), osl kPair v25 (srt ps), osl kStr v22 (ofL ps key), osl kStr v20 (refK [] (ps.map (·.key))), osl kPair v18 (srt ps), osl kStr v17 (ofL ps key), rowF encPair b14 91 (ps ++ List.replicate 3 (⟨⟨#[108, 101, 110, 116]⟩, ⟨#[]⟩⟩ : Pair))] [rsl kPair (.slice A1 ps.length c2) ps, rsl kPair (.slice A6 qs.length c7) qs] := H
                  refine sc (overTexts_ok v16 (keysL ps) (by first | (rw [srt_len]; omega) | (have := keysL_len ps; omega) | (have := ofL_len ps key; omega))) H l0 rfl rfl (e_fn kn83 rfl rfl) ?_
                  rintro _ _ w rfl H
                  refine s_nil ?_
                  refine q_then ?_
                  replace H : Hd _ _ _ [osl kPair v25 (srt ps), osl kStr v22 (ofL ps key), osl kStr v20 (refK [] (ps.map (·.key))), osl kPair v18 (srt ps), osl kStr v17 (ofL ps key), rowF encPair b14 91 (ps ++ List.replicate 3 (⟨⟨#[108, 101, 110, 116]⟩, ⟨#[]⟩⟩ : Pair))] [rsl kPair (.slice A1 ps.length c2) ps, rsl kPair (.slice A6 qs.length c7) qs] := H
                  refine c_env [(0, .slice A1 ps.length c2), (6, .bool false), (7, .slice (some ⟨b14, 0, none⟩) ps.length (ps.length + 3)), (10, v17), (11, .bool (decide ((decide (ps = qs)) = (decide (ps = qs)))))] ⟨rfl, rfl, rfl, rfl, rfl, trivial⟩ ?_
                  refine c_seq ?_
                  refine c_reg ?_
                  refine s_val rfl rfl (r_mv rfl rfl) ?_
                  replace H := H.pick 4 rfl
                  replace H : Hd _ _ _ [osl kStr v17 (ofL ps key), osl kPair v25 (srt ps), osl kStr v22 (ofL ps key), osl kStr v20 (refK [] (ps.map (·.key))), osl kPair v18 (srt ps), rowF encPair b14 91 (ps ++ List.replicate 3 (⟨⟨#[108, 101, 110, 116]⟩, ⟨#[]⟩⟩ : Pair))] [rsl kPair (.slice A1 ps.length c2) ps, rsl kPair (.slice A6 qs.length c7) qs] := H
                  refine sc (overTexts_ok v17 (ofL ps key) (by first | (rw [srt_len]; omega) | (have := keysL_len ps; omega) | (have := ofL_len ps key; omega))) H l0 rfl rfl (e_fn kn83 rfl rfl) ?_
                  rintro _ _ w rfl H
                  refine s_nil ?_
                  refine q_then ?_
                  replace H : Hd _ _ _ [osl kPair v25 (srt ps), osl kStr v22 (ofL ps key), osl kStr v20 (refK [] (ps.map (·.key))), osl kPair v18 (srt ps), rowF encPair b14 91 (ps ++ List.replicate 3 (⟨⟨#[108, 101, 110, 116]⟩, ⟨#[]⟩⟩ : Pair))] [rsl kPair (.slice A1 ps.length c2) ps, rsl kPair (.slice A6 qs.length c7) qs] := H
                  refine c_env [(0, .slice A1 ps.length c2), (6, .bool false), (7, .slice (some ⟨b14, 0, none⟩) ps.length (ps.length + 3)), (11, .bool (decide ((decide (ps = qs)) = (decide (ps = qs)))))] ⟨rfl, rfl, rfl, rfl, trivial⟩ ?_
                  refine c_seq ?_
                  refine c_reg ?_
                  refine s_val rfl rfl (r_mv rfl rfl) ?_
                  refine s_val rfl rfl (r_mv rfl rfl) ?_
                  refine s_dec (d := 82) (p := (decide (ps = qs)) = (decide (ps = qs))) rfl (fun h27 => ?_) (fun h27 => ?_)
                  · skip
                    refine s_val rfl rfl (r_mv rfl rfl) ?_
                    refine s_val rfl rfl (r_mv rfl rfl) ?_
                    refine sc (keptPairs_ok b14 ps (.slice A1 ps.length c2) ps (by omega)) H (lA 4 rfl (fun _ h => h) (lR 0 rfl l0)) rfl rfl (e_fn kn53 rfl rfl) ?_
                    rintro _ _ w ⟨rfl, rfl⟩ H
                    refine s_val rfl rfl (r_pickT rfl rfl rfl) ?_
                    refine s_val rfl rfl (r_mv rfl rfl) ?_
                    refine s_dec (d := 87) (p := ps = ps) rfl (fun h28 => ?_) (fun h28 => ?_)
                    · skip
                      refine sc (awake7_ok ) H l0 rfl rfl (e_fn kn74 rfl rfl) ?_
                      rintro _ _ w ⟨rfl, rfl⟩ H
                      refine s_val rfl rfl (r_pickT rfl rfl rfl) ?_
                      refine s_val rfl rfl (r_as rfl rfl) ?_
                      refine s_nil ?_
                      refine q_then ?_
                      refine c_env [(6, .bool true)] ⟨rfl, trivial⟩ ?_
                      refine c_ret ?_
                      refine q_ret1 rfl rfl ?_
                      replace H := H.keep 0
                      exact fin ⟨rfl, rfl⟩ H
                    · exact (h28 rfl).elim
                  · exact (h27 rfl).elim
                · exact absurd (decide_eq_decide.2 ord_iff) h26
              · exact (h24 rfl).elim
            · exact (h23 rfl).elim
          · exact absurd (keys_ref ps) h21
        · exact (h19 rfl).elim

end Go.Proofs.Ytnaaahpmnhoabaa.X
