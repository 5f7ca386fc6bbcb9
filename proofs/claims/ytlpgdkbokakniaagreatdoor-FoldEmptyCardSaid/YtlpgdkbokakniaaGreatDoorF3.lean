/- The walk of the statement on nothing told. -/
import Derived.Test.YtlpgdkbokakniaaGreatDoorF2
set_option linter.unusedVariables false
set_option linter.unusedSimpArgs false
namespace Go.Proofs.YtlpgdkbokakniaaGreatDoor.X
open Go
set_option maxHeartbeats 1000000 in
theorem great9_ok (vp : Value) (p : List Ins) (vps : Value) (ps : List Pair) :
    Cn Tryz.prog 8 [vp, vps] [] [rsl kIns vp p, rsl kPair vps ps] (fun v Bs => v = .bool (greatC p || greatP ps 60) ∧ Bs = []) := by
  intro w0 F0 H
  obtain ⟨A1, c2, rfl, hc3, hm4, hp5⟩ := H.fR 0 rfl
  obtain ⟨A6, c7, rfl, hc8, hm9, hp10⟩ := H.fR 1 rfl
  refine enter (args := [.slice A1 p.length c2, .slice A6 ps.length c7]) Tryz.func8 rfl rfl (Nat.le_of_ble_eq_true rfl) ?_
  refine c_seq ?_
  refine c_reg ?_
  refine s_val rfl rfl (r_as rfl rfl) ?_
  refine s_nil ?_
  refine q_then ?_
  replace H : Hd _ _ _ [] [rsl kIns (.slice A1 p.length c2) p, rsl kPair (.slice A6 ps.length c7) ps] := H
  refine c_env [(0, .slice A1 p.length c2), (1, .slice A6 ps.length c7), (4, .bool false)] ⟨rfl, rfl, rfl, trivial⟩ ?_
  refine c_seq ?_
  refine c_reg ?_
  refine s_val rfl rfl (r_mv rfl rfl) ?_
  refine sc (greatCode_ok (.slice A1 p.length c2) p) H (lR 0 rfl l0) rfl rfl (e_fn kn12 rfl rfl) ?_
  rintro _ _ w ⟨rfl, rfl⟩ H
  refine s_val rfl rfl (r_mv rfl rfl) ?_
  refine s_boo (d := 7) (b := greatC p) rfl (fun h11 => ?_) (fun h11 => ?_)
  · skip
    refine s_no rfl rfl ?_
    refine s_no rfl rfl ?_
    refine s_val rfl rfl (r_pickT rfl rfl rfl) ?_
    refine s_val rfl rfl (r_as rfl rfl) ?_
    refine s_nil ?_
    refine q_then ?_
    refine c_env [(4, .bool true)] ⟨rfl, trivial⟩ ?_
    refine c_ret ?_
    refine q_ret1 rfl rfl ?_
    exact fin ⟨by rw [h11]; rfl, rfl⟩ H
  · skip
    refine s_val rfl rfl (r_mv rfl rfl) ?_
    refine sc (greatPairs_ok (.slice A6 ps.length c7) ps 60) H (lR 1 rfl l0) rfl rfl (e_fn kn14 rfl rfl) ?_
    rintro _ _ w ⟨rfl, rfl⟩ H
    refine s_val rfl rfl (r_pickF rfl rfl rfl) ?_
    refine s_val rfl rfl (r_as rfl rfl) ?_
    refine s_nil ?_
    refine q_then ?_
    refine c_env [(4, .bool (greatP ps 60))] ⟨rfl, trivial⟩ ?_
    refine c_ret ?_
    refine q_ret1 rfl rfl ?_
    exact fin ⟨by rw [h11]; rfl, rfl⟩ H

set_option maxHeartbeats 1000000 in
theorem first_ok  :
    Cn Tryz.prog 31 [] [] [] (fun v Bs => Bs = [osl kIns v firstP]) := by
  intro w0 F0 H
  refine enter (args := []) Tryz.func31 rfl rfl (Nat.le_of_ble_eq_true rfl) ?_
  refine c_seq ?_
  refine c_reg ?_
  refine s_val rfl rfl (r_as rfl rfl) ?_
  refine s_nil ?_
  refine q_then ?_
  refine c_env [(0, .slice none 0 0)] ⟨rfl, trivial⟩ ?_
  refine c_seq ?_
  refine c_reg ?_
  refine s_val rfl rfl (r_bd (parts := [(0, .const (.int .i64 6))]) (vs := [.int .i64 6]) (cs := [.int .i64 6, .int .i64 0, .string ⟨#[]⟩]) rfl bd29 rfl rfl) ?_
  refine s_val rfl rfl (r_bd (parts := [(0, .const (.int .i64 7))]) (vs := [.int .i64 7]) (cs := [.int .i64 7, .int .i64 0, .string ⟨#[]⟩]) rfl bd29 rfl rfl) ?_
  refine s_val rfl rfl (r_bd (parts := [(0, .const (.int .i64 4))]) (vs := [.int .i64 4]) (cs := [.int .i64 4, .int .i64 0, .string ⟨#[]⟩]) rfl bd29 rfl rfl) ?_
  refine s_val rfl rfl (r_bd (parts := [(0, .const (.int .i64 23))]) (vs := [.int .i64 23]) (cs := [.int .i64 23, .int .i64 0, .string ⟨#[]⟩]) rfl bd29 rfl rfl) ?_
  refine s_bsl (parts := [(0, .tmp 1), (1, .tmp 2), (2, .tmp 3), (3, .tmp 4)]) (vs := [.agg #[.int .i64 6, .int .i64 0, .string ⟨#[]⟩], .agg #[.int .i64 7, .int .i64 0, .string ⟨#[]⟩], .agg #[.int .i64 4, .int .i64 0, .string ⟨#[]⟩], .agg #[.int .i64 23, .int .i64 0, .string ⟨#[]⟩]]) (cs := [.int .i64 6, .int .i64 0, .string ⟨#[]⟩, .int .i64 7, .int .i64 0, .string ⟨#[]⟩, .int .i64 4, .int .i64 0, .string ⟨#[]⟩, .int .i64 23, .int .i64 0, .string ⟨#[]⟩]) rfl rfl rfl sl22 zr29 rfl (by decide) (by decide) rfl rfl H (fun b1 w H => ?_)
  refine s_val rfl rfl (r_as rfl rfl) ?_
  refine s_nil ?_
  refine q_then ?_
  replace H : Hd _ _ _ [blk b1 [.int .i64 6, .int .i64 0, .string ⟨#[]⟩, .int .i64 7, .int .i64 0, .string ⟨#[]⟩, .int .i64 4, .int .i64 0, .string ⟨#[]⟩, .int .i64 23, .int .i64 0, .string ⟨#[]⟩] 29] [] := H
  refine c_env [(0, .slice (some ⟨b1, 0, none⟩) 4 4)] ⟨rfl, trivial⟩ ?_
  refine c_ret ?_
  refine q_ret1 rfl rfl ?_
  replace H : Hd w0 F0 w [osl kIns (.slice (some ⟨b1, 0, none⟩) 4 4) firstP] [] := H.turn (fun F h => blk_osl h rfl (by decide) rfl)
  exact fin rfl H

set_option maxHeartbeats 1000000 in
theorem awake9_ok  :
    Cn Tryz.prog 9 [] [] [gl] (fun v Bs => v = .bool true ∧ Bs = []) := by
  intro w0 F0 H
  refine enter (args := []) Tryz.func9 rfl rfl (Nat.le_of_ble_eq_true rfl) ?_
  refine c_seq ?_
  refine c_reg ?_
  refine s_val rfl rfl (r_as rfl rfl) ?_
  refine s_nil ?_
  refine q_then ?_
  refine c_env [(0, .bool false)] ⟨rfl, trivial⟩ ?_
  refine c_seq ?_
  refine c_reg ?_
  refine s_val rfl rfl (r_bd (parts := [(0, .const (.string ⟨#[98]⟩)), (1, .const (.string ⟨#[49]⟩))]) (vs := [.string ⟨#[98]⟩, .string ⟨#[49]⟩]) (cs := [.string ⟨#[98]⟩, .string ⟨#[49]⟩]) rfl bd56 rfl rfl) ?_
  refine s_val rfl rfl (r_bd (parts := [(0, .const (.string ⟨#[97]⟩)), (1, .const (.string ⟨#[50]⟩))]) (vs := [.string ⟨#[97]⟩, .string ⟨#[50]⟩]) (cs := [.string ⟨#[97]⟩, .string ⟨#[50]⟩]) rfl bd56 rfl rfl) ?_
  refine s_val rfl rfl (r_bd (parts := [(0, .const (.string ⟨#[98]⟩)), (1, .const (.string ⟨#[48]⟩))]) (vs := [.string ⟨#[98]⟩, .string ⟨#[48]⟩]) (cs := [.string ⟨#[98]⟩, .string ⟨#[48]⟩]) rfl bd56 rfl rfl) ?_
  refine s_bsl (parts := [(0, .tmp 6), (1, .tmp 7), (2, .tmp 8)]) (vs := [.agg #[.string ⟨#[98]⟩, .string ⟨#[49]⟩], .agg #[.string ⟨#[97]⟩, .string ⟨#[50]⟩], .agg #[.string ⟨#[98]⟩, .string ⟨#[48]⟩]]) (cs := [.string ⟨#[98]⟩, .string ⟨#[49]⟩, .string ⟨#[97]⟩, .string ⟨#[50]⟩, .string ⟨#[98]⟩, .string ⟨#[48]⟩]) rfl rfl rfl sl23 zr56 rfl (by decide) (by decide) rfl rfl H (fun b1 w H => ?_)
  refine s_val rfl rfl (r_as rfl rfl) ?_
  refine s_nil ?_
  refine q_then ?_
  replace H : Hd _ _ _ [blk b1 [.string ⟨#[98]⟩, .string ⟨#[49]⟩, .string ⟨#[97]⟩, .string ⟨#[50]⟩, .string ⟨#[98]⟩, .string ⟨#[48]⟩] 56] [gl] := H
  refine c_env [(0, .bool false), (1, .slice (some ⟨b1, 0, none⟩) 3 3)] ⟨rfl, rfl, trivial⟩ ?_
  refine c_seq ?_
  refine c_reg ?_
  refine sc (first_ok) H l0 rfl rfl (e_fn kn31 rfl rfl) ?_
  rintro v2 _ w rfl H
  refine s_val rfl rfl (r_mv rfl rfl) ?_
  refine sc (foldEach_ok v2 firstP (.slice (some ⟨b1, 0, none⟩) 3 3) [(⟨⟨#[98]⟩, ⟨#[49]⟩⟩ : Pair), (⟨⟨#[97]⟩, ⟨#[50]⟩⟩ : Pair), (⟨⟨#[98]⟩, ⟨#[48]⟩⟩ : Pair)] 9 (by first | exact hpa | exact in64_first | exact in64_halt | (intro i hi; cases hi)) (by first | assumption | (unfold In64; omega)) (by first | omega | decide | (simp only [List.length_cons, List.length_nil]; omega))) H (lA 0 rfl own_rd (lA 1 rfl (fun F h => blk_rsl h rfl (by decide) (RepsR.flat_eq.2 rfl)) (lR 0 rfl l0))) rfl rfl (e_fn kn10 rfl rfl) ?_
  rintro _ _ w ⟨u3, rfl, rfl⟩ H
  rw [first_each] at H ⊢
  replace H : Hd _ _ _ [osl kPair u3 [(⟨⟨#[97]⟩, ⟨#[50]⟩⟩ : Pair), (⟨⟨#[98]⟩, ⟨#[49]⟩⟩ : Pair)], osl kIns v2 firstP, blk b1 [.string ⟨#[98]⟩, .string ⟨#[49]⟩, .string ⟨#[97]⟩, .string ⟨#[50]⟩, .string ⟨#[98]⟩, .string ⟨#[48]⟩] 56] [gl] := H
  refine s_val rfl rfl (r_mv rfl rfl) ?_
  refine s_val rfl rfl (r_ex rfl rfl rfl) ?_
  refine s_val rfl rfl (r_ex rfl rfl rfl) ?_
  refine s_val rfl rfl (r_as rfl rfl) ?_
  refine s_val rfl rfl (r_as rfl rfl) ?_
  refine s_nil ?_
  refine q_then ?_
  refine c_env [(0, .bool false), (1, .slice (some ⟨b1, 0, none⟩) 3 3), (2, u3), (3, .int .i64 0)] ⟨rfl, rfl, rfl, rfl, trivial⟩ ?_
  refine c_seq ?_
  refine c_reg ?_
  refine s_val rfl rfl (r_mv rfl rfl) ?_
  refine sc (foldCombine_ok (.slice none 0 0) ([] : List Ins) (.slice (some ⟨b1, 0, none⟩) 3 3) [(⟨⟨#[98]⟩, ⟨#[49]⟩⟩ : Pair), (⟨⟨#[97]⟩, ⟨#[50]⟩⟩ : Pair), (⟨⟨#[98]⟩, ⟨#[48]⟩⟩ : Pair)] 9 (by first | exact hpa | exact in64_first | exact in64_halt | (intro i hi; cases hi)) (by first | assumption | (unfold In64; omega)) (by first | omega | decide | (simp only [List.length_cons, List.length_nil]; omega))) H (lX (fun F _ _ => rsl_nil _ _ F trivial (by decide)) (lA 2 rfl (fun F h => blk_rsl h rfl (by decide) (RepsR.flat_eq.2 rfl)) (lR 0 rfl l0))) rfl rfl (e_fn kn11 rfl rfl) ?_
  rintro _ _ w ⟨u4, rfl, rfl⟩ H
  rw [comb_first] at H ⊢
  replace H : Hd _ _ _ [osl kPair u4 [(⟨⟨#[97]⟩, ⟨#[50]⟩⟩ : Pair), (⟨⟨#[98]⟩, ⟨#[49]⟩⟩ : Pair), (⟨⟨#[98]⟩, ⟨#[48]⟩⟩ : Pair)], osl kPair u3 [(⟨⟨#[97]⟩, ⟨#[50]⟩⟩ : Pair), (⟨⟨#[98]⟩, ⟨#[49]⟩⟩ : Pair)], osl kIns v2 firstP, blk b1 [.string ⟨#[98]⟩, .string ⟨#[49]⟩, .string ⟨#[97]⟩, .string ⟨#[50]⟩, .string ⟨#[98]⟩, .string ⟨#[48]⟩] 56] [gl] := H
  refine s_val rfl rfl (r_mv rfl rfl) ?_
  refine s_val rfl rfl (r_ex rfl rfl rfl) ?_
  refine s_val rfl rfl (r_ex rfl rfl rfl) ?_
  refine s_val rfl rfl (r_as rfl rfl) ?_
  refine s_val rfl rfl (r_as rfl rfl) ?_
  refine s_nil ?_
  refine q_then ?_
  refine c_env [(0, .bool false), (2, u3), (3, .int .i64 0), (4, u4), (5, .int .i64 0)] ⟨rfl, rfl, rfl, rfl, rfl, trivial⟩ ?_
  refine c_seq ?_
  refine c_reg ?_
  refine s_val rfl rfl (r_mv rfl rfl) ?_
  refine s_val rfl rfl (r_bd (parts := [(0, .const (.string ⟨#[97]⟩)), (1, .const (.string ⟨#[50]⟩))]) (vs := [.string ⟨#[97]⟩, .string ⟨#[50]⟩]) (cs := [.string ⟨#[97]⟩, .string ⟨#[50]⟩]) rfl bd56 rfl rfl) ?_
  refine s_val rfl rfl (r_bd (parts := [(0, .const (.string ⟨#[98]⟩)), (1, .const (.string ⟨#[49]⟩))]) (vs := [.string ⟨#[98]⟩, .string ⟨#[49]⟩]) (cs := [.string ⟨#[98]⟩, .string ⟨#[49]⟩]) rfl bd56 rfl rfl) ?_
  refine s_bsl (parts := [(0, .tmp 22), (1, .tmp 23)]) (vs := [.agg #[.string ⟨#[97]⟩, .string ⟨#[50]⟩], .agg #[.string ⟨#[98]⟩, .string ⟨#[49]⟩]]) (cs := [.string ⟨#[97]⟩, .string ⟨#[50]⟩, .string ⟨#[98]⟩, .string ⟨#[49]⟩]) rfl rfl rfl sl23 zr56 rfl (by decide) (by decide) rfl rfl H (fun b5 w H => ?_)
  refine sc (samePairs_ok u3 (.slice (some ⟨b5, 0, none⟩) 2 2) [(⟨⟨#[97]⟩, ⟨#[50]⟩⟩ : Pair), (⟨⟨#[98]⟩, ⟨#[49]⟩⟩ : Pair)] [(⟨⟨#[97]⟩, ⟨#[50]⟩⟩ : Pair), (⟨⟨#[98]⟩, ⟨#[49]⟩⟩ : Pair)]) H (lA 2 rfl own_rd (lA 0 rfl (fun F h => blk_rsl h rfl (by decide) (RepsR.flat_eq.2 rfl)) l0)) rfl rfl (e_fn kn19 rfl rfl) ?_
  rintro _ _ w ⟨rfl, rfl⟩ H
  refine s_val rfl rfl (r_mv rfl rfl) ?_
  refine s_dec (d := 26) (p := [(⟨⟨#[97]⟩, ⟨#[50]⟩⟩ : Pair), (⟨⟨#[98]⟩, ⟨#[49]⟩⟩ : Pair)] = [(⟨⟨#[97]⟩, ⟨#[50]⟩⟩ : Pair), (⟨⟨#[98]⟩, ⟨#[49]⟩⟩ : Pair)]) rfl (fun h6 => ?_) (fun h6 => ?_)
  · skip
    refine s_val rfl rfl (r_mv rfl rfl) ?_
    refine s_val rfl rfl (r_eq rfl rfl rfl) ?_
    refine s_val rfl rfl (r_pickT rfl rfl rfl) ?_
    refine s_val rfl rfl (r_mv rfl rfl) ?_
    refine s_val rfl rfl (r_mv rfl rfl) ?_
    refine s_val rfl rfl (r_eq rfl rfl rfl) ?_
    refine s_val rfl rfl (r_pickT rfl rfl rfl) ?_
    refine s_val rfl rfl (r_mv rfl rfl) ?_
    refine s_val rfl rfl (r_mv rfl rfl) ?_
    obtain ⟨A7, c8, rfl, hc9, hm10, hp11⟩ := H.fA 1 rfl
    refine s_val rfl rfl (r_lenL rfl un23 rfl) ?_
    refine s_val rfl rfl (r_eq rfl rfl rfl) ?_
    refine s_val rfl rfl (r_pickT rfl rfl rfl) ?_
    refine s_val rfl rfl (r_mv rfl rfl) ?_
    refine s_dec (d := 39) (p := (([(⟨⟨#[97]⟩, ⟨#[50]⟩⟩ : Pair), (⟨⟨#[98]⟩, ⟨#[49]⟩⟩ : Pair), (⟨⟨#[98]⟩, ⟨#[48]⟩⟩ : Pair)].length : Nat) : Int) = 3) rfl (fun h12 => ?_) (fun h12 => ?_)
    · skip
      refine s_val rfl rfl (r_mv rfl rfl) ?_
      obtain ⟨x13, hx14⟩ : ∃ z9, [(⟨⟨#[97]⟩, ⟨#[50]⟩⟩ : Pair), (⟨⟨#[98]⟩, ⟨#[49]⟩⟩ : Pair), (⟨⟨#[98]⟩, ⟨#[48]⟩⟩ : Pair)][0]? = some z9 := ⟨_, List.getElem?_eq_getElem (show 0 < [(⟨⟨#[97]⟩, ⟨#[50]⟩⟩ : Pair), (⟨⟨#[98]⟩, ⟨#[49]⟩⟩ : Pair), (⟨⟨#[98]⟩, ⟨#[48]⟩⟩ : Pair)].length by omega)⟩
      have th15 := H.thA 1 rfl hx14
      refine s_val rfl rfl (r_iaE (p := oOf A7 + 0 * 2) rfl sl23 rfl rfl (by omega) (by omega) th15 (by omega)) ?_
      refine s_val rfl rfl (r_fa rfl fo56_0 rfl) ?_
      refine s_val rfl rfl (r_ld rfl ty9 rfl (H.elA 1 rfl hx14 (q := 0) rfl rfl)) ?_
      refine s_val rfl rfl (r_eqS rfl rfl rfl) ?_
      refine s_val rfl rfl (r_pickT rfl rfl rfl) ?_
      refine s_val rfl rfl (r_as rfl rfl) ?_
      refine s_nil ?_
      refine q_then ?_
      replace H : Hd _ _ _ [blk b5 [.string ⟨#[97]⟩, .string ⟨#[50]⟩, .string ⟨#[98]⟩, .string ⟨#[49]⟩] 56, osl kPair (.slice A7 ([(⟨⟨#[97]⟩, ⟨#[50]⟩⟩ : Pair), (⟨⟨#[98]⟩, ⟨#[49]⟩⟩ : Pair), (⟨⟨#[98]⟩, ⟨#[48]⟩⟩ : Pair)].length) c8) [(⟨⟨#[97]⟩, ⟨#[50]⟩⟩ : Pair), (⟨⟨#[98]⟩, ⟨#[49]⟩⟩ : Pair), (⟨⟨#[98]⟩, ⟨#[48]⟩⟩ : Pair)], osl kPair u3 [(⟨⟨#[97]⟩, ⟨#[50]⟩⟩ : Pair), (⟨⟨#[98]⟩, ⟨#[49]⟩⟩ : Pair)], osl kIns v2 firstP, blk b1 [.string ⟨#[98]⟩, .string ⟨#[49]⟩, .string ⟨#[97]⟩, .string ⟨#[50]⟩, .string ⟨#[98]⟩, .string ⟨#[48]⟩] 56] [gl] := H
      refine c_env [(0, .bool (decide (x13.key = (⟨#[97]⟩ : ByteArray))))] ⟨rfl, trivial⟩ ?_
      refine c_ret ?_
      refine q_ret1 rfl rfl ?_
      replace H := H.keep 0
      exact fin ⟨congrArg Value.bool (decide_eq_true (by have h2 := hx14; simp at h2; rw [← h2])), rfl⟩ H
    · exact (h12 rfl).elim
  · exact (h6 rfl).elim

set_option maxHeartbeats 1000000 in
theorem foldEmpty_ok (vp : Value) (p : List Ins) (wp : (∀ i ∈ p, In64 i.op ∧ In64 i.a ∧ i.s.size ≤ 9223372036854775807) ∧ p.length ≤ 9223372036854775807) (vps : Value) (ps : List Pair) (wps : (∀ p ∈ ps, p.key.size ≤ 9223372036854775807 ∧ p.val.size ≤ 9223372036854775807) ∧ ps.length ≤ 9223372036854775807) (fuel : Int) (wf : In64 fuel) :
    Cn Tryz.prog 3 [vp, vps, .int .i64 fuel] [] [rsl kIns vp p, rsl kPair vps ps, gl] (fun v Bs => v = .bool true ∧ Bs = []) := by
  intro w0 F0 H
  obtain ⟨A1, c2, rfl, hc3, hm4, hp5⟩ := H.fR 0 rfl
  obtain ⟨A6, c7, rfl, hc8, hm9, hp10⟩ := H.fR 1 rfl
  refine enter (args := [.slice A1 p.length c2, .slice A6 ps.length c7, .int .i64 fuel]) Tryz.func3 rfl rfl (Nat.le_of_ble_eq_true rfl) ?_
  refine c_seq ?_
  refine c_reg ?_
  refine s_val rfl rfl (r_as rfl rfl) ?_
  refine s_nil ?_
  refine q_then ?_
  replace H : Hd _ _ _ [] [rsl kIns (.slice A1 p.length c2) p, rsl kPair (.slice A6 ps.length c7) ps, gl] := H
  refine c_env [(0, .slice A1 p.length c2), (1, .slice A6 ps.length c7), (2, .int .i64 fuel), (6, .bool false)] ⟨rfl, rfl, rfl, rfl, trivial⟩ ?_
  refine c_seq ?_
  refine c_seq ?_
  refine c_reg ?_
  refine s_val rfl rfl (r_mv rfl rfl) ?_
  refine s_val rfl rfl (r_mv rfl rfl) ?_
  refine sc (great9_ok (.slice A1 p.length c2) p (.slice A6 ps.length c7) ps) H (lR 0 rfl (lR 1 rfl l0)) rfl rfl (e_fn kn8 rfl rfl) ?_
  rintro _ _ w ⟨rfl, rfl⟩ H
  refine s_nil ?_
  refine q_then ?_
  refine c_env [(0, .slice A1 p.length c2), (1, .slice A6 ps.length c7), (2, .int .i64 fuel), (6, .bool false), (17, .bool (greatC p || greatP ps 60))] ⟨rfl, rfl, rfl, rfl, rfl, trivial⟩ ?_
  refine c_cond (b := greatC p || greatP ps 60) rfl (fun h11 => ?_) (fun h11 => ?_)
  · skip
    refine c_seq ?_
    refine c_reg ?_
    refine sc awake9_ok H (lR 2 rfl l0) rfl rfl (e_fn kn9 rfl rfl) ?_
    rintro _ _ w ⟨rfl, rfl⟩ H
    refine s_val rfl rfl (r_as rfl rfl) ?_
    refine s_nil ?_
    refine q_then ?_
    refine c_env [(0, .slice A1 p.length c2), (1, .slice A6 ps.length c7), (2, .int .i64 fuel), (6, .bool true)] ⟨rfl, rfl, rfl, rfl, trivial⟩ ?_
    refine c_ret ?_
    refine q_thenR ?_
    refine q_ret1 rfl rfl ?_
    exact fin ⟨rfl, rfl⟩ H
  · skip
    refine c_skip ?_
    refine q_then ?_
    refine c_env [(0, .slice A1 p.length c2), (1, .slice A6 ps.length c7), (2, .int .i64 fuel), (6, .bool false)] ⟨rfl, rfl, rfl, rfl, trivial⟩ ?_
    refine c_seq ?_
    have hg := (greatP_no (Bool.or_eq_false_iff.1 h11).2).1
    have hpa : ∀ i ∈ p, In64 i.a := fun i hi => (wp.1 i hi).2.1
    refine c_reg ?_
    refine s_val rfl rfl (r_mv rfl rfl) ?_
    refine s_val rfl rfl (r_mv rfl rfl) ?_
    refine sc (foldEach_ok (.slice A1 p.length c2) p (.slice none 0 0) ([] : List Pair) fuel (by first | exact hpa | exact in64_first | exact in64_halt | (intro i hi; cases hi)) (by first | assumption | (unfold In64; omega)) (by first | omega | decide | (simp only [List.length_cons, List.length_nil]; omega))) H (lR 0 rfl (lX (fun F _ _ => rsl_nil _ _ F trivial (by decide)) (lR 2 rfl l0))) rfl rfl (e_fn kn10 rfl rfl) ?_
    rintro _ _ w ⟨u12, rfl, rfl⟩ H
    rw [each_nil] at H ⊢
    replace H : Hd _ _ _ [osl kPair u12 ([] : List Pair)] [rsl kIns (.slice A1 p.length c2) p, rsl kPair (.slice A6 ps.length c7) ps, gl] := H
    refine s_val rfl rfl (r_mv rfl rfl) ?_
    refine s_val rfl rfl (r_ex rfl rfl rfl) ?_
    refine s_val rfl rfl (r_ex rfl rfl rfl) ?_
    refine s_val rfl rfl (r_as rfl rfl) ?_
    refine s_val rfl rfl (r_as rfl rfl) ?_
    refine s_nil ?_
    refine q_then ?_
    refine c_env [(0, .slice A1 p.length c2), (1, .slice A6 ps.length c7), (2, .int .i64 fuel), (6, .bool false), (7, u12), (8, .int .i64 0)] ⟨rfl, rfl, rfl, rfl, rfl, rfl, trivial⟩ ?_
    refine c_seq ?_
    refine c_reg ?_
    refine s_val rfl rfl (r_mv rfl rfl) ?_
    refine s_val rfl rfl (r_mv rfl rfl) ?_
    refine sc (foldCombine_ok (.slice A1 p.length c2) p (.slice none 0 0) ([] : List Pair) fuel (by first | exact hpa | exact in64_first | exact in64_halt | (intro i hi; cases hi)) (by first | assumption | (unfold In64; omega)) (by first | omega | decide | (simp only [List.length_cons, List.length_nil]; omega))) H (lR 0 rfl (lX (fun F _ _ => rsl_nil _ _ F trivial (by decide)) (lR 2 rfl l0))) rfl rfl (e_fn kn11 rfl rfl) ?_
    rintro _ _ w ⟨u13, rfl, rfl⟩ H
    rw [comb_nil] at H ⊢
    replace H : Hd _ _ _ [osl kPair u13 ([] : List Pair), osl kPair u12 ([] : List Pair)] [rsl kIns (.slice A1 p.length c2) p, rsl kPair (.slice A6 ps.length c7) ps, gl] := H
    refine s_val rfl rfl (r_mv rfl rfl) ?_
    refine s_val rfl rfl (r_ex rfl rfl rfl) ?_
    refine s_val rfl rfl (r_ex rfl rfl rfl) ?_
    refine s_val rfl rfl (r_as rfl rfl) ?_
    refine s_val rfl rfl (r_as rfl rfl) ?_
    refine s_nil ?_
    refine q_then ?_
    refine c_env [(1, .slice A6 ps.length c7), (6, .bool false), (7, u12), (8, .int .i64 0), (9, u13), (10, .int .i64 0)] ⟨rfl, rfl, rfl, rfl, rfl, rfl, trivial⟩ ?_
    refine c_seq ?_
    refine c_reg ?_
    refine s_val rfl rfl (r_bd (parts := [(0, .const (.int .i64 0))]) (vs := [.int .i64 0]) (cs := [.int .i64 0, .int .i64 0, .string ⟨#[]⟩]) rfl bd29 rfl rfl) ?_
    refine s_bsl (parts := [(0, .tmp 32)]) (vs := [.agg #[.int .i64 0, .int .i64 0, .string ⟨#[]⟩]]) (cs := [.int .i64 0, .int .i64 0, .string ⟨#[]⟩]) rfl rfl rfl sl22 zr29 rfl (by decide) (by decide) rfl rfl H (fun b14 w H => ?_)
    refine s_val rfl rfl (r_mv rfl rfl) ?_
    refine sc (foldEach_ok (.slice (some ⟨b14, 0, none⟩) 1 1) [(⟨0, 0, ⟨#[]⟩⟩ : Ins)] (.slice A6 ps.length c7) ps 1 (by first | exact hpa | exact in64_first | exact in64_halt | (intro i hi; cases hi)) (by first | assumption | (unfold In64; omega)) (by first | omega | decide | (simp only [List.length_cons, List.length_nil]; omega))) H (lA 0 rfl (fun F h => blk_rsl h rfl (by decide) (RepsR.flat_eq.2 rfl)) (lR 1 rfl (lR 2 rfl l0))) rfl rfl (e_fn kn10 rfl rfl) ?_
    rintro _ _ w ⟨u15, rfl, rfl⟩ H
    rw [each_halt] at H ⊢
    replace H : Hd _ _ _ [osl kPair u15 ([] : List Pair), blk b14 [.int .i64 0, .int .i64 0, .string ⟨#[]⟩] 29, osl kPair u13 ([] : List Pair), osl kPair u12 ([] : List Pair)] [rsl kIns (.slice A1 p.length c2) p, rsl kPair (.slice A6 ps.length c7) ps, gl] := H
    refine s_val rfl rfl (r_mv rfl rfl) ?_
    refine s_val rfl rfl (r_ex rfl rfl rfl) ?_
    refine s_val rfl rfl (r_ex rfl rfl rfl) ?_
    refine s_val rfl rfl (r_as rfl rfl) ?_
    refine s_val rfl rfl (r_as rfl rfl) ?_
    refine s_nil ?_
    refine q_then ?_
    refine c_env [(1, .slice A6 ps.length c7), (6, .bool false), (7, u12), (8, .int .i64 0), (9, u13), (10, .int .i64 0), (11, u15), (12, .int .i64 0)] ⟨rfl, rfl, rfl, rfl, rfl, rfl, rfl, rfl, trivial⟩ ?_
    refine c_seq ?_
    refine c_reg ?_
    refine s_val rfl rfl (r_bd (parts := [(0, .const (.int .i64 0))]) (vs := [.int .i64 0]) (cs := [.int .i64 0, .int .i64 0, .string ⟨#[]⟩]) rfl bd29 rfl rfl) ?_
    refine s_bsl (parts := [(0, .tmp 39)]) (vs := [.agg #[.int .i64 0, .int .i64 0, .string ⟨#[]⟩]]) (cs := [.int .i64 0, .int .i64 0, .string ⟨#[]⟩]) rfl rfl rfl sl22 zr29 rfl (by decide) (by decide) rfl rfl H (fun b16 w H => ?_)
    refine s_val rfl rfl (r_mv rfl rfl) ?_
    refine sc (foldCombine_ok (.slice (some ⟨b16, 0, none⟩) 1 1) [(⟨0, 0, ⟨#[]⟩⟩ : Ins)] (.slice A6 ps.length c7) ps 1 (by first | exact hpa | exact in64_first | exact in64_halt | (intro i hi; cases hi)) (by first | assumption | (unfold In64; omega)) (by first | omega | decide | (simp only [List.length_cons, List.length_nil]; omega))) H (lA 0 rfl (fun F h => blk_rsl h rfl (by decide) (RepsR.flat_eq.2 rfl)) (lR 1 rfl (lR 2 rfl l0))) rfl rfl (e_fn kn11 rfl rfl) ?_
    rintro _ _ w ⟨u17, rfl, rfl⟩ H
    rw [comb_halt] at H ⊢
    replace H : Hd _ _ _ [osl kPair u17 ([] : List Pair), blk b16 [.int .i64 0, .int .i64 0, .string ⟨#[]⟩] 29, osl kPair u15 ([] : List Pair), blk b14 [.int .i64 0, .int .i64 0, .string ⟨#[]⟩] 29, osl kPair u13 ([] : List Pair), osl kPair u12 ([] : List Pair)] [rsl kIns (.slice A1 p.length c2) p, rsl kPair (.slice A6 ps.length c7) ps, gl] := H
    refine s_val rfl rfl (r_mv rfl rfl) ?_
    refine s_val rfl rfl (r_ex rfl rfl rfl) ?_
    refine s_val rfl rfl (r_ex rfl rfl rfl) ?_
    refine s_val rfl rfl (r_as rfl rfl) ?_
    refine s_val rfl rfl (r_as rfl rfl) ?_
    refine s_nil ?_
    refine q_then ?_
    refine c_env [(6, .bool false), (7, u12), (8, .int .i64 0), (9, u13), (10, .int .i64 0), (11, u15), (12, .int .i64 0), (13, u17), (14, .int .i64 0)] ⟨rfl, rfl, rfl, rfl, rfl, rfl, rfl, rfl, rfl, trivial⟩ ?_
    refine c_seq ?_
    refine c_reg ?_
    refine s_val rfl rfl (r_mv rfl rfl) ?_
    obtain ⟨A18, c19, rfl, hc20, hm21, hp22⟩ := H.fA 5 rfl
    refine s_val rfl rfl (r_lenL rfl un23 rfl) ?_
    refine s_val rfl rfl (r_eq rfl rfl rfl) ?_
    refine s_val rfl rfl (r_mv rfl rfl) ?_
    refine s_dec (d := 48) (p := ((([] : List Pair).length : Nat) : Int) = 0) rfl (fun h23 => ?_) (fun h23 => ?_)
    · skip
      refine s_val rfl rfl (r_mv rfl rfl) ?_
      refine s_val rfl rfl (r_eq rfl rfl rfl) ?_
      refine s_val rfl rfl (r_pickT rfl rfl rfl) ?_
      refine s_val rfl rfl (r_mv rfl rfl) ?_
      refine s_val rfl rfl (r_mv rfl rfl) ?_
      obtain ⟨A24, c25, rfl, hc26, hm27, hp28⟩ := H.fA 4 rfl
      refine s_val rfl rfl (r_lenL rfl un23 rfl) ?_
      refine s_val rfl rfl (r_eq rfl rfl rfl) ?_
      refine s_val rfl rfl (r_pickT rfl rfl rfl) ?_
      refine s_val rfl rfl (r_mv rfl rfl) ?_
      refine s_dec (d := 57) (p := ((([] : List Pair).length : Nat) : Int) = 0) rfl (fun h29 => ?_) (fun h29 => ?_)
      · skip
        refine s_val rfl rfl (r_mv rfl rfl) ?_
        refine s_val rfl rfl (r_eq rfl rfl rfl) ?_
        refine s_val rfl rfl (r_pickT rfl rfl rfl) ?_
        refine s_val rfl rfl (r_mv rfl rfl) ?_
        refine s_val rfl rfl (r_mv rfl rfl) ?_
        obtain ⟨A30, c31, rfl, hc32, hm33, hp34⟩ := H.fA 2 rfl
        refine s_val rfl rfl (r_lenL rfl un23 rfl) ?_
        refine s_val rfl rfl (r_eq rfl rfl rfl) ?_
        refine s_val rfl rfl (r_pickT rfl rfl rfl) ?_
        refine s_val rfl rfl (r_mv rfl rfl) ?_
        refine s_dec (d := 66) (p := ((([] : List Pair).length : Nat) : Int) = 0) rfl (fun h35 => ?_) (fun h35 => ?_)
        · skip
          refine s_val rfl rfl (r_mv rfl rfl) ?_
          refine s_val rfl rfl (r_eq rfl rfl rfl) ?_
          refine s_val rfl rfl (r_pickT rfl rfl rfl) ?_
          refine s_val rfl rfl (r_mv rfl rfl) ?_
          refine s_val rfl rfl (r_mv rfl rfl) ?_
          obtain ⟨A36, c37, rfl, hc38, hm39, hp40⟩ := H.fA 0 rfl
          refine s_val rfl rfl (r_lenL rfl un23 rfl) ?_
          refine s_val rfl rfl (r_eq rfl rfl rfl) ?_
          refine s_val rfl rfl (r_pickT rfl rfl rfl) ?_
          refine s_val rfl rfl (r_mv rfl rfl) ?_
          refine s_dec (d := 75) (p := ((([] : List Pair).length : Nat) : Int) = 0) rfl (fun h41 => ?_) (fun h41 => ?_)
          · skip
            refine s_val rfl rfl (r_mv rfl rfl) ?_
            refine s_val rfl rfl (r_eq rfl rfl rfl) ?_
            refine s_val rfl rfl (r_pickT rfl rfl rfl) ?_
            refine s_val rfl rfl (r_mv rfl rfl) ?_
            refine sc awake9_ok H (lR 2 rfl l0) rfl rfl (e_fn kn9 rfl rfl) ?_
            rintro _ _ w ⟨rfl, rfl⟩ H
            refine s_val rfl rfl (r_pickT rfl rfl rfl) ?_
            refine s_val rfl rfl (r_as rfl rfl) ?_
            refine s_nil ?_
            refine q_then ?_
            replace H : Hd _ _ _ [osl kPair (.slice A36 (([] : List Pair).length) c37) ([] : List Pair), blk b16 [.int .i64 0, .int .i64 0, .string ⟨#[]⟩] 29, osl kPair (.slice A30 (([] : List Pair).length) c31) ([] : List Pair), blk b14 [.int .i64 0, .int .i64 0, .string ⟨#[]⟩] 29, osl kPair (.slice A24 (([] : List Pair).length) c25) ([] : List Pair), osl kPair (.slice A18 (([] : List Pair).length) c19) ([] : List Pair)] [rsl kIns (.slice A1 p.length c2) p, rsl kPair (.slice A6 ps.length c7) ps, gl] := H
            refine c_env [(6, .bool true)] ⟨rfl, trivial⟩ ?_
            refine c_ret ?_
            refine q_ret1 rfl rfl ?_
            replace H := H.keep 0
            exact fin ⟨rfl, rfl⟩ H
          · exact (h41 rfl).elim
        · exact (h35 rfl).elim
      · exact (h29 rfl).elim
    · exact (h23 rfl).elim

end Go.Proofs.YtlpgdkbokakniaaGreatDoor.X
