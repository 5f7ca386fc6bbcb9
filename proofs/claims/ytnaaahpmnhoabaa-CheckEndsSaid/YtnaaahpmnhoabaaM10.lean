/- The walks of the statements on programs. -/
import Derived.Test.YtnaaahpmnhoabaaM9
import Derived.Test.YtnaaahpmnhoabaaM5
import Derived.Test.YtnaaahpmnhoabaaXProg2
set_option linter.unusedVariables false
set_option linter.unusedSimpArgs false
namespace Go.Proofs.Ytnaaahpmnhoabaa.X
open Go
set_option maxHeartbeats 1000000 in
theorem greatCode_ok (vxs : Value) (xs : List Ins) :
    Cn Try.prog 65 [vxs] [] [rsl kIns vxs xs] (fun v Bs => v = .bool (greatC xs) ∧ Bs = []) := by
  intro w0 F0 H
  obtain ⟨A1, c2, rfl, hc3, hm4, hp5⟩ := H.fR 0 rfl
  refine enter (args := [.slice A1 xs.length c2]) Try.func65 rfl rfl (Nat.le_of_ble_eq_true rfl) ?_
  refine c_seq ?_
  refine c_reg ?_
  refine s_val rfl rfl (r_as rfl rfl) ?_
  refine s_nil ?_
  refine q_then ?_
  replace H : Hd _ _ _ [] [rsl kIns (.slice A1 xs.length c2) xs] := H
  refine c_env [(0, .slice A1 xs.length c2), (2, .bool false)] ⟨rfl, rfl, trivial⟩ ?_
  refine c_seq ?_
  refine c_seq ?_
  refine c_reg ?_
  refine s_val rfl rfl (r_as rfl rfl) ?_
  refine s_nil ?_
  refine q_then ?_
  refine c_env [(0, .slice A1 xs.length c2), (2, .bool false), (3, .int .i64 0)] ⟨rfl, rfl, rfl, trivial⟩ ?_
  refine c_block ?_
  refine c_loop (σ := Nat) (fun k => [(0, .slice A1 xs.length c2), (3, .int .i64 ((k : Nat) : Int))]) (fun k w => (Hd w0 F0 w [] [rsl kIns (.slice A1 xs.length c2) xs]) ∧ (k ≤ xs.length) ∧ (∀ y ∈ xs.take k, y.s.size ≤ 100)) (fun k => xs.length - k) 0 ⟨rfl, rfl, trivial⟩ ⟨H, by omega, by simp⟩ ?_
  rintro k w ⟨H, hk, hn⟩
  refine c_seq ?_
  refine c_seq ?_
  refine c_reg ?_
  refine s_val rfl rfl (r_mv rfl rfl) ?_
  refine s_val rfl rfl (r_mv rfl rfl) ?_
  refine s_val rfl rfl (r_lenL rfl un79 rfl) ?_
  refine s_val rfl rfl (r_lt rfl rfl rfl) ?_
  refine s_val rfl rfl (r_mv rfl rfl) ?_
  refine s_dec (d := 8) (p := ((k : Nat) : Int) < ((xs.length : Nat) : Int)) rfl (fun h6 => ?_) (fun h6 => ?_)
  · skip
    refine s_val rfl rfl (r_mv rfl rfl) ?_
    refine s_val rfl rfl (r_lenL rfl un79 rfl) ?_
    refine s_val rfl rfl (r_le rfl rfl rfl) ?_
    refine s_val rfl rfl (r_pickT rfl rfl rfl) ?_
    refine s_nil ?_
    refine q_then ?_
    refine c_env [(0, .slice A1 xs.length c2), (3, .int .i64 ((k : Nat) : Int)), (12, .bool (decide (((xs.length : Nat) : Int) ≤ 60)))] ⟨rfl, rfl, rfl, trivial⟩ ?_
    refine c_dec (p := ((xs.length : Nat) : Int) ≤ 60) rfl (fun h7 => ?_) (fun h7 => ?_)
    · skip
      refine c_skip ?_
      refine q_then ?_
      refine c_env [(0, .slice A1 xs.length c2), (3, .int .i64 ((k : Nat) : Int))] ⟨rfl, rfl, trivial⟩ ?_
      refine c_seq ?_
      refine c_block ?_
      refine c_seq ?_
      refine c_reg ?_
      refine s_val rfl rfl (r_mv rfl rfl) ?_
      refine s_val rfl rfl (r_mv rfl rfl) ?_
      obtain ⟨x8, hx9⟩ : ∃ z9, xs[k]? = some z9 := ⟨_, List.getElem?_eq_getElem (show k < xs.length by omega)⟩
      have th10 := H.thR 0 rfl hx9
      refine s_val rfl rfl (r_iaE (p := oOf A1 + k * 3) rfl sl79 rfl rfl (by omega) (by omega) th10 rfl) ?_
      refine s_val rfl rfl (r_fa rfl fo86_2 rfl) ?_
      refine s_val rfl rfl (r_ld rfl ty9 rfl (H.elR 0 rfl hx9 (q := 2) rfl rfl)) ?_
      refine s_val rfl rfl (r_lenS rfl un9 rfl) ?_
      refine s_val rfl rfl (r_gt rfl rfl rfl) ?_
      refine s_nil ?_
      refine q_then ?_
      refine c_env [(0, .slice A1 xs.length c2), (3, .int .i64 ((k : Nat) : Int)), (21, .bool (decide ((100 : Int) < ((x8.s.size : Nat) : Int))))] ⟨rfl, rfl, rfl, trivial⟩ ?_
      refine c_dec (p := (100 : Int) < ((x8.s.size : Nat) : Int)) rfl (fun h11 => ?_) (fun h11 => ?_)
      · skip
        refine c_seq ?_
        refine c_reg ?_
        refine s_val rfl rfl (r_as rfl rfl) ?_
        refine s_nil ?_
        refine q_then ?_
        refine c_env [(0, .slice A1 xs.length c2), (2, .bool true), (3, .int .i64 ((k : Nat) : Int))] ⟨rfl, rfl, rfl, trivial⟩ ?_
        refine c_ret ?_
        refine q_blockR ?_
        refine q_thenR ?_
        refine q_thenR ?_
        refine q_blockR ?_
        refine q_thenR ?_
        refine q_ret1 rfl rfl ?_
        exact fin ⟨congrArg Value.bool (great_hit hx9 (by omega)), rfl⟩ H
      · skip
        refine c_skip ?_
        refine q_blockN ?_
        refine q_then ?_
        refine c_env [(0, .slice A1 xs.length c2), (3, .int .i64 ((k : Nat) : Int))] ⟨rfl, rfl, trivial⟩ ?_
        refine c_reg ?_
        refine s_val rfl rfl (r_mv rfl rfl) ?_
        refine s_val rfl rfl (r_add (z := ((k + 1 : Nat) : Int)) rfl rfl rfl (by rw [w64 (by omega) (by omega)]; omega)) ?_
        refine s_val rfl rfl (r_as rfl rfl) ?_
        refine s_nil ?_
        exact q_round (s := k) (k + 1) ⟨rfl, rfl, trivial⟩ ⟨H, by (try dsimp only); omega, take_small hn hx9 (by omega)⟩ (by (try dsimp only); omega)
    · skip
      refine c_exit ?_
      refine q_thenE ?_
      refine q_thenE ?_
      refine q_blockE ?_
      refine q_then ?_
      refine c_env [(0, .slice A1 xs.length c2)] ⟨rfl, trivial⟩ ?_
      refine c_seq ?_
      refine c_reg ?_
      refine s_val rfl rfl (r_mv rfl rfl) ?_
      refine s_val rfl rfl (r_lenL rfl un79 rfl) ?_
      refine s_val rfl rfl (r_gt rfl rfl rfl) ?_
      refine s_val rfl rfl (r_as rfl rfl) ?_
      refine s_nil ?_
      refine q_then ?_
      refine c_env [(2, .bool (decide ((60 : Int) < ((xs.length : Nat) : Int))))] ⟨rfl, trivial⟩ ?_
      refine c_ret ?_
      refine q_ret1 rfl rfl ?_
      exact fin ⟨congrArg Value.bool (great_end hn (by omega)), rfl⟩ H
  · skip
    refine s_no rfl rfl ?_
    refine s_no rfl rfl ?_
    refine s_no rfl rfl ?_
    refine s_val rfl rfl (r_pickF rfl rfl rfl) ?_
    refine s_nil ?_
    refine q_then ?_
    refine c_env [(0, .slice A1 xs.length c2), (3, .int .i64 ((k : Nat) : Int)), (12, .bool false)] ⟨rfl, rfl, rfl, trivial⟩ ?_
    refine c_no rfl ?_
    refine c_exit ?_
    refine q_thenE ?_
    refine q_thenE ?_
    refine q_blockE ?_
    refine q_then ?_
    refine c_env [(0, .slice A1 xs.length c2)] ⟨rfl, trivial⟩ ?_
    refine c_seq ?_
    refine c_reg ?_
    refine s_val rfl rfl (r_mv rfl rfl) ?_
    refine s_val rfl rfl (r_lenL rfl un79 rfl) ?_
    refine s_val rfl rfl (r_gt rfl rfl rfl) ?_
    refine s_val rfl rfl (r_as rfl rfl) ?_
    refine s_nil ?_
    refine q_then ?_
    refine c_env [(2, .bool (decide ((60 : Int) < ((xs.length : Nat) : Int))))] ⟨rfl, trivial⟩ ?_
    refine c_ret ?_
    refine q_ret1 rfl rfl ?_
    exact fin ⟨congrArg Value.bool (great_end hn (by omega)), rfl⟩ H

set_option maxHeartbeats 1000000 in
theorem awake5_ok  :
    Cn Try.prog 66 [] [] [] (fun v Bs => v = .bool true ∧ Bs = []) := by
  intro w0 F0 H
  refine enter (args := []) Try.func66 rfl rfl (Nat.le_of_ble_eq_true rfl) ?_
  refine c_seq ?_
  refine c_reg ?_
  refine s_val rfl rfl (r_as rfl rfl) ?_
  refine s_nil ?_
  refine q_then ?_
  refine c_env [(0, .bool false)] ⟨rfl, trivial⟩ ?_
  refine c_seq ?_
  refine c_reg ?_
  refine s_val rfl rfl (r_bd (parts := [(0, .const (.int .i64 6))]) (vs := [.int .i64 6]) (cs := [.int .i64 6, .int .i64 0, .string ⟨#[]⟩]) rfl bd86 rfl rfl) ?_
  refine s_val rfl rfl (r_bd (parts := [(0, .const (.int .i64 19)), (1, .const (.int .i64 3))]) (vs := [.int .i64 19, .int .i64 3]) (cs := [.int .i64 19, .int .i64 3, .string ⟨#[]⟩]) rfl bd86 rfl rfl) ?_
  refine s_bsl (parts := [(0, .tmp 1), (1, .tmp 2)]) (vs := [.agg #[.int .i64 6, .int .i64 0, .string ⟨#[]⟩], .agg #[.int .i64 19, .int .i64 3, .string ⟨#[]⟩]]) (cs := [.int .i64 6, .int .i64 0, .string ⟨#[]⟩, .int .i64 19, .int .i64 3, .string ⟨#[]⟩]) rfl rfl rfl sl79 zr86 rfl (by decide) (by decide) rfl rfl H (fun b1 w H => ?_)
  refine sc (pbad_ok (.slice (some ⟨b1, 0, none⟩) 2 2) [(⟨6, 0, ⟨#[]⟩⟩ : Ins), (⟨19, 3, ⟨#[]⟩⟩ : Ins)]) H (lA 0 rfl (fun F h => blk_rsl h rfl (by decide) (RepsR.flat_eq.2 rfl)) l0) rfl rfl (e_fn kn69 rfl rfl) ?_
  rintro _ _ w ⟨rfl, rfl⟩ H
  refine s_val rfl rfl (r_eq rfl rfl rfl) ?_
  refine s_val rfl rfl (r_mv rfl rfl) ?_
  refine s_dec (d := 6) (p := (badI [(⟨6, 0, ⟨#[]⟩⟩ : Ins), (⟨19, 3, ⟨#[]⟩⟩ : Ins)]) = 1) rfl (fun h2 => ?_) (fun h2 => ?_)
  · skip
    refine s_val rfl rfl (r_bd (parts := [(0, .const (.int .i64 19)), (1, .const (.int .i64 1))]) (vs := [.int .i64 19, .int .i64 1]) (cs := [.int .i64 19, .int .i64 1, .string ⟨#[]⟩]) rfl bd86 rfl rfl) ?_
    refine s_bsl (parts := [(0, .tmp 7)]) (vs := [.agg #[.int .i64 19, .int .i64 1, .string ⟨#[]⟩]]) (cs := [.int .i64 19, .int .i64 1, .string ⟨#[]⟩]) rfl rfl rfl sl79 zr86 rfl (by decide) (by decide) rfl rfl H (fun b3 w H => ?_)
    refine sc (pbad_ok (.slice (some ⟨b3, 0, none⟩) 1 1) [(⟨19, 1, ⟨#[]⟩⟩ : Ins)]) H (lA 0 rfl (fun F h => blk_rsl h rfl (by decide) (RepsR.flat_eq.2 rfl)) l0) rfl rfl (e_fn kn69 rfl rfl) ?_
    rintro _ _ w ⟨rfl, rfl⟩ H
    refine s_val rfl rfl (r_eq rfl rfl rfl) ?_
    refine s_val rfl rfl (r_pickT rfl rfl rfl) ?_
    refine s_val rfl rfl (r_mv rfl rfl) ?_
    refine s_dec (d := 12) (p := (badI [(⟨19, 1, ⟨#[]⟩⟩ : Ins)]) = (-1)) rfl (fun h4 => ?_) (fun h4 => ?_)
    · skip
      refine sc (pMay_ok (.slice none 0 0) []) H (lX (fun F _ _ => rsl_nil _ _ F trivial (by decide)) l0) rfl rfl (e_fn kn71 rfl rfl) ?_
      rintro _ _ w ⟨rfl, rfl⟩ H
      refine s_val rfl rfl (r_pickT rfl rfl rfl) ?_
      refine s_val rfl rfl (r_mv rfl rfl) ?_
      refine s_dec (d := 15) (p := badI [] < 0) rfl (fun h5 => ?_) (fun h5 => ?_)
      · skip
        refine s_val rfl rfl (r_bd (parts := [(0, .const (.int .i64 24))]) (vs := [.int .i64 24]) (cs := [.int .i64 24, .int .i64 0, .string ⟨#[]⟩]) rfl bd86 rfl rfl) ?_
        refine s_bsl (parts := [(0, .tmp 16)]) (vs := [.agg #[.int .i64 24, .int .i64 0, .string ⟨#[]⟩]]) (cs := [.int .i64 24, .int .i64 0, .string ⟨#[]⟩]) rfl rfl rfl sl79 zr86 rfl (by decide) (by decide) rfl rfl H (fun b6 w H => ?_)
        refine sc (pMay_ok (.slice (some ⟨b6, 0, none⟩) 1 1) [(⟨24, 0, ⟨#[]⟩⟩ : Ins)]) H (lA 0 rfl (fun F h => blk_rsl h rfl (by decide) (RepsR.flat_eq.2 rfl)) l0) rfl rfl (e_fn kn71 rfl rfl) ?_
        rintro _ _ w ⟨rfl, rfl⟩ H
        refine s_val rfl rfl (r_notP rfl rfl) ?_
        refine s_val rfl rfl (r_pickT rfl rfl rfl) ?_
        refine s_val rfl rfl (r_mv rfl rfl) ?_
        refine s_dec (d := 21) (p := ¬ (badI [(⟨24, 0, ⟨#[]⟩⟩ : Ins)] < 0)) rfl (fun h7 => ?_) (fun h7 => ?_)
        · skip
          refine s_val rfl rfl (r_bd (parts := [(0, .const (.int .i64 19)), (1, .const (.int .i64 1))]) (vs := [.int .i64 19, .int .i64 1]) (cs := [.int .i64 19, .int .i64 1, .string ⟨#[]⟩]) rfl bd86 rfl rfl) ?_
          refine s_bsl (parts := [(0, .tmp 22)]) (vs := [.agg #[.int .i64 19, .int .i64 1, .string ⟨#[]⟩]]) (cs := [.int .i64 19, .int .i64 1, .string ⟨#[]⟩]) rfl rfl rfl sl79 zr86 rfl (by decide) (by decide) rfl rfl H (fun b8 w H => ?_)
          replace H : Hd _ _ _ [blk b8 [.int .i64 19, .int .i64 1, .string ⟨#[]⟩] 86, blk b6 [.int .i64 24, .int .i64 0, .string ⟨#[]⟩] 86, blk b3 [.int .i64 19, .int .i64 1, .string ⟨#[]⟩] 86, blk b1 [.int .i64 6, .int .i64 0, .string ⟨#[]⟩, .int .i64 19, .int .i64 3, .string ⟨#[]⟩] 86] [] := H
          refine sc (ptarg_ok (.slice (some ⟨b8, 0, none⟩) 1 1) [(⟨19, 1, ⟨#[]⟩⟩ : Ins)] (by first | omega | decide | (simp; omega))) H (lA 0 rfl (fun F h => blk_rsl h rfl (by decide) (RepsR.flat_eq.2 rfl)) l0) rfl rfl (e_fn kn68 rfl rfl) ?_
          rintro v9 _ w rfl H
          refine s_bsl (parts := [(0, .const (.int .i64 1))]) (vs := [.int .i64 1]) (cs := [.int .i64 1]) rfl rfl rfl sl22 zr3 rfl (by decide) (by decide) rfl rfl H (fun b10 w H => ?_)
          refine sc (sameInts_ok v9 (.slice (some ⟨b10, 0, none⟩) 1 1) (targI [(⟨19, 1, ⟨#[]⟩⟩ : Ins)]) [1]) H (lA 1 rfl own_rd (lA 0 rfl (fun F h => blk_rsl h rfl (by decide) (RepsR.flat_eq.2 rfl)) l0)) rfl rfl (e_fn kn38 rfl rfl) ?_
          rintro _ _ w ⟨rfl, rfl⟩ H
          refine s_val rfl rfl (r_pickT rfl rfl rfl) ?_
          refine s_val rfl rfl (r_as rfl rfl) ?_
          refine s_nil ?_
          refine q_then ?_
          replace H : Hd _ _ _ [blk b10 [.int .i64 1] 3, osl (kInt .i64) v9 (targI [(⟨19, 1, ⟨#[]⟩⟩ : Ins)]), blk b8 [.int .i64 19, .int .i64 1, .string ⟨#[]⟩] 86, blk b6 [.int .i64 24, .int .i64 0, .string ⟨#[]⟩] 86, blk b3 [.int .i64 19, .int .i64 1, .string ⟨#[]⟩] 86, blk b1 [.int .i64 6, .int .i64 0, .string ⟨#[]⟩, .int .i64 19, .int .i64 3, .string ⟨#[]⟩] 86] [] := H
          refine c_env [(0, .bool (decide ((targI [(⟨19, 1, ⟨#[]⟩⟩ : Ins)]) = [1])))] ⟨rfl, trivial⟩ ?_
          refine c_ret ?_
          refine q_ret1 rfl rfl ?_
          replace H := H.keep 0
          exact fin ⟨congrArg Value.bool (decide_eq_true ((targ_ref _).trans (by decide))), rfl⟩ H
        · exact absurd h7 (by decide)
      · exact absurd h5 (by decide)
    · exact absurd h4 (by decide)
  · exact absurd h2 (by decide)

set_option maxHeartbeats 1000000 in
theorem progTells_ok (vp : Value) (p : List Ins) (wp : (∀ x ∈ p, In64 x.op ∧ In64 x.a ∧ x.s.size ≤ 9223372036854775807) ∧ p.length ≤ 9223372036854775807) :
    Cn Try.prog 15 [vp] [] [rsl kIns vp p] (fun v Bs => v = .bool true ∧ Bs = []) := by
  intro w0 F0 H
  obtain ⟨A1, c2, rfl, hc3, hm4, hp5⟩ := H.fR 0 rfl
  refine enter (args := [.slice A1 p.length c2]) Try.func15 rfl rfl (Nat.le_of_ble_eq_true rfl) ?_
  refine c_seq ?_
  refine c_reg ?_
  refine s_val rfl rfl (r_as rfl rfl) ?_
  refine s_nil ?_
  refine q_then ?_
  replace H : Hd _ _ _ [] [rsl kIns (.slice A1 p.length c2) p] := H
  refine c_env [(0, .slice A1 p.length c2), (2, .bool false)] ⟨rfl, rfl, trivial⟩ ?_
  refine c_seq ?_
  refine c_seq ?_
  refine c_reg ?_
  refine s_val rfl rfl (r_mv rfl rfl) ?_
  refine sc (greatCode_ok (.slice A1 p.length c2) p) H (lR 0 rfl l0) rfl rfl (e_fn kn65 rfl rfl) ?_
  rintro _ _ w ⟨rfl, rfl⟩ H
  refine s_nil ?_
  refine q_then ?_
  refine c_env [(0, .slice A1 p.length c2), (2, .bool false), (7, .bool (greatC p))] ⟨rfl, rfl, rfl, trivial⟩ ?_
  refine c_cond (b := greatC p) rfl (fun h6 => ?_) (fun h6 => ?_)
  · skip
    refine c_seq ?_
    refine c_reg ?_
    refine sc (awake5_ok ) H l0 rfl rfl (e_fn kn66 rfl rfl) ?_
    rintro _ _ w ⟨rfl, rfl⟩ H
    refine s_val rfl rfl (r_as rfl rfl) ?_
    refine s_nil ?_
    refine q_then ?_
    refine c_env [(0, .slice A1 p.length c2), (2, .bool true)] ⟨rfl, rfl, trivial⟩ ?_
    refine c_ret ?_
    refine q_thenR ?_
    refine q_ret1 rfl rfl ?_
    exact fin ⟨rfl, rfl⟩ H
  · skip
    refine c_skip ?_
    refine q_then ?_
    refine c_env [(0, .slice A1 p.length c2), (2, .bool false)] ⟨rfl, rfl, trivial⟩ ?_
    refine c_seq ?_
    have hgl := great_no h6
    refine c_reg ?_
    refine s_val rfl rfl (r_mv rfl rfl) ?_
    refine sc (lendCode_ok (.slice A1 p.length c2) p (by omega)) H (lR 0 rfl l0) rfl rfl (e_fn kn67 rfl rfl) ?_
    rintro _ _ w ⟨b7, rfl, rfl⟩ H
    refine s_val rfl rfl (r_as rfl rfl) ?_
    refine s_nil ?_
    refine q_then ?_
    replace H : Hd _ _ _ [rowF encIns b7 86 (p ++ List.replicate 3 (⟨-7, 0, ⟨#[]⟩⟩ : Ins))] [rsl kIns (.slice A1 p.length c2) p] := H
    refine c_env [(0, .slice A1 p.length c2), (2, .bool false), (3, .slice (some ⟨b7, 0, none⟩) p.length (p.length + 3))] ⟨rfl, rfl, rfl, trivial⟩ ?_
    refine c_seq ?_
    refine c_reg ?_
    refine s_val rfl rfl (r_mv rfl rfl) ?_
    refine sc (ptarg_ok (.slice (some ⟨b7, 0, none⟩) p.length (p.length + 3)) p (by first | omega | decide | (simp; omega))) H (lA 0 rfl (fun F h => rowF_rsl (i := 0) h (by first | (simp; done) | exact List.take_of_length_le (by simp)) (by simp) (by simp) (by omega) (by simp)) l0) rfl rfl (e_fn kn68 rfl rfl) ?_
    rintro v8 _ w rfl H
    refine s_val rfl rfl (r_as rfl rfl) ?_
    refine s_nil ?_
    refine q_then ?_
    replace H : Hd _ _ _ [osl (kInt .i64) v8 (targI p), rowF encIns b7 86 (p ++ List.replicate 3 (⟨-7, 0, ⟨#[]⟩⟩ : Ins))] [rsl kIns (.slice A1 p.length c2) p] := H
    refine c_env [(0, .slice A1 p.length c2), (2, .bool false), (3, .slice (some ⟨b7, 0, none⟩) p.length (p.length + 3)), (4, v8)] ⟨rfl, rfl, rfl, rfl, trivial⟩ ?_
    refine c_seq ?_
    refine c_reg ?_
    refine s_val rfl rfl (r_mv rfl rfl) ?_
    refine sc (pbad_ok (.slice (some ⟨b7, 0, none⟩) p.length (p.length + 3)) p) H (lA 1 rfl (fun F h => rowF_rsl (i := 0) h (by first | (simp; done) | exact List.take_of_length_le (by simp)) (by simp) (by simp) (by omega) (by simp)) l0) rfl rfl (e_fn kn69 rfl rfl) ?_
    rintro _ _ w ⟨rfl, rfl⟩ H
    refine s_val rfl rfl (r_mv rfl rfl) ?_
    refine sc (rbad_ok (.slice A1 p.length c2) p) H (lR 0 rfl l0) rfl rfl (e_fn kn70 rfl rfl) ?_
    rintro _ _ w ⟨rfl, rfl⟩ H
    refine s_val rfl rfl (r_eq rfl rfl rfl) ?_
    refine s_val rfl rfl (r_mv rfl rfl) ?_
    refine s_dec (d := 18) (p := (badI p) = (badI p)) rfl (fun h9 => ?_) (fun h9 => ?_)
    · skip
      refine s_val rfl rfl (r_mv rfl rfl) ?_
      refine sc (pMay_ok (.slice (some ⟨b7, 0, none⟩) p.length (p.length + 3)) p) H (lA 1 rfl (fun F h => rowF_rsl (i := 0) h (by first | (simp; done) | exact List.take_of_length_le (by simp)) (by simp) (by simp) (by omega) (by simp)) l0) rfl rfl (e_fn kn71 rfl rfl) ?_
      rintro _ _ w ⟨rfl, rfl⟩ H
      refine s_val rfl rfl (r_mv rfl rfl) ?_
      refine sc (rbad_ok (.slice A1 p.length c2) p) H (lR 0 rfl l0) rfl rfl (e_fn kn70 rfl rfl) ?_
      rintro _ _ w ⟨rfl, rfl⟩ H
      refine s_val rfl rfl (r_lt rfl rfl rfl) ?_
      refine s_val rfl rfl (r_beq rfl un4 rfl rfl) ?_
      refine s_val rfl rfl (r_pickT rfl rfl rfl) ?_
      refine s_val rfl rfl (r_mv rfl rfl) ?_
      refine s_dec (d := 26) (p := (decide (badI p < 0)) = (decide ((badI p) < 0))) rfl (fun h10 => ?_) (fun h10 => ?_)
      · skip
        refine s_val rfl rfl (r_mv rfl rfl) ?_
        refine s_val rfl rfl (r_mv rfl rfl) ?_
        refine sc (rtarg_ok (.slice A1 p.length c2) p (by omega)) H (lR 0 rfl l0) rfl rfl (e_fn kn72 rfl rfl) ?_
        rintro v11 _ w rfl H
        refine sc (sameInts_ok v8 v11 (targI p) (refT p)) H (lA 1 rfl own_rd (lA 0 rfl own_rd l0)) rfl rfl (e_fn kn38 rfl rfl) ?_
        rintro _ _ w ⟨rfl, rfl⟩ H
        refine s_val rfl rfl (r_pickT rfl rfl rfl) ?_
        refine s_val rfl rfl (r_mv rfl rfl) ?_
        refine s_dec (d := 32) (p := (targI p) = (refT p)) rfl (fun h12 => ?_) (fun h12 => ?_)
        · skip
          refine s_val rfl rfl (r_mv rfl rfl) ?_
          refine s_val rfl rfl (r_mv rfl rfl) ?_
          refine sc (keptCode_ok b7 p (.slice A1 p.length c2) p (by omega)) H (lA 2 rfl (fun _ h => h) (lR 0 rfl l0)) rfl rfl (e_fn kn73 rfl rfl) ?_
          rintro _ _ w ⟨rfl, rfl⟩ H
          refine s_val rfl rfl (r_pickT rfl rfl rfl) ?_
          refine s_val rfl rfl (r_as rfl rfl) ?_
          refine s_nil ?_
          refine q_then ?_
          replace H : Hd _ _ _ [osl (kInt .i64) v11 (refT p), osl (kInt .i64) v8 (targI p), rowF encIns b7 86 (p ++ List.replicate 3 (⟨-7, 0, ⟨#[]⟩⟩ : Ins))] [rsl kIns (.slice A1 p.length c2) p] := H
          refine c_env [(0, .slice A1 p.length c2), (2, .bool false), (3, .slice (some ⟨b7, 0, none⟩) p.length (p.length + 3)), (4, v8), (5, .bool (decide (p = p)))] ⟨rfl, rfl, rfl, rfl, rfl, trivial⟩ ?_
          refine c_seq ?_
          refine c_reg ?_
          refine s_val rfl rfl (r_mv rfl rfl) ?_
          replace H := H.pick 1 rfl
          replace H : Hd _ _ _ [osl (kInt .i64) v8 (targI p), osl (kInt .i64) v11 (refT p), rowF encIns b7 86 (p ++ List.replicate 3 (⟨-7, 0, ⟨#[]⟩⟩ : Ins))] [rsl kIns (.slice A1 p.length c2) p] := H
          refine sc (overInts_ok v8 (targI p) (by have := targ_len p; omega)) H l0 rfl rfl (e_fn kn44 rfl rfl) ?_
          rintro _ _ w rfl H
          refine s_nil ?_
          refine q_then ?_
          replace H : Hd _ _ _ [osl (kInt .i64) v11 (refT p), rowF encIns b7 86 (p ++ List.replicate 3 (⟨-7, 0, ⟨#[]⟩⟩ : Ins))] [rsl kIns (.slice A1 p.length c2) p] := H
          refine c_env [(0, .slice A1 p.length c2), (2, .bool false), (3, .slice (some ⟨b7, 0, none⟩) p.length (p.length + 3)), (5, .bool (decide (p = p)))] ⟨rfl, rfl, rfl, rfl, trivial⟩ ?_
          refine c_seq ?_
          refine c_reg ?_
          refine s_val rfl rfl (r_mv rfl rfl) ?_
          refine s_val rfl rfl (r_mv rfl rfl) ?_
          refine s_dec (d := 40) (p := p = p) rfl (fun h13 => ?_) (fun h13 => ?_)
          · skip
            refine s_val rfl rfl (r_mv rfl rfl) ?_
            refine sc (ptarg_ok (.slice (some ⟨b7, 0, none⟩) p.length (p.length + 3)) p (by first | omega | decide | (simp; omega))) H (lA 1 rfl (fun F h => rowF_rsl (i := 0) h (by first | (simp; done) | exact List.take_of_length_le (by simp)) (by simp) (by simp) (by omega) (by simp)) l0) rfl rfl (e_fn kn68 rfl rfl) ?_
            rintro v14 _ w rfl H
            refine s_val rfl rfl (r_mv rfl rfl) ?_
            replace H : Hd _ _ _ [osl (kInt .i64) v14 (targI p), osl (kInt .i64) v11 (refT p), rowF encIns b7 86 (p ++ List.replicate 3 (⟨-7, 0, ⟨#[]⟩⟩ : Ins))] [rsl kIns (.slice A1 p.length c2) p] := H
            refine sc (rtarg_ok (.slice A1 p.length c2) p (by omega)) H (lR 0 rfl l0) rfl rfl (e_fn kn72 rfl rfl) ?_
            rintro v15 _ w rfl H
            refine sc (sameInts_ok v14 v15 (targI p) (refT p)) H (lA 1 rfl own_rd (lA 0 rfl own_rd l0)) rfl rfl (e_fn kn38 rfl rfl) ?_
            rintro _ _ w ⟨rfl, rfl⟩ H
            refine s_val rfl rfl (r_pickT rfl rfl rfl) ?_
            refine s_val rfl rfl (r_mv rfl rfl) ?_
            refine s_dec (d := 47) (p := (targI p) = (refT p)) rfl (fun h16 => ?_) (fun h16 => ?_)
            · skip
              refine sc (awake5_ok ) H l0 rfl rfl (e_fn kn66 rfl rfl) ?_
              rintro _ _ w ⟨rfl, rfl⟩ H
              refine s_val rfl rfl (r_pickT rfl rfl rfl) ?_
              refine s_val rfl rfl (r_as rfl rfl) ?_
              refine s_nil ?_
              refine q_then ?_
              replace H : Hd _ _ _ [osl (kInt .i64) v15 (refT p), osl (kInt .i64) v14 (targI p), osl (kInt .i64) v11 (refT p), rowF encIns b7 86 (p ++ List.replicate 3 (⟨-7, 0, ⟨#[]⟩⟩ : Ins))] [rsl kIns (.slice A1 p.length c2) p] := H
              refine c_env [(2, .bool true)] ⟨rfl, trivial⟩ ?_
              refine c_ret ?_
              refine q_ret1 rfl rfl ?_
              replace H := H.keep 0
              exact fin ⟨rfl, rfl⟩ H
            · exact absurd (targ_ref p) h16
          · exact (h13 rfl).elim
        · exact absurd (targ_ref p) h12
      · exact (h10 rfl).elim
    · exact (h9 rfl).elim

set_option maxHeartbeats 1000000 in
theorem progParts_ok (va : Value) (a : List Ins) (wa : (∀ x ∈ a, In64 x.op ∧ In64 x.a ∧ x.s.size ≤ 9223372036854775807) ∧ a.length ≤ 9223372036854775807) (vb : Value) (b : List Ins) (wb : (∀ x ∈ b, In64 x.op ∧ In64 x.a ∧ x.s.size ≤ 9223372036854775807) ∧ b.length ≤ 9223372036854775807) (op : Int) (wop : In64 op) :
    Cn Try.prog 16 [va, vb, .int .i64 op] [] [rsl kIns va a, rsl kIns vb b] (fun v Bs => v = .bool true ∧ Bs = []) := by
  intro w0 F0 H
  obtain ⟨A1, c2, rfl, hc3, hm4, hp5⟩ := H.fR 0 rfl
  obtain ⟨A6, c7, rfl, hc8, hm9, hp10⟩ := H.fR 1 rfl
  unfold In64 at wop
  refine enter (args := [.slice A1 a.length c2, .slice A6 b.length c7, .int .i64 op]) Try.func16 rfl rfl (Nat.le_of_ble_eq_true rfl) ?_
  refine c_seq ?_
  refine c_reg ?_
  refine s_val rfl rfl (r_as rfl rfl) ?_
  refine s_nil ?_
  refine q_then ?_
  replace H : Hd _ _ _ [] [rsl kIns (.slice A1 a.length c2) a, rsl kIns (.slice A6 b.length c7) b] := H
  refine c_env [(0, .slice A1 a.length c2), (1, .slice A6 b.length c7), (2, .int .i64 op), (6, .bool false)] ⟨rfl, rfl, rfl, rfl, trivial⟩ ?_
  refine c_seq ?_
  refine c_seq ?_
  refine c_reg ?_
  refine s_val rfl rfl (r_mv rfl rfl) ?_
  refine sc (greatCode_ok (.slice A1 a.length c2) a) H (lR 0 rfl l0) rfl rfl (e_fn kn65 rfl rfl) ?_
  rintro _ _ w ⟨rfl, rfl⟩ H
  refine s_val rfl rfl (r_mv rfl rfl) ?_
  refine s_boo (d := 12) (b := greatC a) rfl (fun h11 => ?_) (fun h11 => ?_)
  · skip
    refine s_no rfl rfl ?_
    refine s_no rfl rfl ?_
    refine s_val rfl rfl (r_pickT rfl rfl rfl) ?_
    refine s_val rfl rfl (r_mv rfl rfl) ?_
    refine s_no rfl rfl ?_
    refine s_no rfl rfl ?_
    refine s_no rfl rfl ?_
    refine s_val rfl rfl (r_pickT rfl rfl rfl) ?_
    refine s_val rfl rfl (r_mv rfl rfl) ?_
    refine s_no rfl rfl ?_
    refine s_no rfl rfl ?_
    refine s_no rfl rfl ?_
    refine s_val rfl rfl (r_pickT rfl rfl rfl) ?_
    refine s_nil ?_
    refine q_then ?_
    refine c_env [(0, .slice A1 a.length c2), (1, .slice A6 b.length c7), (2, .int .i64 op), (6, .bool false), (25, .bool true)] ⟨rfl, rfl, rfl, rfl, rfl, trivial⟩ ?_
    refine c_yes rfl ?_
    refine c_seq ?_
    refine c_reg ?_
    refine sc (awake5_ok ) H l0 rfl rfl (e_fn kn66 rfl rfl) ?_
    rintro _ _ w ⟨rfl, rfl⟩ H
    refine s_val rfl rfl (r_as rfl rfl) ?_
    refine s_nil ?_
    refine q_then ?_
    refine c_env [(0, .slice A1 a.length c2), (1, .slice A6 b.length c7), (2, .int .i64 op), (6, .bool true)] ⟨rfl, rfl, rfl, rfl, trivial⟩ ?_
    refine c_ret ?_
    refine q_thenR ?_
    refine q_ret1 rfl rfl ?_
    exact fin ⟨rfl, rfl⟩ H
  · skip
    refine s_val rfl rfl (r_mv rfl rfl) ?_
    refine sc (greatCode_ok (.slice A6 b.length c7) b) H (lR 1 rfl l0) rfl rfl (e_fn kn65 rfl rfl) ?_
    rintro _ _ w ⟨rfl, rfl⟩ H
    refine s_val rfl rfl (r_pickF rfl rfl rfl) ?_
    refine s_val rfl rfl (r_mv rfl rfl) ?_
    refine s_boo (d := 16) (b := greatC b) rfl (fun h12 => ?_) (fun h12 => ?_)
    · skip
      refine s_no rfl rfl ?_
      refine s_no rfl rfl ?_
      refine s_no rfl rfl ?_
      refine s_val rfl rfl (r_pickT rfl rfl rfl) ?_
      refine s_val rfl rfl (r_mv rfl rfl) ?_
      refine s_no rfl rfl ?_
      refine s_no rfl rfl ?_
      refine s_no rfl rfl ?_
      refine s_val rfl rfl (r_pickT rfl rfl rfl) ?_
      refine s_nil ?_
      refine q_then ?_
      refine c_env [(0, .slice A1 a.length c2), (1, .slice A6 b.length c7), (2, .int .i64 op), (6, .bool false), (25, .bool true)] ⟨rfl, rfl, rfl, rfl, rfl, trivial⟩ ?_
      refine c_yes rfl ?_
      refine c_seq ?_
      refine c_reg ?_
      refine sc (awake5_ok ) H l0 rfl rfl (e_fn kn66 rfl rfl) ?_
      rintro _ _ w ⟨rfl, rfl⟩ H
      refine s_val rfl rfl (r_as rfl rfl) ?_
      refine s_nil ?_
      refine q_then ?_
      refine c_env [(0, .slice A1 a.length c2), (1, .slice A6 b.length c7), (2, .int .i64 op), (6, .bool true)] ⟨rfl, rfl, rfl, rfl, trivial⟩ ?_
      refine c_ret ?_
      refine q_thenR ?_
      refine q_ret1 rfl rfl ?_
      exact fin ⟨rfl, rfl⟩ H
    · skip
      refine s_val rfl rfl (r_mv rfl rfl) ?_
      refine s_val rfl rfl (r_lenL rfl un79 rfl) ?_
      refine s_val rfl rfl (r_gt rfl rfl rfl) ?_
      refine s_val rfl rfl (r_pickF rfl rfl rfl) ?_
      refine s_val rfl rfl (r_mv rfl rfl) ?_
      refine s_dec (d := 21) (p := (20 : Int) < ((a.length : Nat) : Int)) rfl (fun h13 => ?_) (fun h13 => ?_)
      · skip
        refine s_no rfl rfl ?_
        refine s_no rfl rfl ?_
        refine s_no rfl rfl ?_
        refine s_val rfl rfl (r_pickT rfl rfl rfl) ?_
        refine s_nil ?_
        refine q_then ?_
        refine c_env [(0, .slice A1 a.length c2), (1, .slice A6 b.length c7), (2, .int .i64 op), (6, .bool false), (25, .bool true)] ⟨rfl, rfl, rfl, rfl, rfl, trivial⟩ ?_
        refine c_yes rfl ?_
        refine c_seq ?_
        refine c_reg ?_
        refine sc (awake5_ok ) H l0 rfl rfl (e_fn kn66 rfl rfl) ?_
        rintro _ _ w ⟨rfl, rfl⟩ H
        refine s_val rfl rfl (r_as rfl rfl) ?_
        refine s_nil ?_
        refine q_then ?_
        refine c_env [(0, .slice A1 a.length c2), (1, .slice A6 b.length c7), (2, .int .i64 op), (6, .bool true)] ⟨rfl, rfl, rfl, rfl, trivial⟩ ?_
        refine c_ret ?_
        refine q_thenR ?_
        refine q_ret1 rfl rfl ?_
        exact fin ⟨rfl, rfl⟩ H
      · skip
        refine s_val rfl rfl (r_mv rfl rfl) ?_
        refine s_val rfl rfl (r_lenL rfl un79 rfl) ?_
        refine s_val rfl rfl (r_gt rfl rfl rfl) ?_
        refine s_val rfl rfl (r_pickF rfl rfl rfl) ?_
        refine s_nil ?_
        refine q_then ?_
        refine c_env [(0, .slice A1 a.length c2), (1, .slice A6 b.length c7), (2, .int .i64 op), (6, .bool false), (25, .bool (decide ((20 : Int) < ((b.length : Nat) : Int))))] ⟨rfl, rfl, rfl, rfl, rfl, trivial⟩ ?_
        refine c_dec (p := (20 : Int) < ((b.length : Nat) : Int)) rfl (fun h14 => ?_) (fun h14 => ?_)
        · skip
          refine c_seq ?_
          refine c_reg ?_
          refine sc (awake5_ok ) H l0 rfl rfl (e_fn kn66 rfl rfl) ?_
          rintro _ _ w ⟨rfl, rfl⟩ H
          refine s_val rfl rfl (r_as rfl rfl) ?_
          refine s_nil ?_
          refine q_then ?_
          refine c_env [(0, .slice A1 a.length c2), (1, .slice A6 b.length c7), (2, .int .i64 op), (6, .bool true)] ⟨rfl, rfl, rfl, rfl, trivial⟩ ?_
          refine c_ret ?_
          refine q_thenR ?_
          refine q_ret1 rfl rfl ?_
          exact fin ⟨rfl, rfl⟩ H
        · skip
          refine c_skip ?_
          refine q_then ?_
          refine c_env [(0, .slice A1 a.length c2), (1, .slice A6 b.length c7), (2, .int .i64 op), (6, .bool false)] ⟨rfl, rfl, rfl, rfl, trivial⟩ ?_
          refine c_seq ?_
          refine c_reg ?_
          refine s_val rfl rfl (r_mv rfl rfl) ?_
          replace H := H.newnil kIns
          refine s_appF (xs := []) (ys := a) rfl rfl rfl sl79 zr86 rfl (by decide) rfl rfl H (by first | omega | (simp only [List.length_append, List.length_cons, List.length_nil]; omega)) (fun F hA hR => hR _ (List.mem_of_getElem? (i := 0) rfl)) (fun v15 w H => ?_)
          refine s_val rfl rfl (r_mv rfl rfl) ?_
          refine s_appF (xs := [] ++ a) (ys := b) rfl rfl rfl sl79 zr86 rfl (by decide) rfl rfl H (by first | omega | (simp only [List.length_append, List.length_cons, List.length_nil]; omega)) (fun F hA hR => hR _ (List.mem_of_getElem? (i := 1) rfl)) (fun v16 w H => ?_)
          refine s_val rfl rfl (r_as rfl rfl) ?_
          refine s_nil ?_
          refine q_then ?_
          replace H : Hd _ _ _ [osl kIns v16 (([] ++ a) ++ b)] [rsl kIns (.slice A1 a.length c2) a, rsl kIns (.slice A6 b.length c7) b] := H
          refine c_env [(0, .slice A1 a.length c2), (1, .slice A6 b.length c7), (2, .int .i64 op), (6, .bool false), (7, v16)] ⟨rfl, rfl, rfl, rfl, rfl, trivial⟩ ?_
          refine c_seq ?_
          refine c_seq ?_
          refine c_reg ?_
          refine s_val rfl rfl (r_as rfl rfl) ?_
          refine s_nil ?_
          refine q_then ?_
          refine c_env [(0, .slice A1 a.length c2), (1, .slice A6 b.length c7), (2, .int .i64 op), (6, .bool false), (7, v16), (8, .int .i64 0)] ⟨rfl, rfl, rfl, rfl, rfl, rfl, trivial⟩ ?_
          refine c_block ?_
          rw [List.nil_append] at H
          replace H : Hd _ _ _ [osl kIns v16 (a ++ b)] [rsl kIns (.slice A1 a.length c2) a, rsl kIns (.slice A6 b.length c7) b] := H
          have hlen : (a ++ b).length = a.length + b.length := List.length_append
          refine c_loop (σ := Nat) (fun k => [(0, .slice A1 a.length c2), (1, .slice A6 b.length c7), (2, .int .i64 op), (7, v16), (8, .int .i64 ((k : Nat) : Int))]) (fun k w => (Hd w0 F0 w [osl kIns v16 (a ++ b)] [rsl kIns (.slice A1 a.length c2) a, rsl kIns (.slice A6 b.length c7) b]) ∧ (k ≤ a.length + b.length) ∧ (∀ y ∈ (a ++ b).take k, ¬ (y.op = 19 ∨ y.op = 20))) (fun k => a.length + b.length - k) 0 ⟨rfl, rfl, rfl, rfl, rfl, trivial⟩ ⟨H, by omega, by simp⟩ ?_
          rintro k w ⟨H, hk, hn⟩
          refine c_seq ?_
          refine c_seq ?_
          refine c_reg ?_
          refine s_val rfl rfl (r_mv rfl rfl) ?_
          refine s_val rfl rfl (r_mv rfl rfl) ?_
          obtain ⟨A17, c18, rfl, hc19, hm20, hp21⟩ := H.fA 0 rfl
          refine s_val rfl rfl (r_lenL rfl un79 rfl) ?_
          refine s_val rfl rfl (r_lt rfl rfl rfl) ?_
          refine s_nil ?_
          refine q_then ?_
          replace H : Hd _ _ _ [osl kIns (.slice A17 ((a ++ b).length) c18) (a ++ b)] [rsl kIns (.slice A1 a.length c2) a, rsl kIns (.slice A6 b.length c7) b] := H
          refine c_env [(0, .slice A1 a.length c2), (1, .slice A6 b.length c7), (2, .int .i64 op), (7, .slice A17 ((a ++ b).length) c18), (8, .int .i64 ((k : Nat) : Int)), (34, .bool (decide (((k : Nat) : Int) < (((a ++ b).length : Nat) : Int))))] ⟨rfl, rfl, rfl, rfl, rfl, rfl, trivial⟩ ?_
          refine c_dec (p := ((k : Nat) : Int) < (((a ++ b).length : Nat) : Int)) rfl (fun h22 => ?_) (fun h22 => ?_)
          · skip
            refine c_skip ?_
            refine q_then ?_
            refine c_env [(0, .slice A1 a.length c2), (1, .slice A6 b.length c7), (2, .int .i64 op), (7, .slice A17 ((a ++ b).length) c18), (8, .int .i64 ((k : Nat) : Int))] ⟨rfl, rfl, rfl, rfl, rfl, trivial⟩ ?_
            refine c_seq ?_
            refine c_block ?_
            refine c_seq ?_
            refine c_reg ?_
            refine s_val rfl rfl (r_mv rfl rfl) ?_
            refine s_val rfl rfl (r_mv rfl rfl) ?_
            obtain ⟨x23, hx24⟩ : ∃ z9, (a ++ b)[k]? = some z9 := ⟨_, List.getElem?_eq_getElem (show k < (a ++ b).length by omega)⟩
            have th25 := H.thA 0 rfl hx24
            refine s_val rfl rfl (r_iaE (p := oOf A17 + k * 3) rfl sl79 rfl rfl (by omega) (by omega) th25 rfl) ?_
            refine s_val rfl rfl (r_fa rfl fo86_0 rfl) ?_
            refine s_val rfl rfl (r_ld rfl ty3 rfl (H.elA 0 rfl hx24 (q := 0) rfl rfl)) ?_
            refine s_val rfl rfl (r_eq rfl rfl rfl) ?_
            refine s_val rfl rfl (r_mv rfl rfl) ?_
            refine s_dec (d := 43) (p := x23.op = 19) rfl (fun h26 => ?_) (fun h26 => ?_)
            · skip
              refine s_no rfl rfl ?_
              refine s_no rfl rfl ?_
              refine s_no rfl rfl ?_
              refine s_no rfl rfl ?_
              refine s_no rfl rfl ?_
              refine s_no rfl rfl ?_
              refine s_val rfl rfl (r_pickT rfl rfl rfl) ?_
              refine s_nil ?_
              refine q_then ?_
              refine c_env [(0, .slice A1 a.length c2), (1, .slice A6 b.length c7), (2, .int .i64 op), (7, .slice A17 ((a ++ b).length) c18), (8, .int .i64 ((k : Nat) : Int)), (50, .bool true)] ⟨rfl, rfl, rfl, rfl, rfl, rfl, trivial⟩ ?_
              refine c_yes rfl ?_
              refine c_seq ?_
              refine c_reg ?_
              refine sc (awake5_ok ) H l0 rfl rfl (e_fn kn66 rfl rfl) ?_
              rintro _ _ w ⟨rfl, rfl⟩ H
              refine s_val rfl rfl (r_as rfl rfl) ?_
              refine s_nil ?_
              refine q_then ?_
              refine c_env [(0, .slice A1 a.length c2), (1, .slice A6 b.length c7), (2, .int .i64 op), (6, .bool true), (7, .slice A17 ((a ++ b).length) c18), (8, .int .i64 ((k : Nat) : Int))] ⟨rfl, rfl, rfl, rfl, rfl, rfl, trivial⟩ ?_
              refine c_ret ?_
              refine q_blockR ?_
              refine q_thenR ?_
              refine q_thenR ?_
              refine q_blockR ?_
              refine q_thenR ?_
              refine q_ret1 rfl rfl ?_
              replace H := H.keep 0
              exact fin ⟨rfl, rfl⟩ H
            · skip
              refine s_val rfl rfl (r_mv rfl rfl) ?_
              refine s_val rfl rfl (r_mv rfl rfl) ?_
              have th27 := H.thA 0 rfl hx24
              refine s_val rfl rfl (r_iaE (p := oOf A17 + k * 3) rfl sl79 rfl rfl (by omega) (by omega) th27 rfl) ?_
              refine s_val rfl rfl (r_fa rfl fo86_0 rfl) ?_
              refine s_val rfl rfl (r_ld rfl ty3 rfl (H.elA 0 rfl hx24 (q := 0) rfl rfl)) ?_
              refine s_val rfl rfl (r_eq rfl rfl rfl) ?_
              refine s_val rfl rfl (r_pickF rfl rfl rfl) ?_
              refine s_nil ?_
              refine q_then ?_
              refine c_env [(0, .slice A1 a.length c2), (1, .slice A6 b.length c7), (2, .int .i64 op), (7, .slice A17 ((a ++ b).length) c18), (8, .int .i64 ((k : Nat) : Int)), (50, .bool (decide (x23.op = 20)))] ⟨rfl, rfl, rfl, rfl, rfl, rfl, trivial⟩ ?_
              refine c_dec (p := x23.op = 20) rfl (fun h28 => ?_) (fun h28 => ?_)
              · skip
                refine c_seq ?_
                refine c_reg ?_
                refine sc (awake5_ok ) H l0 rfl rfl (e_fn kn66 rfl rfl) ?_
                rintro _ _ w ⟨rfl, rfl⟩ H
                refine s_val rfl rfl (r_as rfl rfl) ?_
                refine s_nil ?_
                refine q_then ?_
                refine c_env [(0, .slice A1 a.length c2), (1, .slice A6 b.length c7), (2, .int .i64 op), (6, .bool true), (7, .slice A17 ((a ++ b).length) c18), (8, .int .i64 ((k : Nat) : Int))] ⟨rfl, rfl, rfl, rfl, rfl, rfl, trivial⟩ ?_
                refine c_ret ?_
                refine q_blockR ?_
                refine q_thenR ?_
                refine q_thenR ?_
                refine q_blockR ?_
                refine q_thenR ?_
                refine q_ret1 rfl rfl ?_
                replace H := H.keep 0
                exact fin ⟨rfl, rfl⟩ H
              · skip
                refine c_skip ?_
                refine q_blockN ?_
                refine q_then ?_
                refine c_env [(0, .slice A1 a.length c2), (1, .slice A6 b.length c7), (2, .int .i64 op), (7, .slice A17 ((a ++ b).length) c18), (8, .int .i64 ((k : Nat) : Int))] ⟨rfl, rfl, rfl, rfl, rfl, trivial⟩ ?_
                refine c_reg ?_
                refine s_val rfl rfl (r_mv rfl rfl) ?_
                refine s_val rfl rfl (r_add (z := ((k + 1 : Nat) : Int)) rfl rfl rfl (by rw [w64 (by omega) (by omega)]; omega)) ?_
                refine s_val rfl rfl (r_as rfl rfl) ?_
                refine s_nil ?_
                exact q_round (s := k) (k + 1) ⟨rfl, rfl, rfl, rfl, rfl, trivial⟩ ⟨H, by (try dsimp only); omega, take_prop hn hx24 (by omega)⟩ (by (try dsimp only); omega)
          · skip
            refine c_exit ?_
            refine q_thenE ?_
            refine q_thenE ?_
            refine q_blockE ?_
            refine q_then ?_
            refine c_env [(0, .slice A1 a.length c2), (1, .slice A6 b.length c7), (2, .int .i64 op), (7, .slice A17 ((a ++ b).length) c18)] ⟨rfl, rfl, rfl, rfl, trivial⟩ ?_
            refine c_seq ?_
            refine c_seq ?_
            have hj : ∀ p ∈ a ++ b, ¬ (p.op = 19 ∨ p.op = 20) := by rw [List.take_of_length_le (by omega)] at hn; exact hn
            have hpm := parts_may (by omega) (by omega) hj
            have hja : ∀ p ∈ a, ¬ (p.op = 19 ∨ p.op = 20) := fun p hp => hj p (List.mem_append_left _ hp)
            refine c_reg ?_
            refine s_val rfl rfl (r_mv rfl rfl) ?_
            refine sc (pMay_ok (.slice A17 ((a ++ b).length) c18) (a ++ b)) H (lA 0 rfl own_rd l0) rfl rfl (e_fn kn71 rfl rfl) ?_
            rintro _ _ w ⟨rfl, rfl⟩ H
            refine s_val rfl rfl (r_mv rfl rfl) ?_
            refine sc (pMay_ok (.slice A1 a.length c2) a) H (lR 0 rfl l0) rfl rfl (e_fn kn71 rfl rfl) ?_
            rintro _ _ w ⟨rfl, rfl⟩ H
            refine s_val rfl rfl (r_mv rfl rfl) ?_
            refine s_dec (d := 56) (p := badI a < 0) rfl (fun h29 => ?_) (fun h29 => ?_)
            · skip
              refine s_val rfl rfl (r_mv rfl rfl) ?_
              refine sc (pMay_ok (.slice A6 b.length c7) b) H (lR 1 rfl l0) rfl rfl (e_fn kn71 rfl rfl) ?_
              rintro _ _ w ⟨rfl, rfl⟩ H
              refine s_val rfl rfl (r_pickT rfl rfl rfl) ?_
              refine s_val rfl rfl (r_bne rfl un4 rfl rfl) ?_
              refine s_nil ?_
              refine q_then ?_
              refine c_env [(0, .slice A1 a.length c2), (1, .slice A6 b.length c7), (2, .int .i64 op), (7, .slice A17 ((a ++ b).length) c18), (60, .bool (decide ((decide (badI (a ++ b) < 0)) ≠ (decide (badI b < 0)))))] ⟨rfl, rfl, rfl, rfl, rfl, trivial⟩ ?_
              refine c_dec (p := (decide (badI (a ++ b) < 0)) ≠ (decide (badI b < 0))) rfl (fun h30 => ?_) (fun h30 => ?_)
              · exact (h30 (by simp only [decide_eq_decide]; omega)).elim
              · skip
                refine c_skip ?_
                refine q_then ?_
                refine c_env [(0, .slice A1 a.length c2), (1, .slice A6 b.length c7), (2, .int .i64 op), (7, .slice A17 ((a ++ b).length) c18)] ⟨rfl, rfl, rfl, rfl, trivial⟩ ?_
                refine c_seq ?_
                refine c_seq ?_
                refine c_reg ?_
                refine s_val rfl rfl (r_mv rfl rfl) ?_
                refine s_val rfl rfl (r_ge rfl rfl rfl) ?_
                refine s_val rfl rfl (r_mv rfl rfl) ?_
                refine s_dec (d := 63) (p := (0 : Int) ≤ op) rfl (fun h31 => ?_) (fun h31 => ?_)
                · skip
                  refine s_val rfl rfl (r_mv rfl rfl) ?_
                  refine s_val rfl rfl (r_le rfl rfl rfl) ?_
                  refine s_val rfl rfl (r_pickT rfl rfl rfl) ?_
                  refine s_nil ?_
                  refine q_then ?_
                  refine c_env [(0, .slice A1 a.length c2), (1, .slice A6 b.length c7), (2, .int .i64 op), (7, .slice A17 ((a ++ b).length) c18), (66, .bool (decide (op ≤ 23)))] ⟨rfl, rfl, rfl, rfl, rfl, trivial⟩ ?_
                  refine c_dec (p := op ≤ 23) rfl (fun h32 => ?_) (fun h32 => ?_)
                  · skip
                    refine c_reg ?_
                    refine s_val rfl rfl (r_mv rfl rfl) ?_
                    refine s_val rfl rfl (r_add (z := op + 24) rfl rfl rfl (w64 (by omega) (by omega))) ?_
                    refine s_val rfl rfl (r_as rfl rfl) ?_
                    refine s_nil ?_
                    refine q_then ?_
                    refine c_env [(0, .slice A1 a.length c2), (1, .slice A6 b.length c7), (2, .int .i64 (op + 24)), (7, .slice A17 ((a ++ b).length) c18)] ⟨rfl, rfl, rfl, rfl, trivial⟩ ?_
                    refine c_seq ?_
                    refine c_reg ?_
                    refine s_val rfl rfl (r_mv rfl rfl) ?_
                    replace H := H.newnil kIns
                    refine s_appF (xs := []) (ys := a) rfl rfl rfl sl79 zr86 rfl (by decide) rfl rfl H (by first | omega | (simp only [List.length_append, List.length_cons, List.length_nil]; omega)) (fun F hA hR => hR _ (List.mem_of_getElem? (i := 0) rfl)) (fun v33 w H => ?_)
                    refine s_val rfl rfl (r_mv rfl rfl) ?_
                    refine s_val rfl rfl (r_bd (parts := [(0, .tmp 71)]) (vs := [.int .i64 (op + 24)]) (cs := [.int .i64 (op + 24), .int .i64 0, .string ⟨#[]⟩]) rfl bd86 rfl rfl) ?_
                    refine s_bsl (parts := [(0, .tmp 72)]) (vs := [.agg #[.int .i64 (op + 24), .int .i64 0, .string ⟨#[]⟩]]) (cs := [.int .i64 (op + 24), .int .i64 0, .string ⟨#[]⟩]) rfl rfl rfl sl79 zr86 rfl (by decide) (by decide) rfl rfl H (fun b34 w H => ?_)
                    replace H := H.pick 1 rfl
                    refine s_appF (xs := [] ++ a) (ys := [(⟨op + 24, 0, ⟨#[]⟩⟩ : Ins)]) rfl rfl rfl sl79 zr86 rfl (by decide) rfl rfl H (by first | omega | (simp only [List.length_append, List.length_cons, List.length_nil]; omega)) (fun F hA hR => blk_rsl (hA _ (List.mem_of_getElem? (i := 0) rfl)) rfl (by decide) (RepsR.flat_eq.2 rfl)) (fun v35 w H => ?_)
                    refine s_val rfl rfl (r_mv rfl rfl) ?_
                    refine s_appF (xs := ([] ++ a) ++ [(⟨op + 24, 0, ⟨#[]⟩⟩ : Ins)]) (ys := b) rfl rfl rfl sl79 zr86 rfl (by decide) rfl rfl H (by first | omega | (simp only [List.length_append, List.length_cons, List.length_nil]; omega)) (fun F hA hR => hR _ (List.mem_of_getElem? (i := 1) rfl)) (fun v36 w H => ?_)
                    refine s_val rfl rfl (r_as rfl rfl) ?_
                    refine s_nil ?_
                    refine q_then ?_
                    replace H : Hd _ _ _ [osl kIns v36 ((([] ++ a) ++ [(⟨op + 24, 0, ⟨#[]⟩⟩ : Ins)]) ++ b), blk b34 [.int .i64 (op + 24), .int .i64 0, .string ⟨#[]⟩] 86, osl kIns (.slice A17 ((a ++ b).length) c18) (a ++ b)] [rsl kIns (.slice A1 a.length c2) a, rsl kIns (.slice A6 b.length c7) b] := H
                    refine c_env [(0, .slice A1 a.length c2), (7, .slice A17 ((a ++ b).length) c18), (9, v36)] ⟨rfl, rfl, rfl, trivial⟩ ?_
                    refine c_seq ?_
                    rw [List.nil_append] at H
                    replace H : Hd _ _ _ [osl kIns v36 (a ++ [(⟨op + 24, 0, ⟨#[]⟩⟩ : Ins)] ++ b), blk b34 [.int .i64 (op + 24), .int .i64 0, .string ⟨#[]⟩] 86, osl kIns (.slice A17 ((a ++ b).length) c18) (a ++ b)] [rsl kIns (.slice A1 a.length c2) a, rsl kIns (.slice A6 b.length c7) b] := H
                    refine c_reg ?_
                    refine s_val rfl rfl (r_mv rfl rfl) ?_
                    refine sc (pMay_ok (.slice A1 a.length c2) a) H (lR 0 rfl l0) rfl rfl (e_fn kn71 rfl rfl) ?_
                    rintro _ _ w ⟨rfl, rfl⟩ H
                    refine s_val rfl rfl (r_notP rfl rfl) ?_
                    refine s_val rfl rfl (r_mv rfl rfl) ?_
                    refine s_dec (d := 80) (p := ¬ (badI a < 0)) rfl (fun h37 => ?_) (fun h37 => ?_)
                    · skip
                      refine s_no rfl rfl ?_
                      refine s_no rfl rfl ?_
                      refine s_no rfl rfl ?_
                      refine s_no rfl rfl ?_
                      refine s_no rfl rfl ?_
                      refine s_val rfl rfl (r_pickT rfl rfl rfl) ?_
                      refine s_val rfl rfl (r_mv rfl rfl) ?_
                      refine s_val rfl rfl (r_mv rfl rfl) ?_
                      refine sc (pbad_ok (.slice A1 a.length c2) a) H (lR 0 rfl l0) rfl rfl (e_fn kn69 rfl rfl) ?_
                      rintro _ _ w ⟨rfl, rfl⟩ H
                      refine s_val rfl rfl (r_lt rfl rfl rfl) ?_
                      refine s_val rfl rfl (r_mv rfl rfl) ?_
                      refine s_dec (d := 91) (p := (badI a) < 0) rfl (fun h38 => ?_) (fun h38 => ?_)
                      · skip
                        refine s_no rfl rfl ?_
                        refine s_no rfl rfl ?_
                        refine s_no rfl rfl ?_
                        refine s_no rfl rfl ?_
                        refine s_no rfl rfl ?_
                        refine s_val rfl rfl (r_pickT rfl rfl rfl) ?_
                        refine s_val rfl rfl (r_pickT rfl rfl rfl) ?_
                        refine s_val rfl rfl (r_mv rfl rfl) ?_
                        refine sc (awake5_ok ) H l0 rfl rfl (e_fn kn66 rfl rfl) ?_
                        rintro _ _ w ⟨rfl, rfl⟩ H
                        refine s_val rfl rfl (r_pickT rfl rfl rfl) ?_
                        refine s_val rfl rfl (r_as rfl rfl) ?_
                        refine s_nil ?_
                        refine q_then ?_
                        refine c_env [(6, .bool true)] ⟨rfl, trivial⟩ ?_
                        refine c_ret ?_
                        refine q_ret1 rfl rfl ?_
                        replace H := H.keep 0
                        exact fin ⟨rfl, rfl⟩ H
                      · skip
                        refine s_val rfl rfl (r_mv rfl rfl) ?_
                        refine sc (pbad_ok (.slice A17 ((a ++ b).length) c18) (a ++ b)) H (lA 2 rfl own_rd l0) rfl rfl (e_fn kn69 rfl rfl) ?_
                        rintro _ _ w ⟨rfl, rfl⟩ H
                        refine s_val rfl rfl (r_mv rfl rfl) ?_
                        refine sc (pbad_ok (.slice A1 a.length c2) a) H (lR 0 rfl l0) rfl rfl (e_fn kn69 rfl rfl) ?_
                        rintro _ _ w ⟨rfl, rfl⟩ H
                        refine s_val rfl rfl (r_eq rfl rfl rfl) ?_
                        refine s_val rfl rfl (r_pickF rfl rfl rfl) ?_
                        refine s_val rfl rfl (r_pickT rfl rfl rfl) ?_
                        refine s_val rfl rfl (r_mv rfl rfl) ?_
                        refine s_dec (d := 99) (p := (badI (a ++ b)) = (badI a)) rfl (fun h39 => ?_) (fun h39 => ?_)
                        · skip
                          refine sc (awake5_ok ) H l0 rfl rfl (e_fn kn66 rfl rfl) ?_
                          rintro _ _ w ⟨rfl, rfl⟩ H
                          refine s_val rfl rfl (r_pickT rfl rfl rfl) ?_
                          refine s_val rfl rfl (r_as rfl rfl) ?_
                          refine s_nil ?_
                          refine q_then ?_
                          refine c_env [(6, .bool true)] ⟨rfl, trivial⟩ ?_
                          refine c_ret ?_
                          refine q_ret1 rfl rfl ?_
                          replace H := H.keep 0
                          exact fin ⟨rfl, rfl⟩ H
                        · exact absurd (parts_first (by omega) hja (by omega)) h39
                    · skip
                      refine s_val rfl rfl (r_mv rfl rfl) ?_
                      refine sc (pbad_ok v36 (a ++ [(⟨op + 24, 0, ⟨#[]⟩⟩ : Ins)] ++ b)) H (lA 0 rfl own_rd l0) rfl rfl (e_fn kn69 rfl rfl) ?_
                      rintro _ _ w ⟨rfl, rfl⟩ H
                      refine s_val rfl rfl (r_mv rfl rfl) ?_
                      refine s_val rfl rfl (r_lenL rfl un79 rfl) ?_
                      refine s_val rfl rfl (r_eq rfl rfl rfl) ?_
                      refine s_val rfl rfl (r_pickF rfl rfl rfl) ?_
                      refine s_val rfl rfl (r_mv rfl rfl) ?_
                      refine s_dec (d := 87) (p := (badI (a ++ [(⟨op + 24, 0, ⟨#[]⟩⟩ : Ins)] ++ b)) = ((a.length : Nat) : Int)) rfl (fun h40 => ?_) (fun h40 => ?_)
                      · skip
                        refine s_val rfl rfl (r_mv rfl rfl) ?_
                        refine sc (pbad_ok (.slice A1 a.length c2) a) H (lR 0 rfl l0) rfl rfl (e_fn kn69 rfl rfl) ?_
                        rintro _ _ w ⟨rfl, rfl⟩ H
                        refine s_val rfl rfl (r_lt rfl rfl rfl) ?_
                        refine s_val rfl rfl (r_mv rfl rfl) ?_
                        refine s_dec (d := 91) (p := (badI a) < 0) rfl (fun h41 => ?_) (fun h41 => ?_)
                        · skip
                          refine s_no rfl rfl ?_
                          refine s_no rfl rfl ?_
                          refine s_no rfl rfl ?_
                          refine s_no rfl rfl ?_
                          refine s_no rfl rfl ?_
                          refine s_val rfl rfl (r_pickT rfl rfl rfl) ?_
                          refine s_val rfl rfl (r_pickT rfl rfl rfl) ?_
                          refine s_val rfl rfl (r_mv rfl rfl) ?_
                          refine sc (awake5_ok ) H l0 rfl rfl (e_fn kn66 rfl rfl) ?_
                          rintro _ _ w ⟨rfl, rfl⟩ H
                          refine s_val rfl rfl (r_pickT rfl rfl rfl) ?_
                          refine s_val rfl rfl (r_as rfl rfl) ?_
                          refine s_nil ?_
                          refine q_then ?_
                          refine c_env [(6, .bool true)] ⟨rfl, trivial⟩ ?_
                          refine c_ret ?_
                          refine q_ret1 rfl rfl ?_
                          replace H := H.keep 0
                          exact fin ⟨rfl, rfl⟩ H
                        · skip
                          refine s_val rfl rfl (r_mv rfl rfl) ?_
                          refine sc (pbad_ok (.slice A17 ((a ++ b).length) c18) (a ++ b)) H (lA 2 rfl own_rd l0) rfl rfl (e_fn kn69 rfl rfl) ?_
                          rintro _ _ w ⟨rfl, rfl⟩ H
                          refine s_val rfl rfl (r_mv rfl rfl) ?_
                          refine sc (pbad_ok (.slice A1 a.length c2) a) H (lR 0 rfl l0) rfl rfl (e_fn kn69 rfl rfl) ?_
                          rintro _ _ w ⟨rfl, rfl⟩ H
                          refine s_val rfl rfl (r_eq rfl rfl rfl) ?_
                          refine s_val rfl rfl (r_pickF rfl rfl rfl) ?_
                          refine s_val rfl rfl (r_pickT rfl rfl rfl) ?_
                          refine s_val rfl rfl (r_mv rfl rfl) ?_
                          refine s_dec (d := 99) (p := (badI (a ++ b)) = (badI a)) rfl (fun h42 => ?_) (fun h42 => ?_)
                          · skip
                            refine sc (awake5_ok ) H l0 rfl rfl (e_fn kn66 rfl rfl) ?_
                            rintro _ _ w ⟨rfl, rfl⟩ H
                            refine s_val rfl rfl (r_pickT rfl rfl rfl) ?_
                            refine s_val rfl rfl (r_as rfl rfl) ?_
                            refine s_nil ?_
                            refine q_then ?_
                            refine c_env [(6, .bool true)] ⟨rfl, trivial⟩ ?_
                            refine c_ret ?_
                            refine q_ret1 rfl rfl ?_
                            replace H := H.keep 0
                            exact fin ⟨rfl, rfl⟩ H
                          · exact absurd (parts_first (by omega) hja (by omega)) h42
                      · exact absurd (parts_bad (by omega) hja (by (try dsimp only); omega) (by omega)) h40
                  · skip
                    refine c_skip ?_
                    refine q_then ?_
                    refine c_env [(0, .slice A1 a.length c2), (1, .slice A6 b.length c7), (2, .int .i64 op), (7, .slice A17 ((a ++ b).length) c18)] ⟨rfl, rfl, rfl, rfl, trivial⟩ ?_
                    refine c_seq ?_
                    refine c_reg ?_
                    refine s_val rfl rfl (r_mv rfl rfl) ?_
                    replace H := H.newnil kIns
                    refine s_appF (xs := []) (ys := a) rfl rfl rfl sl79 zr86 rfl (by decide) rfl rfl H (by first | omega | (simp only [List.length_append, List.length_cons, List.length_nil]; omega)) (fun F hA hR => hR _ (List.mem_of_getElem? (i := 0) rfl)) (fun v43 w H => ?_)
                    refine s_val rfl rfl (r_mv rfl rfl) ?_
                    refine s_val rfl rfl (r_bd (parts := [(0, .tmp 71)]) (vs := [.int .i64 op]) (cs := [.int .i64 op, .int .i64 0, .string ⟨#[]⟩]) rfl bd86 rfl rfl) ?_
                    refine s_bsl (parts := [(0, .tmp 72)]) (vs := [.agg #[.int .i64 op, .int .i64 0, .string ⟨#[]⟩]]) (cs := [.int .i64 op, .int .i64 0, .string ⟨#[]⟩]) rfl rfl rfl sl79 zr86 rfl (by decide) (by decide) rfl rfl H (fun b44 w H => ?_)
                    replace H := H.pick 1 rfl
                    refine s_appF (xs := [] ++ a) (ys := [(⟨op, 0, ⟨#[]⟩⟩ : Ins)]) rfl rfl rfl sl79 zr86 rfl (by decide) rfl rfl H (by first | omega | (simp only [List.length_append, List.length_cons, List.length_nil]; omega)) (fun F hA hR => blk_rsl (hA _ (List.mem_of_getElem? (i := 0) rfl)) rfl (by decide) (RepsR.flat_eq.2 rfl)) (fun v45 w H => ?_)
                    refine s_val rfl rfl (r_mv rfl rfl) ?_
                    refine s_appF (xs := ([] ++ a) ++ [(⟨op, 0, ⟨#[]⟩⟩ : Ins)]) (ys := b) rfl rfl rfl sl79 zr86 rfl (by decide) rfl rfl H (by first | omega | (simp only [List.length_append, List.length_cons, List.length_nil]; omega)) (fun F hA hR => hR _ (List.mem_of_getElem? (i := 1) rfl)) (fun v46 w H => ?_)
                    refine s_val rfl rfl (r_as rfl rfl) ?_
                    refine s_nil ?_
                    refine q_then ?_
                    replace H : Hd _ _ _ [osl kIns v46 ((([] ++ a) ++ [(⟨op, 0, ⟨#[]⟩⟩ : Ins)]) ++ b), blk b44 [.int .i64 op, .int .i64 0, .string ⟨#[]⟩] 86, osl kIns (.slice A17 ((a ++ b).length) c18) (a ++ b)] [rsl kIns (.slice A1 a.length c2) a, rsl kIns (.slice A6 b.length c7) b] := H
                    refine c_env [(0, .slice A1 a.length c2), (7, .slice A17 ((a ++ b).length) c18), (9, v46)] ⟨rfl, rfl, rfl, trivial⟩ ?_
                    refine c_seq ?_
                    rw [List.nil_append] at H
                    replace H : Hd _ _ _ [osl kIns v46 (a ++ [(⟨op, 0, ⟨#[]⟩⟩ : Ins)] ++ b), blk b44 [.int .i64 op, .int .i64 0, .string ⟨#[]⟩] 86, osl kIns (.slice A17 ((a ++ b).length) c18) (a ++ b)] [rsl kIns (.slice A1 a.length c2) a, rsl kIns (.slice A6 b.length c7) b] := H
                    refine c_reg ?_
                    refine s_val rfl rfl (r_mv rfl rfl) ?_
                    refine sc (pMay_ok (.slice A1 a.length c2) a) H (lR 0 rfl l0) rfl rfl (e_fn kn71 rfl rfl) ?_
                    rintro _ _ w ⟨rfl, rfl⟩ H
                    refine s_val rfl rfl (r_notP rfl rfl) ?_
                    refine s_val rfl rfl (r_mv rfl rfl) ?_
                    refine s_dec (d := 80) (p := ¬ (badI a < 0)) rfl (fun h47 => ?_) (fun h47 => ?_)
                    · skip
                      refine s_no rfl rfl ?_
                      refine s_no rfl rfl ?_
                      refine s_no rfl rfl ?_
                      refine s_no rfl rfl ?_
                      refine s_no rfl rfl ?_
                      refine s_val rfl rfl (r_pickT rfl rfl rfl) ?_
                      refine s_val rfl rfl (r_mv rfl rfl) ?_
                      refine s_val rfl rfl (r_mv rfl rfl) ?_
                      refine sc (pbad_ok (.slice A1 a.length c2) a) H (lR 0 rfl l0) rfl rfl (e_fn kn69 rfl rfl) ?_
                      rintro _ _ w ⟨rfl, rfl⟩ H
                      refine s_val rfl rfl (r_lt rfl rfl rfl) ?_
                      refine s_val rfl rfl (r_mv rfl rfl) ?_
                      refine s_dec (d := 91) (p := (badI a) < 0) rfl (fun h48 => ?_) (fun h48 => ?_)
                      · skip
                        refine s_no rfl rfl ?_
                        refine s_no rfl rfl ?_
                        refine s_no rfl rfl ?_
                        refine s_no rfl rfl ?_
                        refine s_no rfl rfl ?_
                        refine s_val rfl rfl (r_pickT rfl rfl rfl) ?_
                        refine s_val rfl rfl (r_pickT rfl rfl rfl) ?_
                        refine s_val rfl rfl (r_mv rfl rfl) ?_
                        refine sc (awake5_ok ) H l0 rfl rfl (e_fn kn66 rfl rfl) ?_
                        rintro _ _ w ⟨rfl, rfl⟩ H
                        refine s_val rfl rfl (r_pickT rfl rfl rfl) ?_
                        refine s_val rfl rfl (r_as rfl rfl) ?_
                        refine s_nil ?_
                        refine q_then ?_
                        refine c_env [(6, .bool true)] ⟨rfl, trivial⟩ ?_
                        refine c_ret ?_
                        refine q_ret1 rfl rfl ?_
                        replace H := H.keep 0
                        exact fin ⟨rfl, rfl⟩ H
                      · skip
                        refine s_val rfl rfl (r_mv rfl rfl) ?_
                        refine sc (pbad_ok (.slice A17 ((a ++ b).length) c18) (a ++ b)) H (lA 2 rfl own_rd l0) rfl rfl (e_fn kn69 rfl rfl) ?_
                        rintro _ _ w ⟨rfl, rfl⟩ H
                        refine s_val rfl rfl (r_mv rfl rfl) ?_
                        refine sc (pbad_ok (.slice A1 a.length c2) a) H (lR 0 rfl l0) rfl rfl (e_fn kn69 rfl rfl) ?_
                        rintro _ _ w ⟨rfl, rfl⟩ H
                        refine s_val rfl rfl (r_eq rfl rfl rfl) ?_
                        refine s_val rfl rfl (r_pickF rfl rfl rfl) ?_
                        refine s_val rfl rfl (r_pickT rfl rfl rfl) ?_
                        refine s_val rfl rfl (r_mv rfl rfl) ?_
                        refine s_dec (d := 99) (p := (badI (a ++ b)) = (badI a)) rfl (fun h49 => ?_) (fun h49 => ?_)
                        · skip
                          refine sc (awake5_ok ) H l0 rfl rfl (e_fn kn66 rfl rfl) ?_
                          rintro _ _ w ⟨rfl, rfl⟩ H
                          refine s_val rfl rfl (r_pickT rfl rfl rfl) ?_
                          refine s_val rfl rfl (r_as rfl rfl) ?_
                          refine s_nil ?_
                          refine q_then ?_
                          refine c_env [(6, .bool true)] ⟨rfl, trivial⟩ ?_
                          refine c_ret ?_
                          refine q_ret1 rfl rfl ?_
                          replace H := H.keep 0
                          exact fin ⟨rfl, rfl⟩ H
                        · exact absurd (parts_first (by omega) hja (by omega)) h49
                    · skip
                      refine s_val rfl rfl (r_mv rfl rfl) ?_
                      refine sc (pbad_ok v46 (a ++ [(⟨op, 0, ⟨#[]⟩⟩ : Ins)] ++ b)) H (lA 0 rfl own_rd l0) rfl rfl (e_fn kn69 rfl rfl) ?_
                      rintro _ _ w ⟨rfl, rfl⟩ H
                      refine s_val rfl rfl (r_mv rfl rfl) ?_
                      refine s_val rfl rfl (r_lenL rfl un79 rfl) ?_
                      refine s_val rfl rfl (r_eq rfl rfl rfl) ?_
                      refine s_val rfl rfl (r_pickF rfl rfl rfl) ?_
                      refine s_val rfl rfl (r_mv rfl rfl) ?_
                      refine s_dec (d := 87) (p := (badI (a ++ [(⟨op, 0, ⟨#[]⟩⟩ : Ins)] ++ b)) = ((a.length : Nat) : Int)) rfl (fun h50 => ?_) (fun h50 => ?_)
                      · skip
                        refine s_val rfl rfl (r_mv rfl rfl) ?_
                        refine sc (pbad_ok (.slice A1 a.length c2) a) H (lR 0 rfl l0) rfl rfl (e_fn kn69 rfl rfl) ?_
                        rintro _ _ w ⟨rfl, rfl⟩ H
                        refine s_val rfl rfl (r_lt rfl rfl rfl) ?_
                        refine s_val rfl rfl (r_mv rfl rfl) ?_
                        refine s_dec (d := 91) (p := (badI a) < 0) rfl (fun h51 => ?_) (fun h51 => ?_)
                        · skip
                          refine s_no rfl rfl ?_
                          refine s_no rfl rfl ?_
                          refine s_no rfl rfl ?_
                          refine s_no rfl rfl ?_
                          refine s_no rfl rfl ?_
                          refine s_val rfl rfl (r_pickT rfl rfl rfl) ?_
                          refine s_val rfl rfl (r_pickT rfl rfl rfl) ?_
                          refine s_val rfl rfl (r_mv rfl rfl) ?_
                          refine sc (awake5_ok ) H l0 rfl rfl (e_fn kn66 rfl rfl) ?_
                          rintro _ _ w ⟨rfl, rfl⟩ H
                          refine s_val rfl rfl (r_pickT rfl rfl rfl) ?_
                          refine s_val rfl rfl (r_as rfl rfl) ?_
                          refine s_nil ?_
                          refine q_then ?_
                          refine c_env [(6, .bool true)] ⟨rfl, trivial⟩ ?_
                          refine c_ret ?_
                          refine q_ret1 rfl rfl ?_
                          replace H := H.keep 0
                          exact fin ⟨rfl, rfl⟩ H
                        · skip
                          refine s_val rfl rfl (r_mv rfl rfl) ?_
                          refine sc (pbad_ok (.slice A17 ((a ++ b).length) c18) (a ++ b)) H (lA 2 rfl own_rd l0) rfl rfl (e_fn kn69 rfl rfl) ?_
                          rintro _ _ w ⟨rfl, rfl⟩ H
                          refine s_val rfl rfl (r_mv rfl rfl) ?_
                          refine sc (pbad_ok (.slice A1 a.length c2) a) H (lR 0 rfl l0) rfl rfl (e_fn kn69 rfl rfl) ?_
                          rintro _ _ w ⟨rfl, rfl⟩ H
                          refine s_val rfl rfl (r_eq rfl rfl rfl) ?_
                          refine s_val rfl rfl (r_pickF rfl rfl rfl) ?_
                          refine s_val rfl rfl (r_pickT rfl rfl rfl) ?_
                          refine s_val rfl rfl (r_mv rfl rfl) ?_
                          refine s_dec (d := 99) (p := (badI (a ++ b)) = (badI a)) rfl (fun h52 => ?_) (fun h52 => ?_)
                          · skip
                            refine sc (awake5_ok ) H l0 rfl rfl (e_fn kn66 rfl rfl) ?_
                            rintro _ _ w ⟨rfl, rfl⟩ H
                            refine s_val rfl rfl (r_pickT rfl rfl rfl) ?_
                            refine s_val rfl rfl (r_as rfl rfl) ?_
                            refine s_nil ?_
                            refine q_then ?_
                            refine c_env [(6, .bool true)] ⟨rfl, trivial⟩ ?_
                            refine c_ret ?_
                            refine q_ret1 rfl rfl ?_
                            replace H := H.keep 0
                            exact fin ⟨rfl, rfl⟩ H
                          · exact absurd (parts_first (by omega) hja (by omega)) h52
                      · exact absurd (parts_bad (by omega) hja (by (try dsimp only); omega) (by omega)) h50
                · skip
                  refine s_no rfl rfl ?_
                  refine s_no rfl rfl ?_
                  refine s_val rfl rfl (r_pickF rfl rfl rfl) ?_
                  refine s_nil ?_
                  refine q_then ?_
                  refine c_env [(0, .slice A1 a.length c2), (1, .slice A6 b.length c7), (2, .int .i64 op), (7, .slice A17 ((a ++ b).length) c18), (66, .bool false)] ⟨rfl, rfl, rfl, rfl, rfl, trivial⟩ ?_
                  refine c_no rfl ?_
                  refine c_skip ?_
                  refine q_then ?_
                  refine c_env [(0, .slice A1 a.length c2), (1, .slice A6 b.length c7), (2, .int .i64 op), (7, .slice A17 ((a ++ b).length) c18)] ⟨rfl, rfl, rfl, rfl, trivial⟩ ?_
                  refine c_seq ?_
                  refine c_reg ?_
                  refine s_val rfl rfl (r_mv rfl rfl) ?_
                  replace H := H.newnil kIns
                  refine s_appF (xs := []) (ys := a) rfl rfl rfl sl79 zr86 rfl (by decide) rfl rfl H (by first | omega | (simp only [List.length_append, List.length_cons, List.length_nil]; omega)) (fun F hA hR => hR _ (List.mem_of_getElem? (i := 0) rfl)) (fun v53 w H => ?_)
                  refine s_val rfl rfl (r_mv rfl rfl) ?_
                  refine s_val rfl rfl (r_bd (parts := [(0, .tmp 71)]) (vs := [.int .i64 op]) (cs := [.int .i64 op, .int .i64 0, .string ⟨#[]⟩]) rfl bd86 rfl rfl) ?_
                  refine s_bsl (parts := [(0, .tmp 72)]) (vs := [.agg #[.int .i64 op, .int .i64 0, .string ⟨#[]⟩]]) (cs := [.int .i64 op, .int .i64 0, .string ⟨#[]⟩]) rfl rfl rfl sl79 zr86 rfl (by decide) (by decide) rfl rfl H (fun b54 w H => ?_)
                  replace H := H.pick 1 rfl
                  refine s_appF (xs := [] ++ a) (ys := [(⟨op, 0, ⟨#[]⟩⟩ : Ins)]) rfl rfl rfl sl79 zr86 rfl (by decide) rfl rfl H (by first | omega | (simp only [List.length_append, List.length_cons, List.length_nil]; omega)) (fun F hA hR => blk_rsl (hA _ (List.mem_of_getElem? (i := 0) rfl)) rfl (by decide) (RepsR.flat_eq.2 rfl)) (fun v55 w H => ?_)
                  refine s_val rfl rfl (r_mv rfl rfl) ?_
                  refine s_appF (xs := ([] ++ a) ++ [(⟨op, 0, ⟨#[]⟩⟩ : Ins)]) (ys := b) rfl rfl rfl sl79 zr86 rfl (by decide) rfl rfl H (by first | omega | (simp only [List.length_append, List.length_cons, List.length_nil]; omega)) (fun F hA hR => hR _ (List.mem_of_getElem? (i := 1) rfl)) (fun v56 w H => ?_)
                  refine s_val rfl rfl (r_as rfl rfl) ?_
                  refine s_nil ?_
                  refine q_then ?_
                  replace H : Hd _ _ _ [osl kIns v56 ((([] ++ a) ++ [(⟨op, 0, ⟨#[]⟩⟩ : Ins)]) ++ b), blk b54 [.int .i64 op, .int .i64 0, .string ⟨#[]⟩] 86, osl kIns (.slice A17 ((a ++ b).length) c18) (a ++ b)] [rsl kIns (.slice A1 a.length c2) a, rsl kIns (.slice A6 b.length c7) b] := H
                  refine c_env [(0, .slice A1 a.length c2), (7, .slice A17 ((a ++ b).length) c18), (9, v56)] ⟨rfl, rfl, rfl, trivial⟩ ?_
                  refine c_seq ?_
                  rw [List.nil_append] at H
                  replace H : Hd _ _ _ [osl kIns v56 (a ++ [(⟨op, 0, ⟨#[]⟩⟩ : Ins)] ++ b), blk b54 [.int .i64 op, .int .i64 0, .string ⟨#[]⟩] 86, osl kIns (.slice A17 ((a ++ b).length) c18) (a ++ b)] [rsl kIns (.slice A1 a.length c2) a, rsl kIns (.slice A6 b.length c7) b] := H
                  refine c_reg ?_
                  refine s_val rfl rfl (r_mv rfl rfl) ?_
                  refine sc (pMay_ok (.slice A1 a.length c2) a) H (lR 0 rfl l0) rfl rfl (e_fn kn71 rfl rfl) ?_
                  rintro _ _ w ⟨rfl, rfl⟩ H
                  refine s_val rfl rfl (r_notP rfl rfl) ?_
                  refine s_val rfl rfl (r_mv rfl rfl) ?_
                  refine s_dec (d := 80) (p := ¬ (badI a < 0)) rfl (fun h57 => ?_) (fun h57 => ?_)
                  · skip
                    refine s_no rfl rfl ?_
                    refine s_no rfl rfl ?_
                    refine s_no rfl rfl ?_
                    refine s_no rfl rfl ?_
                    refine s_no rfl rfl ?_
                    refine s_val rfl rfl (r_pickT rfl rfl rfl) ?_
                    refine s_val rfl rfl (r_mv rfl rfl) ?_
                    refine s_val rfl rfl (r_mv rfl rfl) ?_
                    refine sc (pbad_ok (.slice A1 a.length c2) a) H (lR 0 rfl l0) rfl rfl (e_fn kn69 rfl rfl) ?_
                    rintro _ _ w ⟨rfl, rfl⟩ H
                    refine s_val rfl rfl (r_lt rfl rfl rfl) ?_
                    refine s_val rfl rfl (r_mv rfl rfl) ?_
                    refine s_dec (d := 91) (p := (badI a) < 0) rfl (fun h58 => ?_) (fun h58 => ?_)
                    · skip
                      refine s_no rfl rfl ?_
                      refine s_no rfl rfl ?_
                      refine s_no rfl rfl ?_
                      refine s_no rfl rfl ?_
                      refine s_no rfl rfl ?_
                      refine s_val rfl rfl (r_pickT rfl rfl rfl) ?_
                      refine s_val rfl rfl (r_pickT rfl rfl rfl) ?_
                      refine s_val rfl rfl (r_mv rfl rfl) ?_
                      refine sc (awake5_ok ) H l0 rfl rfl (e_fn kn66 rfl rfl) ?_
                      rintro _ _ w ⟨rfl, rfl⟩ H
                      refine s_val rfl rfl (r_pickT rfl rfl rfl) ?_
                      refine s_val rfl rfl (r_as rfl rfl) ?_
                      refine s_nil ?_
                      refine q_then ?_
                      refine c_env [(6, .bool true)] ⟨rfl, trivial⟩ ?_
                      refine c_ret ?_
                      refine q_ret1 rfl rfl ?_
                      replace H := H.keep 0
                      exact fin ⟨rfl, rfl⟩ H
                    · skip
                      refine s_val rfl rfl (r_mv rfl rfl) ?_
                      refine sc (pbad_ok (.slice A17 ((a ++ b).length) c18) (a ++ b)) H (lA 2 rfl own_rd l0) rfl rfl (e_fn kn69 rfl rfl) ?_
                      rintro _ _ w ⟨rfl, rfl⟩ H
                      refine s_val rfl rfl (r_mv rfl rfl) ?_
                      refine sc (pbad_ok (.slice A1 a.length c2) a) H (lR 0 rfl l0) rfl rfl (e_fn kn69 rfl rfl) ?_
                      rintro _ _ w ⟨rfl, rfl⟩ H
                      refine s_val rfl rfl (r_eq rfl rfl rfl) ?_
                      refine s_val rfl rfl (r_pickF rfl rfl rfl) ?_
                      refine s_val rfl rfl (r_pickT rfl rfl rfl) ?_
                      refine s_val rfl rfl (r_mv rfl rfl) ?_
                      refine s_dec (d := 99) (p := (badI (a ++ b)) = (badI a)) rfl (fun h59 => ?_) (fun h59 => ?_)
                      · skip
                        refine sc (awake5_ok ) H l0 rfl rfl (e_fn kn66 rfl rfl) ?_
                        rintro _ _ w ⟨rfl, rfl⟩ H
                        refine s_val rfl rfl (r_pickT rfl rfl rfl) ?_
                        refine s_val rfl rfl (r_as rfl rfl) ?_
                        refine s_nil ?_
                        refine q_then ?_
                        refine c_env [(6, .bool true)] ⟨rfl, trivial⟩ ?_
                        refine c_ret ?_
                        refine q_ret1 rfl rfl ?_
                        replace H := H.keep 0
                        exact fin ⟨rfl, rfl⟩ H
                      · exact absurd (parts_first (by omega) hja (by omega)) h59
                  · skip
                    refine s_val rfl rfl (r_mv rfl rfl) ?_
                    refine sc (pbad_ok v56 (a ++ [(⟨op, 0, ⟨#[]⟩⟩ : Ins)] ++ b)) H (lA 0 rfl own_rd l0) rfl rfl (e_fn kn69 rfl rfl) ?_
                    rintro _ _ w ⟨rfl, rfl⟩ H
                    refine s_val rfl rfl (r_mv rfl rfl) ?_
                    refine s_val rfl rfl (r_lenL rfl un79 rfl) ?_
                    refine s_val rfl rfl (r_eq rfl rfl rfl) ?_
                    refine s_val rfl rfl (r_pickF rfl rfl rfl) ?_
                    refine s_val rfl rfl (r_mv rfl rfl) ?_
                    refine s_dec (d := 87) (p := (badI (a ++ [(⟨op, 0, ⟨#[]⟩⟩ : Ins)] ++ b)) = ((a.length : Nat) : Int)) rfl (fun h60 => ?_) (fun h60 => ?_)
                    · skip
                      refine s_val rfl rfl (r_mv rfl rfl) ?_
                      refine sc (pbad_ok (.slice A1 a.length c2) a) H (lR 0 rfl l0) rfl rfl (e_fn kn69 rfl rfl) ?_
                      rintro _ _ w ⟨rfl, rfl⟩ H
                      refine s_val rfl rfl (r_lt rfl rfl rfl) ?_
                      refine s_val rfl rfl (r_mv rfl rfl) ?_
                      refine s_dec (d := 91) (p := (badI a) < 0) rfl (fun h61 => ?_) (fun h61 => ?_)
                      · skip
                        refine s_no rfl rfl ?_
                        refine s_no rfl rfl ?_
                        refine s_no rfl rfl ?_
                        refine s_no rfl rfl ?_
                        refine s_no rfl rfl ?_
                        refine s_val rfl rfl (r_pickT rfl rfl rfl) ?_
                        refine s_val rfl rfl (r_pickT rfl rfl rfl) ?_
                        refine s_val rfl rfl (r_mv rfl rfl) ?_
                        refine sc (awake5_ok ) H l0 rfl rfl (e_fn kn66 rfl rfl) ?_
                        rintro _ _ w ⟨rfl, rfl⟩ H
                        refine s_val rfl rfl (r_pickT rfl rfl rfl) ?_
                        refine s_val rfl rfl (r_as rfl rfl) ?_
                        refine s_nil ?_
                        refine q_then ?_
                        refine c_env [(6, .bool true)] ⟨rfl, trivial⟩ ?_
                        refine c_ret ?_
                        refine q_ret1 rfl rfl ?_
                        replace H := H.keep 0
                        exact fin ⟨rfl, rfl⟩ H
                      · skip
                        refine s_val rfl rfl (r_mv rfl rfl) ?_
                        refine sc (pbad_ok (.slice A17 ((a ++ b).length) c18) (a ++ b)) H (lA 2 rfl own_rd l0) rfl rfl (e_fn kn69 rfl rfl) ?_
                        rintro _ _ w ⟨rfl, rfl⟩ H
                        refine s_val rfl rfl (r_mv rfl rfl) ?_
                        refine sc (pbad_ok (.slice A1 a.length c2) a) H (lR 0 rfl l0) rfl rfl (e_fn kn69 rfl rfl) ?_
                        rintro _ _ w ⟨rfl, rfl⟩ H
                        refine s_val rfl rfl (r_eq rfl rfl rfl) ?_
                        refine s_val rfl rfl (r_pickF rfl rfl rfl) ?_
                        refine s_val rfl rfl (r_pickT rfl rfl rfl) ?_
                        refine s_val rfl rfl (r_mv rfl rfl) ?_
                        refine s_dec (d := 99) (p := (badI (a ++ b)) = (badI a)) rfl (fun h62 => ?_) (fun h62 => ?_)
                        · skip
                          refine sc (awake5_ok ) H l0 rfl rfl (e_fn kn66 rfl rfl) ?_
                          rintro _ _ w ⟨rfl, rfl⟩ H
                          refine s_val rfl rfl (r_pickT rfl rfl rfl) ?_
                          refine s_val rfl rfl (r_as rfl rfl) ?_
                          refine s_nil ?_
                          refine q_then ?_
                          refine c_env [(6, .bool true)] ⟨rfl, trivial⟩ ?_
                          refine c_ret ?_
                          refine q_ret1 rfl rfl ?_
                          replace H := H.keep 0
                          exact fin ⟨rfl, rfl⟩ H
                        · exact absurd (parts_first (by omega) hja (by omega)) h62
                    · exact absurd (parts_bad (by omega) hja (by (try dsimp only); omega) (by omega)) h60
            · skip
              refine s_no rfl rfl ?_
              refine s_no rfl rfl ?_
              refine s_val rfl rfl (r_pickF rfl rfl rfl) ?_
              refine s_val rfl rfl (r_bne rfl un4 rfl rfl) ?_
              refine s_nil ?_
              refine q_then ?_
              refine c_env [(0, .slice A1 a.length c2), (1, .slice A6 b.length c7), (2, .int .i64 op), (7, .slice A17 ((a ++ b).length) c18), (60, .bool (decide ((decide (badI (a ++ b) < 0)) ≠ false)))] ⟨rfl, rfl, rfl, rfl, rfl, trivial⟩ ?_
              refine c_dec (p := (decide (badI (a ++ b) < 0)) ≠ false) rfl (fun h63 => ?_) (fun h63 => ?_)
              · exact (h63 (decide_eq_false (by omega))).elim
              · skip
                refine c_skip ?_
                refine q_then ?_
                refine c_env [(0, .slice A1 a.length c2), (1, .slice A6 b.length c7), (2, .int .i64 op), (7, .slice A17 ((a ++ b).length) c18)] ⟨rfl, rfl, rfl, rfl, trivial⟩ ?_
                refine c_seq ?_
                refine c_seq ?_
                refine c_reg ?_
                refine s_val rfl rfl (r_mv rfl rfl) ?_
                refine s_val rfl rfl (r_ge rfl rfl rfl) ?_
                refine s_val rfl rfl (r_mv rfl rfl) ?_
                refine s_dec (d := 63) (p := (0 : Int) ≤ op) rfl (fun h64 => ?_) (fun h64 => ?_)
                · skip
                  refine s_val rfl rfl (r_mv rfl rfl) ?_
                  refine s_val rfl rfl (r_le rfl rfl rfl) ?_
                  refine s_val rfl rfl (r_pickT rfl rfl rfl) ?_
                  refine s_nil ?_
                  refine q_then ?_
                  refine c_env [(0, .slice A1 a.length c2), (1, .slice A6 b.length c7), (2, .int .i64 op), (7, .slice A17 ((a ++ b).length) c18), (66, .bool (decide (op ≤ 23)))] ⟨rfl, rfl, rfl, rfl, rfl, trivial⟩ ?_
                  refine c_dec (p := op ≤ 23) rfl (fun h65 => ?_) (fun h65 => ?_)
                  · skip
                    refine c_reg ?_
                    refine s_val rfl rfl (r_mv rfl rfl) ?_
                    refine s_val rfl rfl (r_add (z := op + 24) rfl rfl rfl (w64 (by omega) (by omega))) ?_
                    refine s_val rfl rfl (r_as rfl rfl) ?_
                    refine s_nil ?_
                    refine q_then ?_
                    refine c_env [(0, .slice A1 a.length c2), (1, .slice A6 b.length c7), (2, .int .i64 (op + 24)), (7, .slice A17 ((a ++ b).length) c18)] ⟨rfl, rfl, rfl, rfl, trivial⟩ ?_
                    refine c_seq ?_
                    refine c_reg ?_
                    refine s_val rfl rfl (r_mv rfl rfl) ?_
                    replace H := H.newnil kIns
                    refine s_appF (xs := []) (ys := a) rfl rfl rfl sl79 zr86 rfl (by decide) rfl rfl H (by first | omega | (simp only [List.length_append, List.length_cons, List.length_nil]; omega)) (fun F hA hR => hR _ (List.mem_of_getElem? (i := 0) rfl)) (fun v66 w H => ?_)
                    refine s_val rfl rfl (r_mv rfl rfl) ?_
                    refine s_val rfl rfl (r_bd (parts := [(0, .tmp 71)]) (vs := [.int .i64 (op + 24)]) (cs := [.int .i64 (op + 24), .int .i64 0, .string ⟨#[]⟩]) rfl bd86 rfl rfl) ?_
                    refine s_bsl (parts := [(0, .tmp 72)]) (vs := [.agg #[.int .i64 (op + 24), .int .i64 0, .string ⟨#[]⟩]]) (cs := [.int .i64 (op + 24), .int .i64 0, .string ⟨#[]⟩]) rfl rfl rfl sl79 zr86 rfl (by decide) (by decide) rfl rfl H (fun b67 w H => ?_)
                    replace H := H.pick 1 rfl
                    refine s_appF (xs := [] ++ a) (ys := [(⟨op + 24, 0, ⟨#[]⟩⟩ : Ins)]) rfl rfl rfl sl79 zr86 rfl (by decide) rfl rfl H (by first | omega | (simp only [List.length_append, List.length_cons, List.length_nil]; omega)) (fun F hA hR => blk_rsl (hA _ (List.mem_of_getElem? (i := 0) rfl)) rfl (by decide) (RepsR.flat_eq.2 rfl)) (fun v68 w H => ?_)
                    refine s_val rfl rfl (r_mv rfl rfl) ?_
                    refine s_appF (xs := ([] ++ a) ++ [(⟨op + 24, 0, ⟨#[]⟩⟩ : Ins)]) (ys := b) rfl rfl rfl sl79 zr86 rfl (by decide) rfl rfl H (by first | omega | (simp only [List.length_append, List.length_cons, List.length_nil]; omega)) (fun F hA hR => hR _ (List.mem_of_getElem? (i := 1) rfl)) (fun v69 w H => ?_)
                    refine s_val rfl rfl (r_as rfl rfl) ?_
                    refine s_nil ?_
                    refine q_then ?_
                    replace H : Hd _ _ _ [osl kIns v69 ((([] ++ a) ++ [(⟨op + 24, 0, ⟨#[]⟩⟩ : Ins)]) ++ b), blk b67 [.int .i64 (op + 24), .int .i64 0, .string ⟨#[]⟩] 86, osl kIns (.slice A17 ((a ++ b).length) c18) (a ++ b)] [rsl kIns (.slice A1 a.length c2) a, rsl kIns (.slice A6 b.length c7) b] := H
                    refine c_env [(0, .slice A1 a.length c2), (7, .slice A17 ((a ++ b).length) c18), (9, v69)] ⟨rfl, rfl, rfl, trivial⟩ ?_
                    refine c_seq ?_
                    rw [List.nil_append] at H
                    replace H : Hd _ _ _ [osl kIns v69 (a ++ [(⟨op + 24, 0, ⟨#[]⟩⟩ : Ins)] ++ b), blk b67 [.int .i64 (op + 24), .int .i64 0, .string ⟨#[]⟩] 86, osl kIns (.slice A17 ((a ++ b).length) c18) (a ++ b)] [rsl kIns (.slice A1 a.length c2) a, rsl kIns (.slice A6 b.length c7) b] := H
                    refine c_reg ?_
                    refine s_val rfl rfl (r_mv rfl rfl) ?_
                    refine sc (pMay_ok (.slice A1 a.length c2) a) H (lR 0 rfl l0) rfl rfl (e_fn kn71 rfl rfl) ?_
                    rintro _ _ w ⟨rfl, rfl⟩ H
                    refine s_val rfl rfl (r_notP rfl rfl) ?_
                    refine s_val rfl rfl (r_mv rfl rfl) ?_
                    refine s_dec (d := 80) (p := ¬ (badI a < 0)) rfl (fun h70 => ?_) (fun h70 => ?_)
                    · skip
                      refine s_no rfl rfl ?_
                      refine s_no rfl rfl ?_
                      refine s_no rfl rfl ?_
                      refine s_no rfl rfl ?_
                      refine s_no rfl rfl ?_
                      refine s_val rfl rfl (r_pickT rfl rfl rfl) ?_
                      refine s_val rfl rfl (r_mv rfl rfl) ?_
                      refine s_val rfl rfl (r_mv rfl rfl) ?_
                      refine sc (pbad_ok (.slice A1 a.length c2) a) H (lR 0 rfl l0) rfl rfl (e_fn kn69 rfl rfl) ?_
                      rintro _ _ w ⟨rfl, rfl⟩ H
                      refine s_val rfl rfl (r_lt rfl rfl rfl) ?_
                      refine s_val rfl rfl (r_mv rfl rfl) ?_
                      refine s_dec (d := 91) (p := (badI a) < 0) rfl (fun h71 => ?_) (fun h71 => ?_)
                      · skip
                        refine s_no rfl rfl ?_
                        refine s_no rfl rfl ?_
                        refine s_no rfl rfl ?_
                        refine s_no rfl rfl ?_
                        refine s_no rfl rfl ?_
                        refine s_val rfl rfl (r_pickT rfl rfl rfl) ?_
                        refine s_val rfl rfl (r_pickT rfl rfl rfl) ?_
                        refine s_val rfl rfl (r_mv rfl rfl) ?_
                        refine sc (awake5_ok ) H l0 rfl rfl (e_fn kn66 rfl rfl) ?_
                        rintro _ _ w ⟨rfl, rfl⟩ H
                        refine s_val rfl rfl (r_pickT rfl rfl rfl) ?_
                        refine s_val rfl rfl (r_as rfl rfl) ?_
                        refine s_nil ?_
                        refine q_then ?_
                        refine c_env [(6, .bool true)] ⟨rfl, trivial⟩ ?_
                        refine c_ret ?_
                        refine q_ret1 rfl rfl ?_
                        replace H := H.keep 0
                        exact fin ⟨rfl, rfl⟩ H
                      · skip
                        refine s_val rfl rfl (r_mv rfl rfl) ?_
                        refine sc (pbad_ok (.slice A17 ((a ++ b).length) c18) (a ++ b)) H (lA 2 rfl own_rd l0) rfl rfl (e_fn kn69 rfl rfl) ?_
                        rintro _ _ w ⟨rfl, rfl⟩ H
                        refine s_val rfl rfl (r_mv rfl rfl) ?_
                        refine sc (pbad_ok (.slice A1 a.length c2) a) H (lR 0 rfl l0) rfl rfl (e_fn kn69 rfl rfl) ?_
                        rintro _ _ w ⟨rfl, rfl⟩ H
                        refine s_val rfl rfl (r_eq rfl rfl rfl) ?_
                        refine s_val rfl rfl (r_pickF rfl rfl rfl) ?_
                        refine s_val rfl rfl (r_pickT rfl rfl rfl) ?_
                        refine s_val rfl rfl (r_mv rfl rfl) ?_
                        refine s_dec (d := 99) (p := (badI (a ++ b)) = (badI a)) rfl (fun h72 => ?_) (fun h72 => ?_)
                        · skip
                          refine sc (awake5_ok ) H l0 rfl rfl (e_fn kn66 rfl rfl) ?_
                          rintro _ _ w ⟨rfl, rfl⟩ H
                          refine s_val rfl rfl (r_pickT rfl rfl rfl) ?_
                          refine s_val rfl rfl (r_as rfl rfl) ?_
                          refine s_nil ?_
                          refine q_then ?_
                          refine c_env [(6, .bool true)] ⟨rfl, trivial⟩ ?_
                          refine c_ret ?_
                          refine q_ret1 rfl rfl ?_
                          replace H := H.keep 0
                          exact fin ⟨rfl, rfl⟩ H
                        · exact absurd (parts_first (by omega) hja (by omega)) h72
                    · skip
                      refine s_val rfl rfl (r_mv rfl rfl) ?_
                      refine sc (pbad_ok v69 (a ++ [(⟨op + 24, 0, ⟨#[]⟩⟩ : Ins)] ++ b)) H (lA 0 rfl own_rd l0) rfl rfl (e_fn kn69 rfl rfl) ?_
                      rintro _ _ w ⟨rfl, rfl⟩ H
                      refine s_val rfl rfl (r_mv rfl rfl) ?_
                      refine s_val rfl rfl (r_lenL rfl un79 rfl) ?_
                      refine s_val rfl rfl (r_eq rfl rfl rfl) ?_
                      refine s_val rfl rfl (r_pickF rfl rfl rfl) ?_
                      refine s_val rfl rfl (r_mv rfl rfl) ?_
                      refine s_dec (d := 87) (p := (badI (a ++ [(⟨op + 24, 0, ⟨#[]⟩⟩ : Ins)] ++ b)) = ((a.length : Nat) : Int)) rfl (fun h73 => ?_) (fun h73 => ?_)
                      · skip
                        refine s_val rfl rfl (r_mv rfl rfl) ?_
                        refine sc (pbad_ok (.slice A1 a.length c2) a) H (lR 0 rfl l0) rfl rfl (e_fn kn69 rfl rfl) ?_
                        rintro _ _ w ⟨rfl, rfl⟩ H
                        refine s_val rfl rfl (r_lt rfl rfl rfl) ?_
                        refine s_val rfl rfl (r_mv rfl rfl) ?_
                        refine s_dec (d := 91) (p := (badI a) < 0) rfl (fun h74 => ?_) (fun h74 => ?_)
                        · skip
                          refine s_no rfl rfl ?_
                          refine s_no rfl rfl ?_
                          refine s_no rfl rfl ?_
                          refine s_no rfl rfl ?_
                          refine s_no rfl rfl ?_
                          refine s_val rfl rfl (r_pickT rfl rfl rfl) ?_
                          refine s_val rfl rfl (r_pickT rfl rfl rfl) ?_
                          refine s_val rfl rfl (r_mv rfl rfl) ?_
                          refine sc (awake5_ok ) H l0 rfl rfl (e_fn kn66 rfl rfl) ?_
                          rintro _ _ w ⟨rfl, rfl⟩ H
                          refine s_val rfl rfl (r_pickT rfl rfl rfl) ?_
                          refine s_val rfl rfl (r_as rfl rfl) ?_
                          refine s_nil ?_
                          refine q_then ?_
                          refine c_env [(6, .bool true)] ⟨rfl, trivial⟩ ?_
                          refine c_ret ?_
                          refine q_ret1 rfl rfl ?_
                          replace H := H.keep 0
                          exact fin ⟨rfl, rfl⟩ H
                        · skip
                          refine s_val rfl rfl (r_mv rfl rfl) ?_
                          refine sc (pbad_ok (.slice A17 ((a ++ b).length) c18) (a ++ b)) H (lA 2 rfl own_rd l0) rfl rfl (e_fn kn69 rfl rfl) ?_
                          rintro _ _ w ⟨rfl, rfl⟩ H
                          refine s_val rfl rfl (r_mv rfl rfl) ?_
                          refine sc (pbad_ok (.slice A1 a.length c2) a) H (lR 0 rfl l0) rfl rfl (e_fn kn69 rfl rfl) ?_
                          rintro _ _ w ⟨rfl, rfl⟩ H
                          refine s_val rfl rfl (r_eq rfl rfl rfl) ?_
                          refine s_val rfl rfl (r_pickF rfl rfl rfl) ?_
                          refine s_val rfl rfl (r_pickT rfl rfl rfl) ?_
                          refine s_val rfl rfl (r_mv rfl rfl) ?_
                          refine s_dec (d := 99) (p := (badI (a ++ b)) = (badI a)) rfl (fun h75 => ?_) (fun h75 => ?_)
                          · skip
                            refine sc (awake5_ok ) H l0 rfl rfl (e_fn kn66 rfl rfl) ?_
                            rintro _ _ w ⟨rfl, rfl⟩ H
                            refine s_val rfl rfl (r_pickT rfl rfl rfl) ?_
                            refine s_val rfl rfl (r_as rfl rfl) ?_
                            refine s_nil ?_
                            refine q_then ?_
                            refine c_env [(6, .bool true)] ⟨rfl, trivial⟩ ?_
                            refine c_ret ?_
                            refine q_ret1 rfl rfl ?_
                            replace H := H.keep 0
                            exact fin ⟨rfl, rfl⟩ H
                          · exact absurd (parts_first (by omega) hja (by omega)) h75
                      · exact absurd (parts_bad (by omega) hja (by (try dsimp only); omega) (by omega)) h73
                  · skip
                    refine c_skip ?_
                    refine q_then ?_
                    refine c_env [(0, .slice A1 a.length c2), (1, .slice A6 b.length c7), (2, .int .i64 op), (7, .slice A17 ((a ++ b).length) c18)] ⟨rfl, rfl, rfl, rfl, trivial⟩ ?_
                    refine c_seq ?_
                    refine c_reg ?_
                    refine s_val rfl rfl (r_mv rfl rfl) ?_
                    replace H := H.newnil kIns
                    refine s_appF (xs := []) (ys := a) rfl rfl rfl sl79 zr86 rfl (by decide) rfl rfl H (by first | omega | (simp only [List.length_append, List.length_cons, List.length_nil]; omega)) (fun F hA hR => hR _ (List.mem_of_getElem? (i := 0) rfl)) (fun v76 w H => ?_)
                    refine s_val rfl rfl (r_mv rfl rfl) ?_
                    refine s_val rfl rfl (r_bd (parts := [(0, .tmp 71)]) (vs := [.int .i64 op]) (cs := [.int .i64 op, .int .i64 0, .string ⟨#[]⟩]) rfl bd86 rfl rfl) ?_
                    refine s_bsl (parts := [(0, .tmp 72)]) (vs := [.agg #[.int .i64 op, .int .i64 0, .string ⟨#[]⟩]]) (cs := [.int .i64 op, .int .i64 0, .string ⟨#[]⟩]) rfl rfl rfl sl79 zr86 rfl (by decide) (by decide) rfl rfl H (fun b77 w H => ?_)
                    replace H := H.pick 1 rfl
                    refine s_appF (xs := [] ++ a) (ys := [(⟨op, 0, ⟨#[]⟩⟩ : Ins)]) rfl rfl rfl sl79 zr86 rfl (by decide) rfl rfl H (by first | omega | (simp only [List.length_append, List.length_cons, List.length_nil]; omega)) (fun F hA hR => blk_rsl (hA _ (List.mem_of_getElem? (i := 0) rfl)) rfl (by decide) (RepsR.flat_eq.2 rfl)) (fun v78 w H => ?_)
                    refine s_val rfl rfl (r_mv rfl rfl) ?_
                    refine s_appF (xs := ([] ++ a) ++ [(⟨op, 0, ⟨#[]⟩⟩ : Ins)]) (ys := b) rfl rfl rfl sl79 zr86 rfl (by decide) rfl rfl H (by first | omega | (simp only [List.length_append, List.length_cons, List.length_nil]; omega)) (fun F hA hR => hR _ (List.mem_of_getElem? (i := 1) rfl)) (fun v79 w H => ?_)
                    refine s_val rfl rfl (r_as rfl rfl) ?_
                    refine s_nil ?_
                    refine q_then ?_
                    replace H : Hd _ _ _ [osl kIns v79 ((([] ++ a) ++ [(⟨op, 0, ⟨#[]⟩⟩ : Ins)]) ++ b), blk b77 [.int .i64 op, .int .i64 0, .string ⟨#[]⟩] 86, osl kIns (.slice A17 ((a ++ b).length) c18) (a ++ b)] [rsl kIns (.slice A1 a.length c2) a, rsl kIns (.slice A6 b.length c7) b] := H
                    refine c_env [(0, .slice A1 a.length c2), (7, .slice A17 ((a ++ b).length) c18), (9, v79)] ⟨rfl, rfl, rfl, trivial⟩ ?_
                    refine c_seq ?_
                    rw [List.nil_append] at H
                    replace H : Hd _ _ _ [osl kIns v79 (a ++ [(⟨op, 0, ⟨#[]⟩⟩ : Ins)] ++ b), blk b77 [.int .i64 op, .int .i64 0, .string ⟨#[]⟩] 86, osl kIns (.slice A17 ((a ++ b).length) c18) (a ++ b)] [rsl kIns (.slice A1 a.length c2) a, rsl kIns (.slice A6 b.length c7) b] := H
                    refine c_reg ?_
                    refine s_val rfl rfl (r_mv rfl rfl) ?_
                    refine sc (pMay_ok (.slice A1 a.length c2) a) H (lR 0 rfl l0) rfl rfl (e_fn kn71 rfl rfl) ?_
                    rintro _ _ w ⟨rfl, rfl⟩ H
                    refine s_val rfl rfl (r_notP rfl rfl) ?_
                    refine s_val rfl rfl (r_mv rfl rfl) ?_
                    refine s_dec (d := 80) (p := ¬ (badI a < 0)) rfl (fun h80 => ?_) (fun h80 => ?_)
                    · skip
                      refine s_no rfl rfl ?_
                      refine s_no rfl rfl ?_
                      refine s_no rfl rfl ?_
                      refine s_no rfl rfl ?_
                      refine s_no rfl rfl ?_
                      refine s_val rfl rfl (r_pickT rfl rfl rfl) ?_
                      refine s_val rfl rfl (r_mv rfl rfl) ?_
                      refine s_val rfl rfl (r_mv rfl rfl) ?_
                      refine sc (pbad_ok (.slice A1 a.length c2) a) H (lR 0 rfl l0) rfl rfl (e_fn kn69 rfl rfl) ?_
                      rintro _ _ w ⟨rfl, rfl⟩ H
                      refine s_val rfl rfl (r_lt rfl rfl rfl) ?_
                      refine s_val rfl rfl (r_mv rfl rfl) ?_
                      refine s_dec (d := 91) (p := (badI a) < 0) rfl (fun h81 => ?_) (fun h81 => ?_)
                      · skip
                        refine s_no rfl rfl ?_
                        refine s_no rfl rfl ?_
                        refine s_no rfl rfl ?_
                        refine s_no rfl rfl ?_
                        refine s_no rfl rfl ?_
                        refine s_val rfl rfl (r_pickT rfl rfl rfl) ?_
                        refine s_val rfl rfl (r_pickT rfl rfl rfl) ?_
                        refine s_val rfl rfl (r_mv rfl rfl) ?_
                        refine sc (awake5_ok ) H l0 rfl rfl (e_fn kn66 rfl rfl) ?_
                        rintro _ _ w ⟨rfl, rfl⟩ H
                        refine s_val rfl rfl (r_pickT rfl rfl rfl) ?_
                        refine s_val rfl rfl (r_as rfl rfl) ?_
                        refine s_nil ?_
                        refine q_then ?_
                        refine c_env [(6, .bool true)] ⟨rfl, trivial⟩ ?_
                        refine c_ret ?_
                        refine q_ret1 rfl rfl ?_
                        replace H := H.keep 0
                        exact fin ⟨rfl, rfl⟩ H
                      · skip
                        refine s_val rfl rfl (r_mv rfl rfl) ?_
                        refine sc (pbad_ok (.slice A17 ((a ++ b).length) c18) (a ++ b)) H (lA 2 rfl own_rd l0) rfl rfl (e_fn kn69 rfl rfl) ?_
                        rintro _ _ w ⟨rfl, rfl⟩ H
                        refine s_val rfl rfl (r_mv rfl rfl) ?_
                        refine sc (pbad_ok (.slice A1 a.length c2) a) H (lR 0 rfl l0) rfl rfl (e_fn kn69 rfl rfl) ?_
                        rintro _ _ w ⟨rfl, rfl⟩ H
                        refine s_val rfl rfl (r_eq rfl rfl rfl) ?_
                        refine s_val rfl rfl (r_pickF rfl rfl rfl) ?_
                        refine s_val rfl rfl (r_pickT rfl rfl rfl) ?_
                        refine s_val rfl rfl (r_mv rfl rfl) ?_
                        refine s_dec (d := 99) (p := (badI (a ++ b)) = (badI a)) rfl (fun h82 => ?_) (fun h82 => ?_)
                        · skip
                          refine sc (awake5_ok ) H l0 rfl rfl (e_fn kn66 rfl rfl) ?_
                          rintro _ _ w ⟨rfl, rfl⟩ H
                          refine s_val rfl rfl (r_pickT rfl rfl rfl) ?_
                          refine s_val rfl rfl (r_as rfl rfl) ?_
                          refine s_nil ?_
                          refine q_then ?_
                          refine c_env [(6, .bool true)] ⟨rfl, trivial⟩ ?_
                          refine c_ret ?_
                          refine q_ret1 rfl rfl ?_
                          replace H := H.keep 0
                          exact fin ⟨rfl, rfl⟩ H
                        · exact absurd (parts_first (by omega) hja (by omega)) h82
                    · skip
                      refine s_val rfl rfl (r_mv rfl rfl) ?_
                      refine sc (pbad_ok v79 (a ++ [(⟨op, 0, ⟨#[]⟩⟩ : Ins)] ++ b)) H (lA 0 rfl own_rd l0) rfl rfl (e_fn kn69 rfl rfl) ?_
                      rintro _ _ w ⟨rfl, rfl⟩ H
                      refine s_val rfl rfl (r_mv rfl rfl) ?_
                      refine s_val rfl rfl (r_lenL rfl un79 rfl) ?_
                      refine s_val rfl rfl (r_eq rfl rfl rfl) ?_
                      refine s_val rfl rfl (r_pickF rfl rfl rfl) ?_
                      refine s_val rfl rfl (r_mv rfl rfl) ?_
                      refine s_dec (d := 87) (p := (badI (a ++ [(⟨op, 0, ⟨#[]⟩⟩ : Ins)] ++ b)) = ((a.length : Nat) : Int)) rfl (fun h83 => ?_) (fun h83 => ?_)
                      · skip
                        refine s_val rfl rfl (r_mv rfl rfl) ?_
                        refine sc (pbad_ok (.slice A1 a.length c2) a) H (lR 0 rfl l0) rfl rfl (e_fn kn69 rfl rfl) ?_
                        rintro _ _ w ⟨rfl, rfl⟩ H
                        refine s_val rfl rfl (r_lt rfl rfl rfl) ?_
                        refine s_val rfl rfl (r_mv rfl rfl) ?_
                        refine s_dec (d := 91) (p := (badI a) < 0) rfl (fun h84 => ?_) (fun h84 => ?_)
                        · skip
                          refine s_no rfl rfl ?_
                          refine s_no rfl rfl ?_
                          refine s_no rfl rfl ?_
                          refine s_no rfl rfl ?_
                          refine s_no rfl rfl ?_
                          refine s_val rfl rfl (r_pickT rfl rfl rfl) ?_
                          refine s_val rfl rfl (r_pickT rfl rfl rfl) ?_
                          refine s_val rfl rfl (r_mv rfl rfl) ?_
                          refine sc (awake5_ok ) H l0 rfl rfl (e_fn kn66 rfl rfl) ?_
                          rintro _ _ w ⟨rfl, rfl⟩ H
                          refine s_val rfl rfl (r_pickT rfl rfl rfl) ?_
                          refine s_val rfl rfl (r_as rfl rfl) ?_
                          refine s_nil ?_
                          refine q_then ?_
                          refine c_env [(6, .bool true)] ⟨rfl, trivial⟩ ?_
                          refine c_ret ?_
                          refine q_ret1 rfl rfl ?_
                          replace H := H.keep 0
                          exact fin ⟨rfl, rfl⟩ H
                        · skip
                          refine s_val rfl rfl (r_mv rfl rfl) ?_
                          refine sc (pbad_ok (.slice A17 ((a ++ b).length) c18) (a ++ b)) H (lA 2 rfl own_rd l0) rfl rfl (e_fn kn69 rfl rfl) ?_
                          rintro _ _ w ⟨rfl, rfl⟩ H
                          refine s_val rfl rfl (r_mv rfl rfl) ?_
                          refine sc (pbad_ok (.slice A1 a.length c2) a) H (lR 0 rfl l0) rfl rfl (e_fn kn69 rfl rfl) ?_
                          rintro _ _ w ⟨rfl, rfl⟩ H
                          refine s_val rfl rfl (r_eq rfl rfl rfl) ?_
                          refine s_val rfl rfl (r_pickF rfl rfl rfl) ?_
                          refine s_val rfl rfl (r_pickT rfl rfl rfl) ?_
                          refine s_val rfl rfl (r_mv rfl rfl) ?_
                          refine s_dec (d := 99) (p := (badI (a ++ b)) = (badI a)) rfl (fun h85 => ?_) (fun h85 => ?_)
                          · skip
                            refine sc (awake5_ok ) H l0 rfl rfl (e_fn kn66 rfl rfl) ?_
                            rintro _ _ w ⟨rfl, rfl⟩ H
                            refine s_val rfl rfl (r_pickT rfl rfl rfl) ?_
                            refine s_val rfl rfl (r_as rfl rfl) ?_
                            refine s_nil ?_
                            refine q_then ?_
                            refine c_env [(6, .bool true)] ⟨rfl, trivial⟩ ?_
                            refine c_ret ?_
                            refine q_ret1 rfl rfl ?_
                            replace H := H.keep 0
                            exact fin ⟨rfl, rfl⟩ H
                          · exact absurd (parts_first (by omega) hja (by omega)) h85
                      · exact absurd (parts_bad (by omega) hja (by (try dsimp only); omega) (by omega)) h83
                · skip
                  refine s_no rfl rfl ?_
                  refine s_no rfl rfl ?_
                  refine s_val rfl rfl (r_pickF rfl rfl rfl) ?_
                  refine s_nil ?_
                  refine q_then ?_
                  refine c_env [(0, .slice A1 a.length c2), (1, .slice A6 b.length c7), (2, .int .i64 op), (7, .slice A17 ((a ++ b).length) c18), (66, .bool false)] ⟨rfl, rfl, rfl, rfl, rfl, trivial⟩ ?_
                  refine c_no rfl ?_
                  refine c_skip ?_
                  refine q_then ?_
                  refine c_env [(0, .slice A1 a.length c2), (1, .slice A6 b.length c7), (2, .int .i64 op), (7, .slice A17 ((a ++ b).length) c18)] ⟨rfl, rfl, rfl, rfl, trivial⟩ ?_
                  refine c_seq ?_
                  refine c_reg ?_
                  refine s_val rfl rfl (r_mv rfl rfl) ?_
                  replace H := H.newnil kIns
                  refine s_appF (xs := []) (ys := a) rfl rfl rfl sl79 zr86 rfl (by decide) rfl rfl H (by first | omega | (simp only [List.length_append, List.length_cons, List.length_nil]; omega)) (fun F hA hR => hR _ (List.mem_of_getElem? (i := 0) rfl)) (fun v86 w H => ?_)
                  refine s_val rfl rfl (r_mv rfl rfl) ?_
                  refine s_val rfl rfl (r_bd (parts := [(0, .tmp 71)]) (vs := [.int .i64 op]) (cs := [.int .i64 op, .int .i64 0, .string ⟨#[]⟩]) rfl bd86 rfl rfl) ?_
                  refine s_bsl (parts := [(0, .tmp 72)]) (vs := [.agg #[.int .i64 op, .int .i64 0, .string ⟨#[]⟩]]) (cs := [.int .i64 op, .int .i64 0, .string ⟨#[]⟩]) rfl rfl rfl sl79 zr86 rfl (by decide) (by decide) rfl rfl H (fun b87 w H => ?_)
                  replace H := H.pick 1 rfl
                  refine s_appF (xs := [] ++ a) (ys := [(⟨op, 0, ⟨#[]⟩⟩ : Ins)]) rfl rfl rfl sl79 zr86 rfl (by decide) rfl rfl H (by first | omega | (simp only [List.length_append, List.length_cons, List.length_nil]; omega)) (fun F hA hR => blk_rsl (hA _ (List.mem_of_getElem? (i := 0) rfl)) rfl (by decide) (RepsR.flat_eq.2 rfl)) (fun v88 w H => ?_)
                  refine s_val rfl rfl (r_mv rfl rfl) ?_
                  refine s_appF (xs := ([] ++ a) ++ [(⟨op, 0, ⟨#[]⟩⟩ : Ins)]) (ys := b) rfl rfl rfl sl79 zr86 rfl (by decide) rfl rfl H (by first | omega | (simp only [List.length_append, List.length_cons, List.length_nil]; omega)) (fun F hA hR => hR _ (List.mem_of_getElem? (i := 1) rfl)) (fun v89 w H => ?_)
                  refine s_val rfl rfl (r_as rfl rfl) ?_
                  refine s_nil ?_
                  refine q_then ?_
                  replace H : Hd _ _ _ [osl kIns v89 ((([] ++ a) ++ [(⟨op, 0, ⟨#[]⟩⟩ : Ins)]) ++ b), blk b87 [.int .i64 op, .int .i64 0, .string ⟨#[]⟩] 86, osl kIns (.slice A17 ((a ++ b).length) c18) (a ++ b)] [rsl kIns (.slice A1 a.length c2) a, rsl kIns (.slice A6 b.length c7) b] := H
                  refine c_env [(0, .slice A1 a.length c2), (7, .slice A17 ((a ++ b).length) c18), (9, v89)] ⟨rfl, rfl, rfl, trivial⟩ ?_
                  refine c_seq ?_
                  rw [List.nil_append] at H
                  replace H : Hd _ _ _ [osl kIns v89 (a ++ [(⟨op, 0, ⟨#[]⟩⟩ : Ins)] ++ b), blk b87 [.int .i64 op, .int .i64 0, .string ⟨#[]⟩] 86, osl kIns (.slice A17 ((a ++ b).length) c18) (a ++ b)] [rsl kIns (.slice A1 a.length c2) a, rsl kIns (.slice A6 b.length c7) b] := H
                  refine c_reg ?_
                  refine s_val rfl rfl (r_mv rfl rfl) ?_
                  refine sc (pMay_ok (.slice A1 a.length c2) a) H (lR 0 rfl l0) rfl rfl (e_fn kn71 rfl rfl) ?_
                  rintro _ _ w ⟨rfl, rfl⟩ H
                  refine s_val rfl rfl (r_notP rfl rfl) ?_
                  refine s_val rfl rfl (r_mv rfl rfl) ?_
                  refine s_dec (d := 80) (p := ¬ (badI a < 0)) rfl (fun h90 => ?_) (fun h90 => ?_)
                  · skip
                    refine s_no rfl rfl ?_
                    refine s_no rfl rfl ?_
                    refine s_no rfl rfl ?_
                    refine s_no rfl rfl ?_
                    refine s_no rfl rfl ?_
                    refine s_val rfl rfl (r_pickT rfl rfl rfl) ?_
                    refine s_val rfl rfl (r_mv rfl rfl) ?_
                    refine s_val rfl rfl (r_mv rfl rfl) ?_
                    refine sc (pbad_ok (.slice A1 a.length c2) a) H (lR 0 rfl l0) rfl rfl (e_fn kn69 rfl rfl) ?_
                    rintro _ _ w ⟨rfl, rfl⟩ H
                    refine s_val rfl rfl (r_lt rfl rfl rfl) ?_
                    refine s_val rfl rfl (r_mv rfl rfl) ?_
                    refine s_dec (d := 91) (p := (badI a) < 0) rfl (fun h91 => ?_) (fun h91 => ?_)
                    · skip
                      refine s_no rfl rfl ?_
                      refine s_no rfl rfl ?_
                      refine s_no rfl rfl ?_
                      refine s_no rfl rfl ?_
                      refine s_no rfl rfl ?_
                      refine s_val rfl rfl (r_pickT rfl rfl rfl) ?_
                      refine s_val rfl rfl (r_pickT rfl rfl rfl) ?_
                      refine s_val rfl rfl (r_mv rfl rfl) ?_
                      refine sc (awake5_ok ) H l0 rfl rfl (e_fn kn66 rfl rfl) ?_
                      rintro _ _ w ⟨rfl, rfl⟩ H
                      refine s_val rfl rfl (r_pickT rfl rfl rfl) ?_
                      refine s_val rfl rfl (r_as rfl rfl) ?_
                      refine s_nil ?_
                      refine q_then ?_
                      refine c_env [(6, .bool true)] ⟨rfl, trivial⟩ ?_
                      refine c_ret ?_
                      refine q_ret1 rfl rfl ?_
                      replace H := H.keep 0
                      exact fin ⟨rfl, rfl⟩ H
                    · skip
                      refine s_val rfl rfl (r_mv rfl rfl) ?_
                      refine sc (pbad_ok (.slice A17 ((a ++ b).length) c18) (a ++ b)) H (lA 2 rfl own_rd l0) rfl rfl (e_fn kn69 rfl rfl) ?_
                      rintro _ _ w ⟨rfl, rfl⟩ H
                      refine s_val rfl rfl (r_mv rfl rfl) ?_
                      refine sc (pbad_ok (.slice A1 a.length c2) a) H (lR 0 rfl l0) rfl rfl (e_fn kn69 rfl rfl) ?_
                      rintro _ _ w ⟨rfl, rfl⟩ H
                      refine s_val rfl rfl (r_eq rfl rfl rfl) ?_
                      refine s_val rfl rfl (r_pickF rfl rfl rfl) ?_
                      refine s_val rfl rfl (r_pickT rfl rfl rfl) ?_
                      refine s_val rfl rfl (r_mv rfl rfl) ?_
                      refine s_dec (d := 99) (p := (badI (a ++ b)) = (badI a)) rfl (fun h92 => ?_) (fun h92 => ?_)
                      · skip
                        refine sc (awake5_ok ) H l0 rfl rfl (e_fn kn66 rfl rfl) ?_
                        rintro _ _ w ⟨rfl, rfl⟩ H
                        refine s_val rfl rfl (r_pickT rfl rfl rfl) ?_
                        refine s_val rfl rfl (r_as rfl rfl) ?_
                        refine s_nil ?_
                        refine q_then ?_
                        refine c_env [(6, .bool true)] ⟨rfl, trivial⟩ ?_
                        refine c_ret ?_
                        refine q_ret1 rfl rfl ?_
                        replace H := H.keep 0
                        exact fin ⟨rfl, rfl⟩ H
                      · exact absurd (parts_first (by omega) hja (by omega)) h92
                  · skip
                    refine s_val rfl rfl (r_mv rfl rfl) ?_
                    refine sc (pbad_ok v89 (a ++ [(⟨op, 0, ⟨#[]⟩⟩ : Ins)] ++ b)) H (lA 0 rfl own_rd l0) rfl rfl (e_fn kn69 rfl rfl) ?_
                    rintro _ _ w ⟨rfl, rfl⟩ H
                    refine s_val rfl rfl (r_mv rfl rfl) ?_
                    refine s_val rfl rfl (r_lenL rfl un79 rfl) ?_
                    refine s_val rfl rfl (r_eq rfl rfl rfl) ?_
                    refine s_val rfl rfl (r_pickF rfl rfl rfl) ?_
                    refine s_val rfl rfl (r_mv rfl rfl) ?_
                    refine s_dec (d := 87) (p := (badI (a ++ [(⟨op, 0, ⟨#[]⟩⟩ : Ins)] ++ b)) = ((a.length : Nat) : Int)) rfl (fun h93 => ?_) (fun h93 => ?_)
                    · skip
                      refine s_val rfl rfl (r_mv rfl rfl) ?_
                      refine sc (pbad_ok (.slice A1 a.length c2) a) H (lR 0 rfl l0) rfl rfl (e_fn kn69 rfl rfl) ?_
                      rintro _ _ w ⟨rfl, rfl⟩ H
                      refine s_val rfl rfl (r_lt rfl rfl rfl) ?_
                      refine s_val rfl rfl (r_mv rfl rfl) ?_
                      refine s_dec (d := 91) (p := (badI a) < 0) rfl (fun h94 => ?_) (fun h94 => ?_)
                      · skip
                        refine s_no rfl rfl ?_
                        refine s_no rfl rfl ?_
                        refine s_no rfl rfl ?_
                        refine s_no rfl rfl ?_
                        refine s_no rfl rfl ?_
                        refine s_val rfl rfl (r_pickT rfl rfl rfl) ?_
                        refine s_val rfl rfl (r_pickT rfl rfl rfl) ?_
                        refine s_val rfl rfl (r_mv rfl rfl) ?_
                        refine sc (awake5_ok ) H l0 rfl rfl (e_fn kn66 rfl rfl) ?_
                        rintro _ _ w ⟨rfl, rfl⟩ H
                        refine s_val rfl rfl (r_pickT rfl rfl rfl) ?_
                        refine s_val rfl rfl (r_as rfl rfl) ?_
                        refine s_nil ?_
                        refine q_then ?_
                        refine c_env [(6, .bool true)] ⟨rfl, trivial⟩ ?_
                        refine c_ret ?_
                        refine q_ret1 rfl rfl ?_
                        replace H := H.keep 0
                        exact fin ⟨rfl, rfl⟩ H
                      · skip
                        refine s_val rfl rfl (r_mv rfl rfl) ?_
                        refine sc (pbad_ok (.slice A17 ((a ++ b).length) c18) (a ++ b)) H (lA 2 rfl own_rd l0) rfl rfl (e_fn kn69 rfl rfl) ?_
                        rintro _ _ w ⟨rfl, rfl⟩ H
                        refine s_val rfl rfl (r_mv rfl rfl) ?_
                        refine sc (pbad_ok (.slice A1 a.length c2) a) H (lR 0 rfl l0) rfl rfl (e_fn kn69 rfl rfl) ?_
                        rintro _ _ w ⟨rfl, rfl⟩ H
                        refine s_val rfl rfl (r_eq rfl rfl rfl) ?_
                        refine s_val rfl rfl (r_pickF rfl rfl rfl) ?_
                        refine s_val rfl rfl (r_pickT rfl rfl rfl) ?_
                        refine s_val rfl rfl (r_mv rfl rfl) ?_
                        refine s_dec (d := 99) (p := (badI (a ++ b)) = (badI a)) rfl (fun h95 => ?_) (fun h95 => ?_)
                        · skip
                          refine sc (awake5_ok ) H l0 rfl rfl (e_fn kn66 rfl rfl) ?_
                          rintro _ _ w ⟨rfl, rfl⟩ H
                          refine s_val rfl rfl (r_pickT rfl rfl rfl) ?_
                          refine s_val rfl rfl (r_as rfl rfl) ?_
                          refine s_nil ?_
                          refine q_then ?_
                          refine c_env [(6, .bool true)] ⟨rfl, trivial⟩ ?_
                          refine c_ret ?_
                          refine q_ret1 rfl rfl ?_
                          replace H := H.keep 0
                          exact fin ⟨rfl, rfl⟩ H
                        · exact absurd (parts_first (by omega) hja (by omega)) h95
                    · exact absurd (parts_bad (by omega) hja (by (try dsimp only); omega) (by omega)) h93

set_option maxHeartbeats 1000000 in
theorem progJumps_ok (n : Int) (wn : In64 n) (to : Int) (wto : In64 to) (iff : Bool) :
    Cn Try.prog 17 [.int .i64 n, .int .i64 to, .bool iff] [] [] (fun v Bs => v = .bool true ∧ Bs = []) := by
  intro w0 F0 H
  unfold In64 at wn wto
  refine enter (args := [.int .i64 n, .int .i64 to, .bool iff]) Try.func17 rfl rfl (Nat.le_of_ble_eq_true rfl) ?_
  refine c_seq ?_
  refine c_reg ?_
  refine s_val rfl rfl (r_as rfl rfl) ?_
  refine s_nil ?_
  refine q_then ?_
  refine c_env [(0, .int .i64 n), (1, .int .i64 to), (2, .bool iff), (6, .bool false)] ⟨rfl, rfl, rfl, rfl, trivial⟩ ?_
  refine c_seq ?_
  refine c_reg ?_
  refine s_val rfl rfl (r_mv rfl rfl) ?_
  refine sc (low_ok n 40 (by unfold In64; omega) (by omega) (by omega)) H l0 rfl rfl (e_fn kn30 rfl rfl) ?_
  rintro _ _ w ⟨rfl, rfl⟩ H
  refine s_val rfl rfl (r_add (z := 1 + (IntKind.u64.wrap n % 40)) rfl rfl rfl (w64 (by omega) (by omega))) ?_
  refine s_val rfl rfl (r_as rfl rfl) ?_
  refine s_nil ?_
  refine q_then ?_
  refine c_env [(0, .int .i64 (1 + (IntKind.u64.wrap n % 40))), (1, .int .i64 to), (2, .bool iff), (6, .bool false)] ⟨rfl, rfl, rfl, rfl, trivial⟩ ?_
  refine c_seq ?_
  have hnm := low_in n (n := 40) (by omega)
  generalize IntKind.u64.wrap n % 40 = nm at hnm ⊢
  obtain ⟨m, hm⟩ : ∃ m : Nat, 1 + nm = ((m : Nat) : Int) := ⟨(1 + nm).toNat, by omega⟩
  rw [hm]
  refine c_reg ?_
  refine s_val rfl rfl (r_as rfl rfl) ?_
  refine s_nil ?_
  refine q_then ?_
  refine c_env [(0, .int .i64 ((m : Nat) : Int)), (1, .int .i64 to), (2, .bool iff), (6, .bool false), (7, .int .i64 19)] ⟨rfl, rfl, rfl, rfl, rfl, trivial⟩ ?_
  refine c_seq ?_
  refine c_seq ?_
  refine c_reg ?_
  refine s_val rfl rfl (r_mv rfl rfl) ?_
  refine s_nil ?_
  refine q_then ?_
  refine c_env [(0, .int .i64 ((m : Nat) : Int)), (1, .int .i64 to), (6, .bool false), (7, .int .i64 19), (12, .bool iff)] ⟨rfl, rfl, rfl, rfl, rfl, trivial⟩ ?_
  refine c_cond (b := iff) rfl (fun h1 => ?_) (fun h1 => ?_)
  · skip
    refine c_reg ?_
    refine s_val rfl rfl (r_as rfl rfl) ?_
    refine s_nil ?_
    refine q_then ?_
    refine c_env [(0, .int .i64 ((m : Nat) : Int)), (1, .int .i64 to), (6, .bool false), (7, .int .i64 20)] ⟨rfl, rfl, rfl, rfl, trivial⟩ ?_
    refine c_seq ?_
    refine c_reg ?_
    refine s_val rfl rfl (r_mv rfl rfl) ?_
    refine s_mkF (m := m) (c := m) (a0 := (⟨0, 0, ⟨#[]⟩⟩ : Ins)) (enc := encIns) rfl rfl rfl sl79 zr86 rfl (by decide) hlIns rfl rfl (by omega) (by omega) (by omega) H (fun b2 w H => ?_)
    refine s_val rfl rfl (r_as rfl rfl) ?_
    refine s_nil ?_
    refine q_then ?_
    replace H : Hd _ _ _ [rowF encIns b2 86 (List.replicate m (⟨0, 0, ⟨#[]⟩⟩ : Ins))] [] := H
    refine c_env [(0, .int .i64 ((m : Nat) : Int)), (1, .int .i64 to), (6, .bool false), (7, .int .i64 20), (8, .slice (some ⟨b2, 0, none⟩) m m)] ⟨rfl, rfl, rfl, rfl, rfl, trivial⟩ ?_
    refine c_seq ?_
    refine c_reg ?_
    refine s_val rfl rfl (r_mv rfl rfl) ?_
    refine s_val rfl rfl (r_mv rfl rfl) ?_
    refine s_val rfl rfl (r_quo (z := ((m / 2 : Nat) : Int)) rfl rfl rfl (by omega) (quo2 _ (by omega))) ?_
    refine s_val rfl rfl (r_mv rfl rfl) ?_
    refine s_val rfl rfl (r_mv rfl rfl) ?_
    refine s_val rfl rfl (r_bd (parts := [(0, .tmp 18), (1, .tmp 19)]) (vs := [.int .i64 20, .int .i64 to]) (cs := [.int .i64 20, .int .i64 to, .string ⟨#[]⟩]) rfl bd86 rfl rfl) ?_
    refine s_val rfl rfl (r_ia (p := (m / 2) * 3) rfl sl79 rfl rfl (by omega) (by omega) (by omega)) ?_
    refine s_stF (i := m / 2) (a := (⟨20, to, ⟨#[]⟩⟩ : Ins)) hlIns h1Ins rfl rfl rfl ty86 rfl rfl rfl H (by simp; omega) rfl (fun w H => ?_)
    refine s_nil ?_
    refine q_then ?_
    replace H : Hd _ _ _ [rowF encIns b2 86 ((List.replicate m (⟨0, 0, ⟨#[]⟩⟩ : Ins)).set (m / 2) (⟨20, to, ⟨#[]⟩⟩ : Ins))] [] := H
    refine c_env [(0, .int .i64 ((m : Nat) : Int)), (1, .int .i64 to), (6, .bool false), (8, .slice (some ⟨b2, 0, none⟩) m m)] ⟨rfl, rfl, rfl, rfl, trivial⟩ ?_
    refine c_seq ?_
    refine c_seq ?_
    refine c_reg ?_
    refine s_val rfl rfl (r_mv rfl rfl) ?_
    refine s_val rfl rfl (r_lt rfl rfl rfl) ?_
    refine s_val rfl rfl (r_mv rfl rfl) ?_
    refine s_dec (d := 24) (p := to < 0) rfl (fun h3 => ?_) (fun h3 => ?_)
    · skip
      refine s_no rfl rfl ?_
      refine s_no rfl rfl ?_
      refine s_no rfl rfl ?_
      refine s_val rfl rfl (r_pickT rfl rfl rfl) ?_
      refine s_nil ?_
      refine q_then ?_
      refine c_env [(0, .int .i64 ((m : Nat) : Int)), (1, .int .i64 to), (6, .bool false), (8, .slice (some ⟨b2, 0, none⟩) m m), (28, .bool true)] ⟨rfl, rfl, rfl, rfl, rfl, trivial⟩ ?_
      refine c_yes rfl ?_
      refine c_seq ?_
      refine c_reg ?_
      refine s_val rfl rfl (r_mv rfl rfl) ?_
      refine sc (pbad_ok (.slice (some ⟨b2, 0, none⟩) m m) ((List.replicate m (⟨0, 0, ⟨#[]⟩⟩ : Ins)).set (m / 2) (⟨20, to, ⟨#[]⟩⟩ : Ins))) H (lA 0 rfl (fun F h => rowF_rsl (i := 0) h (by first | (simp; done) | exact List.take_of_length_le (by simp)) (by simp) (by simp) (by omega) (by simp)) l0) rfl rfl (e_fn kn69 rfl rfl) ?_
      rintro _ _ w ⟨rfl, rfl⟩ H
      refine s_val rfl rfl (r_mv rfl rfl) ?_
      refine s_val rfl rfl (r_quo (z := ((m / 2 : Nat) : Int)) rfl rfl rfl (by omega) (quo2 _ (by omega))) ?_
      refine s_val rfl rfl (r_eq rfl rfl rfl) ?_
      refine s_val rfl rfl (r_mv rfl rfl) ?_
      refine s_dec (d := 34) (p := (badI ((List.replicate m (⟨0, 0, ⟨#[]⟩⟩ : Ins)).set (m / 2) (⟨20, to, ⟨#[]⟩⟩ : Ins))) = ((m / 2 : Nat) : Int)) rfl (fun h4 => ?_) (fun h4 => ?_)
      · skip
        refine s_val rfl rfl (r_mv rfl rfl) ?_
        refine sc (ptarg_ok (.slice (some ⟨b2, 0, none⟩) m m) ((List.replicate m (⟨0, 0, ⟨#[]⟩⟩ : Ins)).set (m / 2) (⟨20, to, ⟨#[]⟩⟩ : Ins)) (by first | omega | decide | (simp; omega))) H (lA 0 rfl (fun F h => rowF_rsl (i := 0) h (by first | (simp; done) | exact List.take_of_length_le (by simp)) (by simp) (by simp) (by omega) (by simp)) l0) rfl rfl (e_fn kn68 rfl rfl) ?_
        rintro v5 _ w rfl H
        obtain ⟨A6, c7, rfl, hc8, hm9, hp10⟩ := H.fA 0 rfl
        refine s_val rfl rfl (r_lenL rfl un22 rfl) ?_
        refine s_val rfl rfl (r_eq rfl rfl rfl) ?_
        refine s_val rfl rfl (r_pickT rfl rfl rfl) ?_
        refine s_val rfl rfl (r_mv rfl rfl) ?_
        refine s_dec (d := 40) (p := (((targI ((List.replicate m (⟨0, 0, ⟨#[]⟩⟩ : Ins)).set (m / 2) (⟨20, to, ⟨#[]⟩⟩ : Ins))).length : Nat) : Int) = 0) rfl (fun h11 => ?_) (fun h11 => ?_)
        · skip
          refine sc (awake5_ok ) H l0 rfl rfl (e_fn kn66 rfl rfl) ?_
          rintro _ _ w ⟨rfl, rfl⟩ H
          refine s_val rfl rfl (r_pickT rfl rfl rfl) ?_
          refine s_val rfl rfl (r_as rfl rfl) ?_
          refine s_nil ?_
          refine q_then ?_
          replace H : Hd _ _ _ [osl (kInt .i64) (.slice A6 ((targI ((List.replicate m (⟨0, 0, ⟨#[]⟩⟩ : Ins)).set (m / 2) (⟨20, to, ⟨#[]⟩⟩ : Ins))).length) c7) (targI ((List.replicate m (⟨0, 0, ⟨#[]⟩⟩ : Ins)).set (m / 2) (⟨20, to, ⟨#[]⟩⟩ : Ins))), rowF encIns b2 86 ((List.replicate m (⟨0, 0, ⟨#[]⟩⟩ : Ins)).set (m / 2) (⟨20, to, ⟨#[]⟩⟩ : Ins))] [] := H
          refine c_env [(0, .int .i64 ((m : Nat) : Int)), (1, .int .i64 to), (6, .bool true), (8, .slice (some ⟨b2, 0, none⟩) m m)] ⟨rfl, rfl, rfl, rfl, trivial⟩ ?_
          refine c_ret ?_
          refine q_thenR ?_
          refine q_ret1 rfl rfl ?_
          replace H := H.keep 0
          exact fin ⟨rfl, rfl⟩ H
        · exact absurd (by rw [targ_nil (by rw [jump_bad (by omega) (by omega) (by omega) (by omega)]; omega)]; rfl) h11
      · exact absurd (jump_bad (by omega) (by omega) (by omega) (by omega)) h4
    · skip
      refine s_val rfl rfl (r_mv rfl rfl) ?_
      refine s_val rfl rfl (r_mv rfl rfl) ?_
      refine s_val rfl rfl (r_gt rfl rfl rfl) ?_
      refine s_val rfl rfl (r_pickF rfl rfl rfl) ?_
      refine s_nil ?_
      refine q_then ?_
      refine c_env [(0, .int .i64 ((m : Nat) : Int)), (1, .int .i64 to), (6, .bool false), (8, .slice (some ⟨b2, 0, none⟩) m m), (28, .bool (decide (((m : Nat) : Int) < to)))] ⟨rfl, rfl, rfl, rfl, rfl, trivial⟩ ?_
      refine c_dec (p := ((m : Nat) : Int) < to) rfl (fun h12 => ?_) (fun h12 => ?_)
      · skip
        refine c_seq ?_
        refine c_reg ?_
        refine s_val rfl rfl (r_mv rfl rfl) ?_
        refine sc (pbad_ok (.slice (some ⟨b2, 0, none⟩) m m) ((List.replicate m (⟨0, 0, ⟨#[]⟩⟩ : Ins)).set (m / 2) (⟨20, to, ⟨#[]⟩⟩ : Ins))) H (lA 0 rfl (fun F h => rowF_rsl (i := 0) h (by first | (simp; done) | exact List.take_of_length_le (by simp)) (by simp) (by simp) (by omega) (by simp)) l0) rfl rfl (e_fn kn69 rfl rfl) ?_
        rintro _ _ w ⟨rfl, rfl⟩ H
        refine s_val rfl rfl (r_mv rfl rfl) ?_
        refine s_val rfl rfl (r_quo (z := ((m / 2 : Nat) : Int)) rfl rfl rfl (by omega) (quo2 _ (by omega))) ?_
        refine s_val rfl rfl (r_eq rfl rfl rfl) ?_
        refine s_val rfl rfl (r_mv rfl rfl) ?_
        refine s_dec (d := 34) (p := (badI ((List.replicate m (⟨0, 0, ⟨#[]⟩⟩ : Ins)).set (m / 2) (⟨20, to, ⟨#[]⟩⟩ : Ins))) = ((m / 2 : Nat) : Int)) rfl (fun h13 => ?_) (fun h13 => ?_)
        · skip
          refine s_val rfl rfl (r_mv rfl rfl) ?_
          refine sc (ptarg_ok (.slice (some ⟨b2, 0, none⟩) m m) ((List.replicate m (⟨0, 0, ⟨#[]⟩⟩ : Ins)).set (m / 2) (⟨20, to, ⟨#[]⟩⟩ : Ins)) (by first | omega | decide | (simp; omega))) H (lA 0 rfl (fun F h => rowF_rsl (i := 0) h (by first | (simp; done) | exact List.take_of_length_le (by simp)) (by simp) (by simp) (by omega) (by simp)) l0) rfl rfl (e_fn kn68 rfl rfl) ?_
          rintro v14 _ w rfl H
          obtain ⟨A15, c16, rfl, hc17, hm18, hp19⟩ := H.fA 0 rfl
          refine s_val rfl rfl (r_lenL rfl un22 rfl) ?_
          refine s_val rfl rfl (r_eq rfl rfl rfl) ?_
          refine s_val rfl rfl (r_pickT rfl rfl rfl) ?_
          refine s_val rfl rfl (r_mv rfl rfl) ?_
          refine s_dec (d := 40) (p := (((targI ((List.replicate m (⟨0, 0, ⟨#[]⟩⟩ : Ins)).set (m / 2) (⟨20, to, ⟨#[]⟩⟩ : Ins))).length : Nat) : Int) = 0) rfl (fun h20 => ?_) (fun h20 => ?_)
          · skip
            refine sc (awake5_ok ) H l0 rfl rfl (e_fn kn66 rfl rfl) ?_
            rintro _ _ w ⟨rfl, rfl⟩ H
            refine s_val rfl rfl (r_pickT rfl rfl rfl) ?_
            refine s_val rfl rfl (r_as rfl rfl) ?_
            refine s_nil ?_
            refine q_then ?_
            replace H : Hd _ _ _ [osl (kInt .i64) (.slice A15 ((targI ((List.replicate m (⟨0, 0, ⟨#[]⟩⟩ : Ins)).set (m / 2) (⟨20, to, ⟨#[]⟩⟩ : Ins))).length) c16) (targI ((List.replicate m (⟨0, 0, ⟨#[]⟩⟩ : Ins)).set (m / 2) (⟨20, to, ⟨#[]⟩⟩ : Ins))), rowF encIns b2 86 ((List.replicate m (⟨0, 0, ⟨#[]⟩⟩ : Ins)).set (m / 2) (⟨20, to, ⟨#[]⟩⟩ : Ins))] [] := H
            refine c_env [(0, .int .i64 ((m : Nat) : Int)), (1, .int .i64 to), (6, .bool true), (8, .slice (some ⟨b2, 0, none⟩) m m)] ⟨rfl, rfl, rfl, rfl, trivial⟩ ?_
            refine c_ret ?_
            refine q_thenR ?_
            refine q_ret1 rfl rfl ?_
            replace H := H.keep 0
            exact fin ⟨rfl, rfl⟩ H
          · exact absurd (by rw [targ_nil (by rw [jump_bad (by omega) (by omega) (by omega) (by omega)]; omega)]; rfl) h20
        · exact absurd (jump_bad (by omega) (by omega) (by omega) (by omega)) h13
      · skip
        refine c_skip ?_
        refine q_then ?_
        refine c_env [(0, .int .i64 ((m : Nat) : Int)), (1, .int .i64 to), (6, .bool false), (8, .slice (some ⟨b2, 0, none⟩) m m)] ⟨rfl, rfl, rfl, rfl, trivial⟩ ?_
        refine c_seq ?_
        refine c_reg ?_
        refine s_val rfl rfl (r_mv rfl rfl) ?_
        refine sc (pMay_ok (.slice (some ⟨b2, 0, none⟩) m m) ((List.replicate m (⟨0, 0, ⟨#[]⟩⟩ : Ins)).set (m / 2) (⟨20, to, ⟨#[]⟩⟩ : Ins))) H (lA 0 rfl (fun F h => rowF_rsl (i := 0) h (by first | (simp; done) | exact List.take_of_length_le (by simp)) (by simp) (by simp) (by omega) (by simp)) l0) rfl rfl (e_fn kn71 rfl rfl) ?_
        rintro _ _ w ⟨rfl, rfl⟩ H
        refine s_val rfl rfl (r_mv rfl rfl) ?_
        refine s_dec (d := 45) (p := badI ((List.replicate m (⟨0, 0, ⟨#[]⟩⟩ : Ins)).set (m / 2) (⟨20, to, ⟨#[]⟩⟩ : Ins)) < 0) rfl (fun h21 => ?_) (fun h21 => ?_)
        · skip
          refine s_val rfl rfl (r_mv rfl rfl) ?_
          refine sc (ptarg_ok (.slice (some ⟨b2, 0, none⟩) m m) ((List.replicate m (⟨0, 0, ⟨#[]⟩⟩ : Ins)).set (m / 2) (⟨20, to, ⟨#[]⟩⟩ : Ins)) (by first | omega | decide | (simp; omega))) H (lA 0 rfl (fun F h => rowF_rsl (i := 0) h (by first | (simp; done) | exact List.take_of_length_le (by simp)) (by simp) (by simp) (by omega) (by simp)) l0) rfl rfl (e_fn kn68 rfl rfl) ?_
          rintro v22 _ w rfl H
          refine s_val rfl rfl (r_mv rfl rfl) ?_
          refine s_bsl (parts := [(0, .tmp 48)]) (vs := [.int .i64 to]) (cs := [.int .i64 to]) rfl rfl rfl sl22 zr3 rfl (by decide) (by decide) rfl rfl H (fun b23 w H => ?_)
          refine sc (sameInts_ok v22 (.slice (some ⟨b23, 0, none⟩) 1 1) (targI ((List.replicate m (⟨0, 0, ⟨#[]⟩⟩ : Ins)).set (m / 2) (⟨20, to, ⟨#[]⟩⟩ : Ins))) [to]) H (lA 1 rfl own_rd (lA 0 rfl (fun F h => blk_rsl h rfl (by decide) (RepsR.flat_eq.2 rfl)) l0)) rfl rfl (e_fn kn38 rfl rfl) ?_
          rintro _ _ w ⟨rfl, rfl⟩ H
          refine s_val rfl rfl (r_pickT rfl rfl rfl) ?_
          refine s_val rfl rfl (r_mv rfl rfl) ?_
          refine s_dec (d := 52) (p := (targI ((List.replicate m (⟨0, 0, ⟨#[]⟩⟩ : Ins)).set (m / 2) (⟨20, to, ⟨#[]⟩⟩ : Ins))) = [to]) rfl (fun h24 => ?_) (fun h24 => ?_)
          · skip
            refine s_val rfl rfl (r_mv rfl rfl) ?_
            refine s_val rfl rfl (r_add (z := ((41 + m : Nat) : Int)) rfl rfl rfl (by rw [w64 (by omega) (by omega)]; omega)) ?_
            refine s_mkF (m := 41 + m) (c := 41 + m) (a0 := (⟨0, 0, ⟨#[]⟩⟩ : Ins)) (enc := encIns) rfl rfl rfl sl79 zr86 rfl (by decide) hlIns rfl rfl (by omega) (by omega) (by omega) H (fun b25 w H => ?_)
            refine sc (pbad_ok (.slice (some ⟨b25, 0, none⟩) (41 + m) (41 + m)) (List.replicate (41 + m) (⟨0, 0, ⟨#[]⟩⟩ : Ins))) H (lA 0 rfl (fun F h => rowF_rsl (i := 0) h (by first | (simp; done) | exact List.take_of_length_le (by simp)) (by simp) (by simp) (by omega) (by simp)) l0) rfl rfl (e_fn kn69 rfl rfl) ?_
            rintro _ _ w ⟨rfl, rfl⟩ H
            refine s_val rfl rfl (r_eq rfl rfl rfl) ?_
            refine s_val rfl rfl (r_pickT rfl rfl rfl) ?_
            refine s_val rfl rfl (r_mv rfl rfl) ?_
            refine s_dec (d := 59) (p := (badI (List.replicate (41 + m) (⟨0, 0, ⟨#[]⟩⟩ : Ins))) = 40) rfl (fun h26 => ?_) (fun h26 => ?_)
            · skip
              refine sc (awake5_ok ) H l0 rfl rfl (e_fn kn66 rfl rfl) ?_
              rintro _ _ w ⟨rfl, rfl⟩ H
              refine s_val rfl rfl (r_pickT rfl rfl rfl) ?_
              refine s_val rfl rfl (r_as rfl rfl) ?_
              refine s_nil ?_
              refine q_then ?_
              replace H : Hd _ _ _ [rowF encIns b25 86 (List.replicate (41 + m) (⟨0, 0, ⟨#[]⟩⟩ : Ins)), blk b23 [.int .i64 to] 3, osl (kInt .i64) v22 (targI ((List.replicate m (⟨0, 0, ⟨#[]⟩⟩ : Ins)).set (m / 2) (⟨20, to, ⟨#[]⟩⟩ : Ins))), rowF encIns b2 86 ((List.replicate m (⟨0, 0, ⟨#[]⟩⟩ : Ins)).set (m / 2) (⟨20, to, ⟨#[]⟩⟩ : Ins))] [] := H
              refine c_env [(6, .bool true)] ⟨rfl, trivial⟩ ?_
              refine c_ret ?_
              refine q_ret1 rfl rfl ?_
              replace H := H.keep 0
              exact fin ⟨rfl, rfl⟩ H
            · exact absurd (rep_bad (by omega)) h26
          · exact absurd (jump_targ (by omega) (by omega) (by omega) (by omega)) h24
        · exact absurd (jump_may (by omega) (by omega) (by omega) (by omega)) h21
  · skip
    refine c_skip ?_
    refine q_then ?_
    refine c_env [(0, .int .i64 ((m : Nat) : Int)), (1, .int .i64 to), (6, .bool false), (7, .int .i64 19)] ⟨rfl, rfl, rfl, rfl, trivial⟩ ?_
    refine c_seq ?_
    refine c_reg ?_
    refine s_val rfl rfl (r_mv rfl rfl) ?_
    refine s_mkF (m := m) (c := m) (a0 := (⟨0, 0, ⟨#[]⟩⟩ : Ins)) (enc := encIns) rfl rfl rfl sl79 zr86 rfl (by decide) hlIns rfl rfl (by omega) (by omega) (by omega) H (fun b27 w H => ?_)
    refine s_val rfl rfl (r_as rfl rfl) ?_
    refine s_nil ?_
    refine q_then ?_
    replace H : Hd _ _ _ [rowF encIns b27 86 (List.replicate m (⟨0, 0, ⟨#[]⟩⟩ : Ins))] [] := H
    refine c_env [(0, .int .i64 ((m : Nat) : Int)), (1, .int .i64 to), (6, .bool false), (7, .int .i64 19), (8, .slice (some ⟨b27, 0, none⟩) m m)] ⟨rfl, rfl, rfl, rfl, rfl, trivial⟩ ?_
    refine c_seq ?_
    refine c_reg ?_
    refine s_val rfl rfl (r_mv rfl rfl) ?_
    refine s_val rfl rfl (r_mv rfl rfl) ?_
    refine s_val rfl rfl (r_quo (z := ((m / 2 : Nat) : Int)) rfl rfl rfl (by omega) (quo2 _ (by omega))) ?_
    refine s_val rfl rfl (r_mv rfl rfl) ?_
    refine s_val rfl rfl (r_mv rfl rfl) ?_
    refine s_val rfl rfl (r_bd (parts := [(0, .tmp 18), (1, .tmp 19)]) (vs := [.int .i64 19, .int .i64 to]) (cs := [.int .i64 19, .int .i64 to, .string ⟨#[]⟩]) rfl bd86 rfl rfl) ?_
    refine s_val rfl rfl (r_ia (p := (m / 2) * 3) rfl sl79 rfl rfl (by omega) (by omega) (by omega)) ?_
    refine s_stF (i := m / 2) (a := (⟨19, to, ⟨#[]⟩⟩ : Ins)) hlIns h1Ins rfl rfl rfl ty86 rfl rfl rfl H (by simp; omega) rfl (fun w H => ?_)
    refine s_nil ?_
    refine q_then ?_
    replace H : Hd _ _ _ [rowF encIns b27 86 ((List.replicate m (⟨0, 0, ⟨#[]⟩⟩ : Ins)).set (m / 2) (⟨19, to, ⟨#[]⟩⟩ : Ins))] [] := H
    refine c_env [(0, .int .i64 ((m : Nat) : Int)), (1, .int .i64 to), (6, .bool false), (8, .slice (some ⟨b27, 0, none⟩) m m)] ⟨rfl, rfl, rfl, rfl, trivial⟩ ?_
    refine c_seq ?_
    refine c_seq ?_
    refine c_reg ?_
    refine s_val rfl rfl (r_mv rfl rfl) ?_
    refine s_val rfl rfl (r_lt rfl rfl rfl) ?_
    refine s_val rfl rfl (r_mv rfl rfl) ?_
    refine s_dec (d := 24) (p := to < 0) rfl (fun h28 => ?_) (fun h28 => ?_)
    · skip
      refine s_no rfl rfl ?_
      refine s_no rfl rfl ?_
      refine s_no rfl rfl ?_
      refine s_val rfl rfl (r_pickT rfl rfl rfl) ?_
      refine s_nil ?_
      refine q_then ?_
      refine c_env [(0, .int .i64 ((m : Nat) : Int)), (1, .int .i64 to), (6, .bool false), (8, .slice (some ⟨b27, 0, none⟩) m m), (28, .bool true)] ⟨rfl, rfl, rfl, rfl, rfl, trivial⟩ ?_
      refine c_yes rfl ?_
      refine c_seq ?_
      refine c_reg ?_
      refine s_val rfl rfl (r_mv rfl rfl) ?_
      refine sc (pbad_ok (.slice (some ⟨b27, 0, none⟩) m m) ((List.replicate m (⟨0, 0, ⟨#[]⟩⟩ : Ins)).set (m / 2) (⟨19, to, ⟨#[]⟩⟩ : Ins))) H (lA 0 rfl (fun F h => rowF_rsl (i := 0) h (by first | (simp; done) | exact List.take_of_length_le (by simp)) (by simp) (by simp) (by omega) (by simp)) l0) rfl rfl (e_fn kn69 rfl rfl) ?_
      rintro _ _ w ⟨rfl, rfl⟩ H
      refine s_val rfl rfl (r_mv rfl rfl) ?_
      refine s_val rfl rfl (r_quo (z := ((m / 2 : Nat) : Int)) rfl rfl rfl (by omega) (quo2 _ (by omega))) ?_
      refine s_val rfl rfl (r_eq rfl rfl rfl) ?_
      refine s_val rfl rfl (r_mv rfl rfl) ?_
      refine s_dec (d := 34) (p := (badI ((List.replicate m (⟨0, 0, ⟨#[]⟩⟩ : Ins)).set (m / 2) (⟨19, to, ⟨#[]⟩⟩ : Ins))) = ((m / 2 : Nat) : Int)) rfl (fun h29 => ?_) (fun h29 => ?_)
      · skip
        refine s_val rfl rfl (r_mv rfl rfl) ?_
        refine sc (ptarg_ok (.slice (some ⟨b27, 0, none⟩) m m) ((List.replicate m (⟨0, 0, ⟨#[]⟩⟩ : Ins)).set (m / 2) (⟨19, to, ⟨#[]⟩⟩ : Ins)) (by first | omega | decide | (simp; omega))) H (lA 0 rfl (fun F h => rowF_rsl (i := 0) h (by first | (simp; done) | exact List.take_of_length_le (by simp)) (by simp) (by simp) (by omega) (by simp)) l0) rfl rfl (e_fn kn68 rfl rfl) ?_
        rintro v30 _ w rfl H
        obtain ⟨A31, c32, rfl, hc33, hm34, hp35⟩ := H.fA 0 rfl
        refine s_val rfl rfl (r_lenL rfl un22 rfl) ?_
        refine s_val rfl rfl (r_eq rfl rfl rfl) ?_
        refine s_val rfl rfl (r_pickT rfl rfl rfl) ?_
        refine s_val rfl rfl (r_mv rfl rfl) ?_
        refine s_dec (d := 40) (p := (((targI ((List.replicate m (⟨0, 0, ⟨#[]⟩⟩ : Ins)).set (m / 2) (⟨19, to, ⟨#[]⟩⟩ : Ins))).length : Nat) : Int) = 0) rfl (fun h36 => ?_) (fun h36 => ?_)
        · skip
          refine sc (awake5_ok ) H l0 rfl rfl (e_fn kn66 rfl rfl) ?_
          rintro _ _ w ⟨rfl, rfl⟩ H
          refine s_val rfl rfl (r_pickT rfl rfl rfl) ?_
          refine s_val rfl rfl (r_as rfl rfl) ?_
          refine s_nil ?_
          refine q_then ?_
          replace H : Hd _ _ _ [osl (kInt .i64) (.slice A31 ((targI ((List.replicate m (⟨0, 0, ⟨#[]⟩⟩ : Ins)).set (m / 2) (⟨19, to, ⟨#[]⟩⟩ : Ins))).length) c32) (targI ((List.replicate m (⟨0, 0, ⟨#[]⟩⟩ : Ins)).set (m / 2) (⟨19, to, ⟨#[]⟩⟩ : Ins))), rowF encIns b27 86 ((List.replicate m (⟨0, 0, ⟨#[]⟩⟩ : Ins)).set (m / 2) (⟨19, to, ⟨#[]⟩⟩ : Ins))] [] := H
          refine c_env [(0, .int .i64 ((m : Nat) : Int)), (1, .int .i64 to), (6, .bool true), (8, .slice (some ⟨b27, 0, none⟩) m m)] ⟨rfl, rfl, rfl, rfl, trivial⟩ ?_
          refine c_ret ?_
          refine q_thenR ?_
          refine q_ret1 rfl rfl ?_
          replace H := H.keep 0
          exact fin ⟨rfl, rfl⟩ H
        · exact absurd (by rw [targ_nil (by rw [jump_bad (by omega) (by omega) (by omega) (by omega)]; omega)]; rfl) h36
      · exact absurd (jump_bad (by omega) (by omega) (by omega) (by omega)) h29
    · skip
      refine s_val rfl rfl (r_mv rfl rfl) ?_
      refine s_val rfl rfl (r_mv rfl rfl) ?_
      refine s_val rfl rfl (r_gt rfl rfl rfl) ?_
      refine s_val rfl rfl (r_pickF rfl rfl rfl) ?_
      refine s_nil ?_
      refine q_then ?_
      refine c_env [(0, .int .i64 ((m : Nat) : Int)), (1, .int .i64 to), (6, .bool false), (8, .slice (some ⟨b27, 0, none⟩) m m), (28, .bool (decide (((m : Nat) : Int) < to)))] ⟨rfl, rfl, rfl, rfl, rfl, trivial⟩ ?_
      refine c_dec (p := ((m : Nat) : Int) < to) rfl (fun h37 => ?_) (fun h37 => ?_)
      · skip
        refine c_seq ?_
        refine c_reg ?_
        refine s_val rfl rfl (r_mv rfl rfl) ?_
        refine sc (pbad_ok (.slice (some ⟨b27, 0, none⟩) m m) ((List.replicate m (⟨0, 0, ⟨#[]⟩⟩ : Ins)).set (m / 2) (⟨19, to, ⟨#[]⟩⟩ : Ins))) H (lA 0 rfl (fun F h => rowF_rsl (i := 0) h (by first | (simp; done) | exact List.take_of_length_le (by simp)) (by simp) (by simp) (by omega) (by simp)) l0) rfl rfl (e_fn kn69 rfl rfl) ?_
        rintro _ _ w ⟨rfl, rfl⟩ H
        refine s_val rfl rfl (r_mv rfl rfl) ?_
        refine s_val rfl rfl (r_quo (z := ((m / 2 : Nat) : Int)) rfl rfl rfl (by omega) (quo2 _ (by omega))) ?_
        refine s_val rfl rfl (r_eq rfl rfl rfl) ?_
        refine s_val rfl rfl (r_mv rfl rfl) ?_
        refine s_dec (d := 34) (p := (badI ((List.replicate m (⟨0, 0, ⟨#[]⟩⟩ : Ins)).set (m / 2) (⟨19, to, ⟨#[]⟩⟩ : Ins))) = ((m / 2 : Nat) : Int)) rfl (fun h38 => ?_) (fun h38 => ?_)
        · skip
          refine s_val rfl rfl (r_mv rfl rfl) ?_
          refine sc (ptarg_ok (.slice (some ⟨b27, 0, none⟩) m m) ((List.replicate m (⟨0, 0, ⟨#[]⟩⟩ : Ins)).set (m / 2) (⟨19, to, ⟨#[]⟩⟩ : Ins)) (by first | omega | decide | (simp; omega))) H (lA 0 rfl (fun F h => rowF_rsl (i := 0) h (by first | (simp; done) | exact List.take_of_length_le (by simp)) (by simp) (by simp) (by omega) (by simp)) l0) rfl rfl (e_fn kn68 rfl rfl) ?_
          rintro v39 _ w rfl H
          obtain ⟨A40, c41, rfl, hc42, hm43, hp44⟩ := H.fA 0 rfl
          refine s_val rfl rfl (r_lenL rfl un22 rfl) ?_
          refine s_val rfl rfl (r_eq rfl rfl rfl) ?_
          refine s_val rfl rfl (r_pickT rfl rfl rfl) ?_
          refine s_val rfl rfl (r_mv rfl rfl) ?_
          refine s_dec (d := 40) (p := (((targI ((List.replicate m (⟨0, 0, ⟨#[]⟩⟩ : Ins)).set (m / 2) (⟨19, to, ⟨#[]⟩⟩ : Ins))).length : Nat) : Int) = 0) rfl (fun h45 => ?_) (fun h45 => ?_)
          · skip
            refine sc (awake5_ok ) H l0 rfl rfl (e_fn kn66 rfl rfl) ?_
            rintro _ _ w ⟨rfl, rfl⟩ H
            refine s_val rfl rfl (r_pickT rfl rfl rfl) ?_
            refine s_val rfl rfl (r_as rfl rfl) ?_
            refine s_nil ?_
            refine q_then ?_
            replace H : Hd _ _ _ [osl (kInt .i64) (.slice A40 ((targI ((List.replicate m (⟨0, 0, ⟨#[]⟩⟩ : Ins)).set (m / 2) (⟨19, to, ⟨#[]⟩⟩ : Ins))).length) c41) (targI ((List.replicate m (⟨0, 0, ⟨#[]⟩⟩ : Ins)).set (m / 2) (⟨19, to, ⟨#[]⟩⟩ : Ins))), rowF encIns b27 86 ((List.replicate m (⟨0, 0, ⟨#[]⟩⟩ : Ins)).set (m / 2) (⟨19, to, ⟨#[]⟩⟩ : Ins))] [] := H
            refine c_env [(0, .int .i64 ((m : Nat) : Int)), (1, .int .i64 to), (6, .bool true), (8, .slice (some ⟨b27, 0, none⟩) m m)] ⟨rfl, rfl, rfl, rfl, trivial⟩ ?_
            refine c_ret ?_
            refine q_thenR ?_
            refine q_ret1 rfl rfl ?_
            replace H := H.keep 0
            exact fin ⟨rfl, rfl⟩ H
          · exact absurd (by rw [targ_nil (by rw [jump_bad (by omega) (by omega) (by omega) (by omega)]; omega)]; rfl) h45
        · exact absurd (jump_bad (by omega) (by omega) (by omega) (by omega)) h38
      · skip
        refine c_skip ?_
        refine q_then ?_
        refine c_env [(0, .int .i64 ((m : Nat) : Int)), (1, .int .i64 to), (6, .bool false), (8, .slice (some ⟨b27, 0, none⟩) m m)] ⟨rfl, rfl, rfl, rfl, trivial⟩ ?_
        refine c_seq ?_
        refine c_reg ?_
        refine s_val rfl rfl (r_mv rfl rfl) ?_
        refine sc (pMay_ok (.slice (some ⟨b27, 0, none⟩) m m) ((List.replicate m (⟨0, 0, ⟨#[]⟩⟩ : Ins)).set (m / 2) (⟨19, to, ⟨#[]⟩⟩ : Ins))) H (lA 0 rfl (fun F h => rowF_rsl (i := 0) h (by first | (simp; done) | exact List.take_of_length_le (by simp)) (by simp) (by simp) (by omega) (by simp)) l0) rfl rfl (e_fn kn71 rfl rfl) ?_
        rintro _ _ w ⟨rfl, rfl⟩ H
        refine s_val rfl rfl (r_mv rfl rfl) ?_
        refine s_dec (d := 45) (p := badI ((List.replicate m (⟨0, 0, ⟨#[]⟩⟩ : Ins)).set (m / 2) (⟨19, to, ⟨#[]⟩⟩ : Ins)) < 0) rfl (fun h46 => ?_) (fun h46 => ?_)
        · skip
          refine s_val rfl rfl (r_mv rfl rfl) ?_
          refine sc (ptarg_ok (.slice (some ⟨b27, 0, none⟩) m m) ((List.replicate m (⟨0, 0, ⟨#[]⟩⟩ : Ins)).set (m / 2) (⟨19, to, ⟨#[]⟩⟩ : Ins)) (by first | omega | decide | (simp; omega))) H (lA 0 rfl (fun F h => rowF_rsl (i := 0) h (by first | (simp; done) | exact List.take_of_length_le (by simp)) (by simp) (by simp) (by omega) (by simp)) l0) rfl rfl (e_fn kn68 rfl rfl) ?_
          rintro v47 _ w rfl H
          refine s_val rfl rfl (r_mv rfl rfl) ?_
          refine s_bsl (parts := [(0, .tmp 48)]) (vs := [.int .i64 to]) (cs := [.int .i64 to]) rfl rfl rfl sl22 zr3 rfl (by decide) (by decide) rfl rfl H (fun b48 w H => ?_)
          refine sc (sameInts_ok v47 (.slice (some ⟨b48, 0, none⟩) 1 1) (targI ((List.replicate m (⟨0, 0, ⟨#[]⟩⟩ : Ins)).set (m / 2) (⟨19, to, ⟨#[]⟩⟩ : Ins))) [to]) H (lA 1 rfl own_rd (lA 0 rfl (fun F h => blk_rsl h rfl (by decide) (RepsR.flat_eq.2 rfl)) l0)) rfl rfl (e_fn kn38 rfl rfl) ?_
          rintro _ _ w ⟨rfl, rfl⟩ H
          refine s_val rfl rfl (r_pickT rfl rfl rfl) ?_
          refine s_val rfl rfl (r_mv rfl rfl) ?_
          refine s_dec (d := 52) (p := (targI ((List.replicate m (⟨0, 0, ⟨#[]⟩⟩ : Ins)).set (m / 2) (⟨19, to, ⟨#[]⟩⟩ : Ins))) = [to]) rfl (fun h49 => ?_) (fun h49 => ?_)
          · skip
            refine s_val rfl rfl (r_mv rfl rfl) ?_
            refine s_val rfl rfl (r_add (z := ((41 + m : Nat) : Int)) rfl rfl rfl (by rw [w64 (by omega) (by omega)]; omega)) ?_
            refine s_mkF (m := 41 + m) (c := 41 + m) (a0 := (⟨0, 0, ⟨#[]⟩⟩ : Ins)) (enc := encIns) rfl rfl rfl sl79 zr86 rfl (by decide) hlIns rfl rfl (by omega) (by omega) (by omega) H (fun b50 w H => ?_)
            refine sc (pbad_ok (.slice (some ⟨b50, 0, none⟩) (41 + m) (41 + m)) (List.replicate (41 + m) (⟨0, 0, ⟨#[]⟩⟩ : Ins))) H (lA 0 rfl (fun F h => rowF_rsl (i := 0) h (by first | (simp; done) | exact List.take_of_length_le (by simp)) (by simp) (by simp) (by omega) (by simp)) l0) rfl rfl (e_fn kn69 rfl rfl) ?_
            rintro _ _ w ⟨rfl, rfl⟩ H
            refine s_val rfl rfl (r_eq rfl rfl rfl) ?_
            refine s_val rfl rfl (r_pickT rfl rfl rfl) ?_
            refine s_val rfl rfl (r_mv rfl rfl) ?_
            refine s_dec (d := 59) (p := (badI (List.replicate (41 + m) (⟨0, 0, ⟨#[]⟩⟩ : Ins))) = 40) rfl (fun h51 => ?_) (fun h51 => ?_)
            · skip
              refine sc (awake5_ok ) H l0 rfl rfl (e_fn kn66 rfl rfl) ?_
              rintro _ _ w ⟨rfl, rfl⟩ H
              refine s_val rfl rfl (r_pickT rfl rfl rfl) ?_
              refine s_val rfl rfl (r_as rfl rfl) ?_
              refine s_nil ?_
              refine q_then ?_
              replace H : Hd _ _ _ [rowF encIns b50 86 (List.replicate (41 + m) (⟨0, 0, ⟨#[]⟩⟩ : Ins)), blk b48 [.int .i64 to] 3, osl (kInt .i64) v47 (targI ((List.replicate m (⟨0, 0, ⟨#[]⟩⟩ : Ins)).set (m / 2) (⟨19, to, ⟨#[]⟩⟩ : Ins))), rowF encIns b27 86 ((List.replicate m (⟨0, 0, ⟨#[]⟩⟩ : Ins)).set (m / 2) (⟨19, to, ⟨#[]⟩⟩ : Ins))] [] := H
              refine c_env [(6, .bool true)] ⟨rfl, trivial⟩ ?_
              refine c_ret ?_
              refine q_ret1 rfl rfl ?_
              replace H := H.keep 0
              exact fin ⟨rfl, rfl⟩ H
            · exact absurd (rep_bad (by omega)) h51
          · exact absurd (jump_targ (by omega) (by omega) (by omega) (by omega)) h49
        · exact absurd (jump_may (by omega) (by omega) (by omega) (by omega)) h46

end Go.Proofs.Ytnaaahpmnhoabaa.X
