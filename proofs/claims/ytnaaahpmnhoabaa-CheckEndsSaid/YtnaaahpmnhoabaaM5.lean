/- The walks of the statements on windows. -/
import Derived.Test.YtnaaahpmnhoabaaM4
import Derived.Test.YtnaaahpmnhoabaaM1
set_option linter.unusedVariables false
set_option linter.unusedSimpArgs false
namespace Go.Proofs.Ytnaaahpmnhoabaa.X
open Go
set_option maxHeartbeats 1000000 in
theorem overInts_ok (v : Value) (xs : List Int) (hb : xs.length ≤ 1000000) :
    Cn Try.prog 44 [v] [osl (kInt .i64) v xs] [] (fun _ Bs => Bs = []) := by
  intro w0 F0 H
  obtain ⟨A1, c2, rfl, hc3, hm4, hp5⟩ := H.fA 0 rfl
  refine enter (args := [.slice A1 xs.length c2]) Try.func44 rfl rfl (Nat.le_of_ble_eq_true rfl) ?_
  refine c_seq ?_
  refine c_seq ?_
  refine c_reg ?_
  refine s_val rfl rfl (r_as rfl rfl) ?_
  refine s_nil ?_
  refine q_then ?_
  replace H : Hd _ _ _ [osl (kInt .i64) (.slice A1 xs.length c2) xs] [] := H
  refine c_env [(0, .slice A1 xs.length c2), (2, .int .i64 0)] ⟨rfl, rfl, trivial⟩ ?_
  refine c_block ?_
  refine c_loop (σ := Nat × List Int) (fun (k, ys) => [(0, .slice A1 xs.length c2), (2, .int .i64 ((k : Nat) : Int))]) (fun (k, ys) w => (Hd w0 F0 w [osl (kInt .i64) (.slice A1 xs.length c2) ys] []) ∧ (k ≤ xs.length) ∧ (ys.length = xs.length)) (fun (k, ys) => xs.length - k) (0, xs) ⟨rfl, rfl, trivial⟩ ⟨H, by omega, rfl⟩ ?_
  rintro ⟨k, ys⟩ w ⟨H, hk, hl⟩
  refine c_seq ?_
  refine c_seq ?_
  refine c_reg ?_
  refine s_val rfl rfl (r_mv rfl rfl) ?_
  refine s_val rfl rfl (r_mv rfl rfl) ?_
  refine s_val rfl rfl (r_lenL rfl un22 rfl) ?_
  refine s_val rfl rfl (r_lt rfl rfl rfl) ?_
  refine s_nil ?_
  refine q_then ?_
  refine c_env [(0, .slice A1 xs.length c2), (2, .int .i64 ((k : Nat) : Int)), (6, .bool (decide (((k : Nat) : Int) < ((xs.length : Nat) : Int))))] ⟨rfl, rfl, rfl, trivial⟩ ?_
  refine c_dec (p := ((k : Nat) : Int) < ((xs.length : Nat) : Int)) rfl (fun h6 => ?_) (fun h6 => ?_)
  · skip
    refine c_skip ?_
    refine q_then ?_
    refine c_env [(0, .slice A1 xs.length c2), (2, .int .i64 ((k : Nat) : Int))] ⟨rfl, rfl, trivial⟩ ?_
    refine c_seq ?_
    refine c_block ?_
    refine c_reg ?_
    refine s_val rfl rfl (r_mv rfl rfl) ?_
    refine s_val rfl rfl (r_mv rfl rfl) ?_
    obtain ⟨x7, hx8⟩ : ∃ z9, ys[k]? = some z9 := ⟨_, List.getElem?_eq_getElem (show k < ys.length by omega)⟩
    have th9 := H.thA 0 rfl hx8
    refine s_val rfl rfl (r_iaE (p := oOf A1 + k * 1) rfl sl22 rfl rfl (by omega) (by omega) th9 rfl) ?_
    refine s_stO (i := k) (a := -999) rfl rfl rfl ty3 rfl rfl rfl H (by omega) rfl (fun w H => ?_)
    refine s_nil ?_
    refine q_blockN ?_
    refine q_then ?_
    replace H : Hd _ _ _ [osl (kInt .i64) (.slice A1 xs.length c2) (ys.set k (-999))] [] := H
    refine c_env [(0, .slice A1 xs.length c2), (2, .int .i64 ((k : Nat) : Int))] ⟨rfl, rfl, trivial⟩ ?_
    refine c_reg ?_
    refine s_val rfl rfl (r_mv rfl rfl) ?_
    refine s_val rfl rfl (r_add (z := ((k + 1 : Nat) : Int)) rfl rfl rfl (by rw [w64 (by omega) (by omega)]; omega)) ?_
    refine s_val rfl rfl (r_as rfl rfl) ?_
    refine s_nil ?_
    have hl2 : (ys.set k (-999 : Int)).length = xs.length := by rw [List.length_set]; exact hl
    exact q_round (s := (k, ys)) (k + 1, ys.set k (-999 : Int)) ⟨rfl, rfl, trivial⟩ ⟨H, by omega, hl2⟩ (by (try dsimp only); omega)
  · skip
    refine c_exit ?_
    refine q_thenE ?_
    refine q_thenE ?_
    refine q_blockE ?_
    refine q_then ?_
    refine c_env [(0, .slice A1 xs.length c2)] ⟨rfl, trivial⟩ ?_
    refine c_reg ?_
    refine s_val rfl rfl (r_mv rfl rfl) ?_
    refine s_bsl (parts := [(0, .const (.int .i64 (-999)))]) (vs := [.int .i64 (-999)]) (cs := [.int .i64 (-999)]) rfl rfl rfl sl22 zr3 rfl (by decide) (by decide) rfl rfl H (fun b10 w H => ?_)
    replace H := H.pick 1 rfl
    refine s_appF (xs := ys) (ys := [-999]) rfl rfl rfl sl22 zr3 rfl (by decide) rfl rfl H (by omega) (fun F hA hR => blk_rsl (hA _ (List.mem_of_getElem? (i := 0) rfl)) rfl (by decide) (RepsR.flat_eq.2 rfl)) (fun v11 w H => ?_)
    refine s_nil ?_
    refine q_end rfl ?_
    replace H := H.keep 0
    exact fin rfl H

set_option maxHeartbeats 1000000 in
theorem awake17_ok  :
    Cn Try.prog 31 [] [] [] (fun v Bs => v = .bool true ∧ Bs = []) := by
  intro w0 F0 H
  refine enter (args := []) Try.func31 rfl rfl (Nat.le_of_ble_eq_true rfl) ?_
  refine c_seq ?_
  refine c_reg ?_
  refine s_val rfl rfl (r_as rfl rfl) ?_
  refine s_nil ?_
  refine q_then ?_
  refine c_env [(0, .bool false)] ⟨rfl, trivial⟩ ?_
  refine c_seq ?_
  refine c_reg ?_
  refine sc (wNew_ok 5 2 (by omega)) H l0 rfl rfl (e_fn kn32 rfl rfl) ?_
  rintro _ _ w ⟨b1, rfl, rfl⟩ H
  refine s_val rfl rfl (r_mv rfl rfl) ?_
  refine s_val rfl rfl (r_ex rfl rfl rfl) ?_
  refine s_val rfl rfl (r_ex rfl rfl rfl) ?_
  refine s_val rfl rfl (r_as rfl rfl) ?_
  refine s_val rfl rfl (r_as rfl rfl) ?_
  refine s_nil ?_
  refine q_then ?_
  replace H : Hd _ _ _ [blk b1 [.int .i64 5, .int .i64 2, .int .i64 0, .int .i64 0] 98] [] := H
  refine c_env [(0, .bool false), (1, .pointer (some ⟨b1, 0, none⟩)), (2, .int .i64 0)] ⟨rfl, rfl, rfl, trivial⟩ ?_
  refine c_seq ?_
  refine c_seq ?_
  refine c_reg ?_
  refine s_val rfl rfl (r_mv rfl rfl) ?_
  refine s_val rfl rfl (r_ne rfl rfl rfl) ?_
  refine s_val rfl rfl (r_mv rfl rfl) ?_
  refine s_val rfl rfl (r_mv rfl rfl) ?_
  refine s_val rfl rfl (r_peq rfl un32 rfl rfl) ?_
  refine s_val rfl rfl (r_pickF rfl rfl rfl) ?_
  refine s_nil ?_
  refine q_then ?_
  refine c_env [(0, .bool false), (1, .pointer (some ⟨b1, 0, none⟩)), (16, .bool false)] ⟨rfl, rfl, rfl, trivial⟩ ?_
  refine c_no rfl ?_
  refine c_skip ?_
  refine q_then ?_
  refine c_env [(0, .bool false), (1, .pointer (some ⟨b1, 0, none⟩))] ⟨rfl, rfl, trivial⟩ ?_
  refine c_seq ?_
  refine c_reg ?_
  refine s_val rfl rfl (r_mv rfl rfl) ?_
  refine sc (wOpen_ok b1 5 2 0 0 (by first | omega | decide) (by first | omega | decide)) H (lA 0 rfl (fun _ h => h) l0) rfl rfl (e_fn kn37 rfl rfl) ?_
  rintro v2 _ w rfl H
  refine s_val rfl rfl (r_as rfl rfl) ?_
  refine s_nil ?_
  refine q_then ?_
  replace H : Hd _ _ _ [osl (kInt .i64) v2 (openL 5 2 0), blk b1 [.int .i64 5, .int .i64 2, .int .i64 0, .int .i64 0] 98] [] := H
  refine c_env [(0, .bool false), (1, .pointer (some ⟨b1, 0, none⟩)), (3, v2)] ⟨rfl, rfl, rfl, trivial⟩ ?_
  refine c_seq ?_
  refine c_reg ?_
  refine s_val rfl rfl (r_mv rfl rfl) ?_
  replace H := H.pick 1 rfl
  replace H : Hd _ _ _ [blk b1 [.int .i64 5, .int .i64 2, .int .i64 0, .int .i64 0] 98, osl (kInt .i64) v2 (openL 5 2 0)] [] := H
  refine sc (wAck_ok b1 5 2 0 0 1 3) H l0 rfl rfl (e_fn kn35 rfl rfl) ?_
  rintro _ _ w ⟨rfl, rfl⟩ H
  refine s_val rfl rfl (r_mv rfl rfl) ?_
  replace H : Hd _ _ _ [blk b1 [.int .i64 5, .int .i64 2, .int .i64 (ackE 5 0 0 1 3), .int .i64 (ackX 5 0 0 1 3)] 98, osl (kInt .i64) v2 (openL 5 2 0)] [] := H
  refine sc (wAck_ok b1 5 2 (ackE 5 0 0 1 3) (ackX 5 0 0 1 3) 1 2) H l0 rfl rfl (e_fn kn35 rfl rfl) ?_
  rintro _ _ w ⟨rfl, rfl⟩ H
  refine s_val rfl rfl (r_mv rfl rfl) ?_
  replace H : Hd _ _ _ [blk b1 [.int .i64 5, .int .i64 2, .int .i64 (ackE 5 (ackE 5 0 0 1 3) (ackX 5 0 0 1 3) 1 2), .int .i64 (ackX 5 (ackE 5 0 0 1 3) (ackX 5 0 0 1 3) 1 2)] 98, osl (kInt .i64) v2 (openL 5 2 0)] [] := H
  refine sc (wAck_ok b1 5 2 (ackE 5 (ackE 5 0 0 1 3) (ackX 5 0 0 1 3) 1 2) (ackX 5 (ackE 5 0 0 1 3) (ackX 5 0 0 1 3) 1 2) 2 0) H l0 rfl rfl (e_fn kn35 rfl rfl) ?_
  rintro _ _ w ⟨rfl, rfl⟩ H
  refine s_val rfl rfl (r_as rfl rfl) ?_
  refine s_val rfl rfl (r_as rfl rfl) ?_
  refine s_val rfl rfl (r_as rfl rfl) ?_
  refine s_nil ?_
  refine q_then ?_
  replace H : Hd _ _ _ [blk b1 [.int .i64 5, .int .i64 2, .int .i64 (ackE 5 (ackE 5 (ackE 5 0 0 1 3) (ackX 5 0 0 1 3) 1 2) (ackX 5 (ackE 5 0 0 1 3) (ackX 5 0 0 1 3) 1 2) 2 0), .int .i64 (ackX 5 (ackE 5 (ackE 5 0 0 1 3) (ackX 5 0 0 1 3) 1 2) (ackX 5 (ackE 5 0 0 1 3) (ackX 5 0 0 1 3) 1 2) 2 0)] 98, osl (kInt .i64) v2 (openL 5 2 0)] [] := H
  refine c_env [(0, .bool false), (1, .pointer (some ⟨b1, 0, none⟩)), (3, v2), (4, .bool (ackB 5 0 0 1 3)), (5, .bool (ackB 5 (ackE 5 0 0 1 3) (ackX 5 0 0 1 3) 1 2)), (6, .bool (ackB 5 (ackE 5 (ackE 5 0 0 1 3) (ackX 5 0 0 1 3) 1 2) (ackX 5 (ackE 5 0 0 1 3) (ackX 5 0 0 1 3) 1 2) 2 0))] ⟨rfl, rfl, rfl, rfl, rfl, rfl, trivial⟩ ?_
  refine c_seq ?_
  refine c_reg ?_
  refine s_val rfl rfl (r_mv rfl rfl) ?_
  refine s_bsl (parts := [(0, .const (.int .i64 0)), (1, .const (.int .i64 1))]) (vs := [.int .i64 0, .int .i64 1]) (cs := [.int .i64 0, .int .i64 1]) rfl rfl rfl sl22 zr3 rfl (by decide) (by decide) rfl rfl H (fun b3 w H => ?_)
  refine sc (sameInts_ok v2 (.slice (some ⟨b3, 0, none⟩) 2 2) (openL 5 2 0) [0, 1]) H (lA 2 rfl own_rd (lA 0 rfl (fun F h => blk_rsl h rfl (by decide) (RepsR.flat_eq.2 rfl)) l0)) rfl rfl (e_fn kn38 rfl rfl) ?_
  rintro _ _ w ⟨rfl, rfl⟩ H
  refine s_val rfl rfl (r_mv rfl rfl) ?_
  refine s_dec (d := 28) (p := (openL 5 2 0) = [0, 1]) rfl (fun h4 => ?_) (fun h4 => ?_)
  · skip
    refine s_val rfl rfl (r_mv rfl rfl) ?_
    refine s_val rfl rfl (r_pickT rfl rfl rfl) ?_
    refine s_val rfl rfl (r_mv rfl rfl) ?_
    refine s_boo (d := 31) (b := ackB 5 0 0 1 3) rfl (fun h5 => ?_) (fun h5 => ?_)
    · skip
      refine s_val rfl rfl (r_mv rfl rfl) ?_
      refine s_val rfl rfl (r_not rfl rfl rfl) ?_
      refine s_val rfl rfl (r_pickT rfl rfl rfl) ?_
      refine s_val rfl rfl (r_mv rfl rfl) ?_
      refine s_boo (d := 35) (b := !(ackB 5 (ackE 5 0 0 1 3) (ackX 5 0 0 1 3) 1 2)) rfl (fun h6 => ?_) (fun h6 => ?_)
      · skip
        refine s_val rfl rfl (r_mv rfl rfl) ?_
        refine s_val rfl rfl (r_pickT rfl rfl rfl) ?_
        refine s_val rfl rfl (r_mv rfl rfl) ?_
        refine s_boo (d := 38) (b := ackB 5 (ackE 5 (ackE 5 0 0 1 3) (ackX 5 0 0 1 3) 1 2) (ackX 5 (ackE 5 0 0 1 3) (ackX 5 0 0 1 3) 1 2) 2 0) rfl (fun h7 => ?_) (fun h7 => ?_)
        · skip
          refine s_val rfl rfl (r_mv rfl rfl) ?_
          replace H : Hd _ _ _ [blk b3 [.int .i64 0, .int .i64 1] 3, blk b1 [.int .i64 5, .int .i64 2, .int .i64 (ackE 5 (ackE 5 (ackE 5 0 0 1 3) (ackX 5 0 0 1 3) 1 2) (ackX 5 (ackE 5 0 0 1 3) (ackX 5 0 0 1 3) 1 2) 2 0), .int .i64 (ackX 5 (ackE 5 (ackE 5 0 0 1 3) (ackX 5 0 0 1 3) 1 2) (ackX 5 (ackE 5 0 0 1 3) (ackX 5 0 0 1 3) 1 2) 2 0)] 98, osl (kInt .i64) v2 (openL 5 2 0)] [] := H
          refine sc (wOpen_ok b1 5 2 (ackE 5 (ackE 5 (ackE 5 0 0 1 3) (ackX 5 0 0 1 3) 1 2) (ackX 5 (ackE 5 0 0 1 3) (ackX 5 0 0 1 3) 1 2) 2 0) (ackX 5 (ackE 5 (ackE 5 0 0 1 3) (ackX 5 0 0 1 3) 1 2) (ackX 5 (ackE 5 0 0 1 3) (ackX 5 0 0 1 3) 1 2) 2 0) (by first | omega | decide) (by first | omega | decide)) H (lA 1 rfl (fun _ h => h) l0) rfl rfl (e_fn kn37 rfl rfl) ?_
          rintro v8 _ w rfl H
          refine s_bsl (parts := [(0, .const (.int .i64 0)), (1, .const (.int .i64 1))]) (vs := [.int .i64 0, .int .i64 1]) (cs := [.int .i64 0, .int .i64 1]) rfl rfl rfl sl22 zr3 rfl (by decide) (by decide) rfl rfl H (fun b9 w H => ?_)
          refine sc (sameInts_ok v8 (.slice (some ⟨b9, 0, none⟩) 2 2) (openL 5 2 (ackX 5 (ackE 5 (ackE 5 0 0 1 3) (ackX 5 0 0 1 3) 1 2) (ackX 5 (ackE 5 0 0 1 3) (ackX 5 0 0 1 3) 1 2) 2 0)) [0, 1]) H (lA 1 rfl own_rd (lA 0 rfl (fun F h => blk_rsl h rfl (by decide) (RepsR.flat_eq.2 rfl)) l0)) rfl rfl (e_fn kn38 rfl rfl) ?_
          rintro _ _ w ⟨rfl, rfl⟩ H
          refine s_val rfl rfl (r_pickT rfl rfl rfl) ?_
          refine s_val rfl rfl (r_mv rfl rfl) ?_
          refine s_dec (d := 44) (p := (openL 5 2 (ackX 5 (ackE 5 (ackE 5 0 0 1 3) (ackX 5 0 0 1 3) 1 2) (ackX 5 (ackE 5 0 0 1 3) (ackX 5 0 0 1 3) 1 2) 2 0)) = [0, 1]) rfl (fun h10 => ?_) (fun h10 => ?_)
          · skip
            refine s_val rfl rfl (r_mv rfl rfl) ?_
            replace H : Hd _ _ _ [blk b9 [.int .i64 0, .int .i64 1] 3, osl (kInt .i64) v8 (openL 5 2 (ackX 5 (ackE 5 (ackE 5 0 0 1 3) (ackX 5 0 0 1 3) 1 2) (ackX 5 (ackE 5 0 0 1 3) (ackX 5 0 0 1 3) 1 2) 2 0)), blk b3 [.int .i64 0, .int .i64 1] 3, blk b1 [.int .i64 5, .int .i64 2, .int .i64 (ackE 5 (ackE 5 (ackE 5 0 0 1 3) (ackX 5 0 0 1 3) 1 2) (ackX 5 (ackE 5 0 0 1 3) (ackX 5 0 0 1 3) 1 2) 2 0), .int .i64 (ackX 5 (ackE 5 (ackE 5 0 0 1 3) (ackX 5 0 0 1 3) 1 2) (ackX 5 (ackE 5 0 0 1 3) (ackX 5 0 0 1 3) 1 2) 2 0)] 98, osl (kInt .i64) v2 (openL 5 2 0)] [] := H
            refine sc (wEpoch_ok b1 5 2 (ackE 5 (ackE 5 (ackE 5 0 0 1 3) (ackX 5 0 0 1 3) 1 2) (ackX 5 (ackE 5 0 0 1 3) (ackX 5 0 0 1 3) 1 2) 2 0) (ackX 5 (ackE 5 (ackE 5 0 0 1 3) (ackX 5 0 0 1 3) 1 2) (ackX 5 (ackE 5 0 0 1 3) (ackX 5 0 0 1 3) 1 2) 2 0)) H (lA 3 rfl (fun _ h => h) l0) rfl rfl (e_fn kn41 rfl rfl) ?_
            rintro _ _ w ⟨rfl, rfl⟩ H
            refine s_val rfl rfl (r_eq rfl rfl rfl) ?_
            refine s_val rfl rfl (r_pickT rfl rfl rfl) ?_
            refine s_val rfl rfl (r_as rfl rfl) ?_
            refine s_nil ?_
            refine q_then ?_
            replace H : Hd _ _ _ [blk b9 [.int .i64 0, .int .i64 1] 3, osl (kInt .i64) v8 (openL 5 2 (ackX 5 (ackE 5 (ackE 5 0 0 1 3) (ackX 5 0 0 1 3) 1 2) (ackX 5 (ackE 5 0 0 1 3) (ackX 5 0 0 1 3) 1 2) 2 0)), blk b3 [.int .i64 0, .int .i64 1] 3, blk b1 [.int .i64 5, .int .i64 2, .int .i64 (ackE 5 (ackE 5 (ackE 5 0 0 1 3) (ackX 5 0 0 1 3) 1 2) (ackX 5 (ackE 5 0 0 1 3) (ackX 5 0 0 1 3) 1 2) 2 0), .int .i64 (ackX 5 (ackE 5 (ackE 5 0 0 1 3) (ackX 5 0 0 1 3) 1 2) (ackX 5 (ackE 5 0 0 1 3) (ackX 5 0 0 1 3) 1 2) 2 0)] 98, osl (kInt .i64) v2 (openL 5 2 0)] [] := H
            refine c_env [(0, .bool (decide ((ackE 5 (ackE 5 (ackE 5 0 0 1 3) (ackX 5 0 0 1 3) 1 2) (ackX 5 (ackE 5 0 0 1 3) (ackX 5 0 0 1 3) 1 2) 2 0) = 2)))] ⟨rfl, trivial⟩ ?_
            refine c_ret ?_
            refine q_ret1 rfl rfl ?_
            replace H := H.keep 0
            exact fin ⟨rfl, rfl⟩ H
          · exact absurd h10 (by decide)
        · exact absurd h7 (by decide)
      · exact absurd h6 (by decide)
    · exact absurd h5 (by decide)
  · exact absurd h4 (by decide)

set_option maxHeartbeats 1000000 in
theorem windowScript_ok (count : Int) (wcount : In64 count) (size : Int) (wsize : In64 size) (vacts : Value) (acts : List Act2) (wacts : (∀ p ∈ acts, In64 p.x ∧ In64 p.y) ∧ acts.length ≤ 9223372036854775807) :
    Cn Try.prog 6 [.int .i64 count, .int .i64 size, vacts] [] [rsl kAct2 vacts acts] (fun v Bs => v = .bool true ∧ Bs = []) := by
  intro w0 F0 H
  obtain ⟨A1, c2, rfl, hc3, hm4, hp5⟩ := H.fR 0 rfl
  unfold In64 at wcount
  unfold In64 at wsize
  refine enter (args := [.int .i64 count, .int .i64 size, .slice A1 acts.length c2]) Try.func6 rfl rfl (Nat.le_of_ble_eq_true rfl) ?_
  refine c_seq ?_
  refine c_reg ?_
  refine s_val rfl rfl (r_as rfl rfl) ?_
  refine s_nil ?_
  refine q_then ?_
  replace H : Hd _ _ _ [] [rsl kAct2 (.slice A1 acts.length c2) acts] := H
  refine c_env [(0, .int .i64 count), (1, .int .i64 size), (2, .slice A1 acts.length c2), (6, .bool false)] ⟨rfl, rfl, rfl, rfl, trivial⟩ ?_
  refine c_seq ?_
  refine c_seq ?_
  refine c_reg ?_
  refine s_val rfl rfl (r_mv rfl rfl) ?_
  refine s_val rfl rfl (r_lenL rfl un31 rfl) ?_
  refine s_val rfl rfl (r_gt rfl rfl rfl) ?_
  refine s_nil ?_
  refine q_then ?_
  refine c_env [(0, .int .i64 count), (1, .int .i64 size), (2, .slice A1 acts.length c2), (6, .bool false), (16, .bool (decide ((100 : Int) < ((acts.length : Nat) : Int))))] ⟨rfl, rfl, rfl, rfl, rfl, trivial⟩ ?_
  refine c_dec (p := (100 : Int) < ((acts.length : Nat) : Int)) rfl (fun h6 => ?_) (fun h6 => ?_)
  · skip
    refine c_seq ?_
    refine c_reg ?_
    refine sc (awake17_ok ) H l0 rfl rfl (e_fn kn31 rfl rfl) ?_
    rintro _ _ w ⟨rfl, rfl⟩ H
    refine s_val rfl rfl (r_as rfl rfl) ?_
    refine s_nil ?_
    refine q_then ?_
    refine c_env [(0, .int .i64 count), (1, .int .i64 size), (2, .slice A1 acts.length c2), (6, .bool true)] ⟨rfl, rfl, rfl, rfl, trivial⟩ ?_
    refine c_ret ?_
    refine q_thenR ?_
    refine q_ret1 rfl rfl ?_
    exact fin ⟨rfl, rfl⟩ H
  · skip
    refine c_skip ?_
    refine q_then ?_
    refine c_env [(0, .int .i64 count), (1, .int .i64 size), (2, .slice A1 acts.length c2), (6, .bool false)] ⟨rfl, rfl, rfl, rfl, trivial⟩ ?_
    refine c_seq ?_
    by_cases hcs : 0 ≤ count ∧ count ≤ 40 ∧ 1 ≤ size ∧ size ≤ 4
    · skip
      refine c_reg ?_
      refine s_val rfl rfl (r_mv rfl rfl) ?_
      refine s_val rfl rfl (r_mv rfl rfl) ?_
      refine sc (wNew_ok count size (by omega)) H l0 rfl rfl (e_fn kn32 rfl rfl) ?_
      rintro _ _ w ⟨b7, rfl, rfl⟩ H
      refine s_val rfl rfl (r_mv rfl rfl) ?_
      refine s_val rfl rfl (r_ex rfl rfl rfl) ?_
      refine s_val rfl rfl (r_ex rfl rfl rfl) ?_
      refine s_val rfl rfl (r_as rfl rfl) ?_
      refine s_val rfl rfl (r_as rfl rfl) ?_
      refine s_nil ?_
      refine q_then ?_
      replace H : Hd _ _ _ [blk b7 [.int .i64 count, .int .i64 size, .int .i64 0, .int .i64 0] 98] [rsl kAct2 (.slice A1 acts.length c2) acts] := H
      refine c_env [(0, .int .i64 count), (1, .int .i64 size), (2, .slice A1 acts.length c2), (6, .bool false), (7, .pointer (some ⟨b7, 0, none⟩)), (8, .int .i64 0)] ⟨rfl, rfl, rfl, rfl, rfl, rfl, trivial⟩ ?_
      refine c_seq ?_
      refine c_reg ?_
      refine s_val rfl rfl (r_mv rfl rfl) ?_
      refine s_val rfl rfl (r_mv rfl rfl) ?_
      refine sc (vNew_ok count size (by omega)) H l0 rfl rfl (e_fn kn33 rfl rfl) ?_
      rintro _ _ w ⟨b8, rfl, rfl⟩ H
      refine s_val rfl rfl (r_mv rfl rfl) ?_
      refine s_val rfl rfl (r_ex rfl rfl rfl) ?_
      refine s_val rfl rfl (r_ex rfl rfl rfl) ?_
      refine s_val rfl rfl (r_as rfl rfl) ?_
      refine s_val rfl rfl (r_as rfl rfl) ?_
      refine s_nil ?_
      refine q_then ?_
      replace H : Hd _ _ _ [blk b8 [.int .i64 count, .int .i64 size, .int .i64 0, .int .i64 0] 46, blk b7 [.int .i64 count, .int .i64 size, .int .i64 0, .int .i64 0] 98] [rsl kAct2 (.slice A1 acts.length c2) acts] := H
      refine c_env [(2, .slice A1 acts.length c2), (6, .bool false), (7, .pointer (some ⟨b7, 0, none⟩)), (8, .int .i64 0), (9, .pointer (some ⟨b8, 0, none⟩)), (10, .int .i64 0)] ⟨rfl, rfl, rfl, rfl, rfl, rfl, trivial⟩ ?_
      refine c_seq ?_
      refine c_seq ?_
      refine c_reg ?_
      refine s_val rfl rfl (r_mv rfl rfl) ?_
      refine sc (num_ok 0) H l0 rfl rfl (e_fn kn34 rfl rfl) ?_
      rintro _ _ w ⟨rfl, rfl⟩ H
      refine s_val rfl rfl (r_mv rfl rfl) ?_
      refine s_val rfl rfl (r_ne rfl rfl rfl) ?_
      refine s_val rfl rfl (r_mv rfl rfl) ?_
      refine s_val rfl rfl (r_mv rfl rfl) ?_
      refine s_val rfl rfl (r_peq rfl un32 rfl rfl) ?_
      refine s_val rfl rfl (r_mv rfl rfl) ?_
      refine s_val rfl rfl (r_peq rfl un36 rfl rfl) ?_
      refine s_val rfl rfl (r_bne rfl un4 rfl rfl) ?_
      refine s_val rfl rfl (r_pickF rfl rfl rfl) ?_
      refine s_nil ?_
      refine q_then ?_
      refine c_env [(2, .slice A1 acts.length c2), (6, .bool false), (7, .pointer (some ⟨b7, 0, none⟩)), (9, .pointer (some ⟨b8, 0, none⟩)), (40, .bool false)] ⟨rfl, rfl, rfl, rfl, rfl, trivial⟩ ?_
      refine c_no rfl ?_
      refine c_skip ?_
      refine q_then ?_
      refine c_env [(2, .slice A1 acts.length c2), (6, .bool false), (7, .pointer (some ⟨b7, 0, none⟩)), (9, .pointer (some ⟨b8, 0, none⟩))] ⟨rfl, rfl, rfl, rfl, trivial⟩ ?_
      refine c_seq ?_
      refine c_seq ?_
      refine c_reg ?_
      refine s_val rfl rfl (r_mv rfl rfl) ?_
      refine s_val rfl rfl (r_peq rfl un36 rfl rfl) ?_
      refine s_nil ?_
      refine q_then ?_
      refine c_env [(2, .slice A1 acts.length c2), (6, .bool false), (7, .pointer (some ⟨b7, 0, none⟩)), (9, .pointer (some ⟨b8, 0, none⟩)), (42, .bool false)] ⟨rfl, rfl, rfl, rfl, rfl, trivial⟩ ?_
      refine c_no rfl ?_
      refine c_skip ?_
      refine q_then ?_
      refine c_env [(2, .slice A1 acts.length c2), (6, .bool false), (7, .pointer (some ⟨b7, 0, none⟩)), (9, .pointer (some ⟨b8, 0, none⟩))] ⟨rfl, rfl, rfl, rfl, trivial⟩ ?_
      refine c_seq ?_
      refine c_seq ?_
      refine c_reg ?_
      refine s_val rfl rfl (r_as rfl rfl) ?_
      refine s_nil ?_
      refine q_then ?_
      refine c_env [(2, .slice A1 acts.length c2), (6, .bool false), (7, .pointer (some ⟨b7, 0, none⟩)), (9, .pointer (some ⟨b8, 0, none⟩)), (11, .int .i64 0)] ⟨rfl, rfl, rfl, rfl, rfl, trivial⟩ ?_
      refine c_block ?_
      replace H := H.pick 1 rfl
      refine c_loop (σ := Nat × Int × Int) (fun (k, e, x) => [(2, .slice A1 acts.length c2), (7, .pointer (some ⟨b7, 0, none⟩)), (9, .pointer (some ⟨b8, 0, none⟩)), (11, .int .i64 ((k : Nat) : Int))]) (fun (k, e, x) w => (Hd w0 F0 w [blk b7 [.int .i64 count, .int .i64 size, .int .i64 e, .int .i64 x] 98, blk b8 [.int .i64 count, .int .i64 size, .int .i64 e, .int .i64 x] 46] [rsl kAct2 (.slice A1 acts.length c2) acts]) ∧ (k ≤ acts.length) ∧ ((∀ p ∈ acts, In64 p.x ∧ In64 p.y) ∧ acts.length ≤ 9223372036854775807) ∧ (0 ≤ count ∧ count ≤ 40 ∧ 1 ≤ size ∧ size ≤ 4) ∧ (0 ≤ x ∧ x ≤ count) ∧ (0 ≤ e ∧ e ≤ 9223372036854775807)) (fun (k, e, x) => acts.length - k) (0, 0, 0) ⟨rfl, rfl, rfl, rfl, trivial⟩ ⟨H, by omega, wacts, hcs, by omega, by omega⟩ ?_
      rintro ⟨k, e, x⟩ w ⟨H, hk, wacts, hcs, hx, he⟩
      refine c_seq ?_
      refine c_seq ?_
      refine c_reg ?_
      refine s_val rfl rfl (r_mv rfl rfl) ?_
      refine s_val rfl rfl (r_mv rfl rfl) ?_
      refine s_val rfl rfl (r_lenL rfl un31 rfl) ?_
      refine s_val rfl rfl (r_lt rfl rfl rfl) ?_
      refine s_nil ?_
      refine q_then ?_
      refine c_env [(2, .slice A1 acts.length c2), (7, .pointer (some ⟨b7, 0, none⟩)), (9, .pointer (some ⟨b8, 0, none⟩)), (11, .int .i64 ((k : Nat) : Int)), (47, .bool (decide (((k : Nat) : Int) < ((acts.length : Nat) : Int))))] ⟨rfl, rfl, rfl, rfl, rfl, trivial⟩ ?_
      refine c_dec (p := ((k : Nat) : Int) < ((acts.length : Nat) : Int)) rfl (fun h9 => ?_) (fun h9 => ?_)
      · skip
        refine c_skip ?_
        refine q_then ?_
        refine c_env [(2, .slice A1 acts.length c2), (7, .pointer (some ⟨b7, 0, none⟩)), (9, .pointer (some ⟨b8, 0, none⟩)), (11, .int .i64 ((k : Nat) : Int))] ⟨rfl, rfl, rfl, rfl, trivial⟩ ?_
        refine c_seq ?_
        refine c_block ?_
        refine c_seq ?_
        refine c_ord (.e 0 (.e 1 (.e 2 (.e 3 (.e 4 (.e 5 (.e 6 (.e 7 (.e 8 (.e 9 (.e 10 (.e 12 (.e 13 (.e 14 (.e 15 (.e 16 (.e 17 (.e 18 (.e 19 (.e 20 (.e 21 (.e 22 (.m 11 (.m 23 (.e 24 (.e 25 .z)))))))))))))))))))))))))) (fun w => ∃ Ar, Hd w0 F0 w (Ar) [rsl kAct2 (.slice A1 acts.length c2) acts]) mo (by kernel_rfl) (fun w H => ⟨_, H⟩) H (fun w H => ?_)
        refine d_val rfl rfl rfl (fun w ⟨Ar, H⟩ => r_mv rfl rfl) ?_
        refine d_val rfl rfl rfl (fun w ⟨Ar, H⟩ => r_mv rfl rfl) ?_
        refine d_val rfl rfl rfl (fun w ⟨Ar, H⟩ => r_mv rfl rfl) ?_
        obtain ⟨x10, hx11⟩ : ∃ z9, acts[k]? = some z9 := ⟨_, List.getElem?_eq_getElem (show k < acts.length by omega)⟩
        have th12 := H.thR 0 rfl hx11
        refine d_val rfl rfl rfl (fun w ⟨Ar, H⟩ => r_iaE (p := oOf A1 + k * 2) rfl sl31 rfl rfl (by omega) (by omega) th12 rfl) ?_
        refine d_val rfl rfl rfl (fun w ⟨Ar, H⟩ => r_fa rfl fo42_0 rfl) ?_
        refine d_val rfl rfl rfl (fun w ⟨Ar, H⟩ => r_ld rfl ty3 rfl (H.elR 0 rfl hx11 (q := 0) rfl rfl)) ?_
        refine d_val rfl rfl rfl (fun w ⟨Ar, H⟩ => r_mv rfl rfl) ?_
        refine d_val rfl rfl rfl (fun w ⟨Ar, H⟩ => r_mv rfl rfl) ?_
        have th13 := H.thR 0 rfl hx11
        refine d_val rfl rfl rfl (fun w ⟨Ar, H⟩ => r_iaE (p := oOf A1 + k * 2) rfl sl31 rfl rfl (by omega) (by omega) th13 rfl) ?_
        refine d_val rfl rfl rfl (fun w ⟨Ar, H⟩ => r_fa rfl fo42_1 rfl) ?_
        refine d_val rfl rfl rfl (fun w ⟨Ar, H⟩ => r_ld rfl ty3 rfl (H.elR 0 rfl hx11 (q := 1) rfl rfl)) ?_
        refine d_val rfl rfl rfl (fun w ⟨Ar, H⟩ => r_mv rfl rfl) ?_
        refine d_val rfl rfl rfl (fun w ⟨Ar, H⟩ => r_mv rfl rfl) ?_
        refine d_val rfl rfl rfl (fun w ⟨Ar, H⟩ => r_mv rfl rfl) ?_
        have th14 := H.thR 0 rfl hx11
        refine d_val rfl rfl rfl (fun w ⟨Ar, H⟩ => r_iaE (p := oOf A1 + k * 2) rfl sl31 rfl rfl (by omega) (by omega) th14 rfl) ?_
        refine d_val rfl rfl rfl (fun w ⟨Ar, H⟩ => r_fa rfl fo42_0 rfl) ?_
        refine d_val rfl rfl rfl (fun w ⟨Ar, H⟩ => r_ld rfl ty3 rfl (H.elR 0 rfl hx11 (q := 0) rfl rfl)) ?_
        refine d_val rfl rfl rfl (fun w ⟨Ar, H⟩ => r_mv rfl rfl) ?_
        refine d_val rfl rfl rfl (fun w ⟨Ar, H⟩ => r_mv rfl rfl) ?_
        have th15 := H.thR 0 rfl hx11
        refine d_val rfl rfl rfl (fun w ⟨Ar, H⟩ => r_iaE (p := oOf A1 + k * 2) rfl sl31 rfl rfl (by omega) (by omega) th15 rfl) ?_
        refine d_val rfl rfl rfl (fun w ⟨Ar, H⟩ => r_fa rfl fo42_1 rfl) ?_
        refine d_val rfl rfl rfl (fun w ⟨Ar, H⟩ => r_ld rfl ty3 rfl (H.elR 0 rfl hx11 (q := 1) rfl rfl)) ?_
        refine d_main rfl ?_
        refine sc (wAck_ok b7 count size e x x10.x x10.y) H l0 rfl rfl (e_fn kn35 rfl rfl) ?_
        rintro _ _ w ⟨rfl, rfl⟩ H
        replace H : Hd _ _ _ [blk b7 [.int .i64 count, .int .i64 size, .int .i64 (ackE count e x x10.x x10.y), .int .i64 (ackX count e x x10.x x10.y)] 98, blk b8 [.int .i64 count, .int .i64 size, .int .i64 e, .int .i64 x] 46] [rsl kAct2 (.slice A1 acts.length c2) acts] := H
        refine d_back ⟨_, H⟩ ?_
        refine d_main rfl ?_
        replace H := H.pick 1 rfl
        replace H : Hd _ _ _ [blk b8 [.int .i64 count, .int .i64 size, .int .i64 e, .int .i64 x] 46, blk b7 [.int .i64 count, .int .i64 size, .int .i64 (ackE count e x x10.x x10.y), .int .i64 (ackX count e x x10.x x10.y)] 98] [rsl kAct2 (.slice A1 acts.length c2) acts] := H
        refine sc (vAck_ok b8 count size e x x10.x x10.y) H l0 rfl rfl (e_fn kn36 rfl rfl) ?_
        rintro _ _ w ⟨rfl, rfl⟩ H
        replace H : Hd _ _ _ [blk b8 [.int .i64 count, .int .i64 size, .int .i64 (ackE count e x x10.x x10.y), .int .i64 (ackX count e x x10.x x10.y)] 46, blk b7 [.int .i64 count, .int .i64 size, .int .i64 (ackE count e x x10.x x10.y), .int .i64 (ackX count e x x10.x x10.y)] 98] [rsl kAct2 (.slice A1 acts.length c2) acts] := H
        refine d_back ⟨_, H⟩ ?_
        refine d_val rfl rfl rfl (fun w ⟨Ar, H⟩ => r_beq rfl un4 rfl rfl) ?_
        refine d_val rfl rfl rfl (fun w ⟨Ar, H⟩ => r_as rfl rfl) ?_
        refine d_nil ?_
        refine q_then ?_
        refine c_env [(2, .slice A1 acts.length c2), (7, .pointer (some ⟨b7, 0, none⟩)), (9, .pointer (some ⟨b8, 0, none⟩)), (11, .int .i64 ((k : Nat) : Int)), (12, .bool (decide ((ackB count e x x10.x x10.y) = (ackB count e x x10.x x10.y))))] ⟨rfl, rfl, rfl, rfl, rfl, trivial⟩ ?_
        refine c_seq ?_
        have hin := ack_in (n := x10.y) hcs.1 hx he.1 he.2 (wacts.1 x10 (List.mem_of_getElem? hx11)).1
        refine c_reg ?_
        refine s_val rfl rfl (r_mv rfl rfl) ?_
        refine sc (wOpen_ok b7 count size (ackE count e x x10.x x10.y) (ackX count e x x10.x x10.y) (by first | omega | decide) (by first | omega | decide)) H (lA 1 rfl (fun _ h => h) l0) rfl rfl (e_fn kn37 rfl rfl) ?_
        rintro v16 _ w rfl H
        refine s_val rfl rfl (r_as rfl rfl) ?_
        refine s_nil ?_
        refine q_then ?_
        replace H : Hd _ _ _ [osl (kInt .i64) v16 (openL count size (ackX count e x x10.x x10.y)), blk b8 [.int .i64 count, .int .i64 size, .int .i64 (ackE count e x x10.x x10.y), .int .i64 (ackX count e x x10.x x10.y)] 46, blk b7 [.int .i64 count, .int .i64 size, .int .i64 (ackE count e x x10.x x10.y), .int .i64 (ackX count e x x10.x x10.y)] 98] [rsl kAct2 (.slice A1 acts.length c2) acts] := H
        refine c_env [(2, .slice A1 acts.length c2), (7, .pointer (some ⟨b7, 0, none⟩)), (9, .pointer (some ⟨b8, 0, none⟩)), (11, .int .i64 ((k : Nat) : Int)), (12, .bool (decide ((ackB count e x x10.x x10.y) = (ackB count e x x10.x x10.y)))), (13, v16)] ⟨rfl, rfl, rfl, rfl, rfl, rfl, trivial⟩ ?_
        refine c_seq ?_
        refine c_seq ?_
        replace H := H.pick 2 rfl
        replace H := H.pick 2 rfl
        replace H := H.pick 2 rfl
        replace H : Hd _ _ _ [osl (kInt .i64) v16 (openL count size (ackX count e x x10.x x10.y)), blk b8 [.int .i64 count, .int .i64 size, .int .i64 (ackE count e x x10.x x10.y), .int .i64 (ackX count e x x10.x x10.y)] 46, blk b7 [.int .i64 count, .int .i64 size, .int .i64 (ackE count e x x10.x x10.y), .int .i64 (ackX count e x x10.x x10.y)] 98] [rsl kAct2 (.slice A1 acts.length c2) acts] := H
        refine c_ord (.e 0 (.e 1 (.e 2 (.e 3 (.e 4 (.m 5 (.m 6 (.e 7 (.e 8 (.e 9 (.e 10 (.e 12 (.e 13 (.e 14 (.e 15 (.m 11 (.e 16 (.e 17 (.e 18 (.e 19 (.e 21 (.e 22 (.e 23 (.e 24 (.m 20 (.e 25 (.e 26 (.e 27 (.e 28 (.e 30 (.m 29 (.m 31 (.e 32 (.e 33 .z)))))))))))))))))))))))))))))))))) (fun w => ∃ Ar, Hd w0 F0 w (osl (kInt .i64) v16 (openL count size (ackX count e x x10.x x10.y)) :: blk b8 [.int .i64 count, .int .i64 size, .int .i64 (ackE count e x x10.x x10.y), .int .i64 (ackX count e x x10.x x10.y)] 46 :: blk b7 [.int .i64 count, .int .i64 size, .int .i64 (ackE count e x x10.x x10.y), .int .i64 (ackX count e x x10.x x10.y)] 98 :: Ar) [rsl kAct2 (.slice A1 acts.length c2) acts]) mo (by kernel_rfl) (fun w H => ⟨_, H⟩) H (fun w H => ?_)
        refine d_val rfl rfl rfl (fun w ⟨Ar, H⟩ => r_mv rfl rfl) ?_
        refine d_val rfl rfl rfl (fun w ⟨Ar, H⟩ => r_notP rfl rfl) ?_
        refine d_val rfl rfl rfl (fun w ⟨Ar, H⟩ => r_mv rfl rfl) ?_
        refine d_dec (d := 79) (p := ¬ ((ackB count e x x10.x x10.y) = (ackB count e x x10.x x10.y))) rfl (fun h17 => ?_) (fun h17 => ?_)
        · exact (h17 rfl).elim
        · skip
          refine d_val rfl rfl rfl (fun w ⟨Ar, H⟩ => r_mv rfl rfl) ?_
          refine d_val rfl rfl rfl (fun w ⟨Ar, H⟩ => r_mv rfl rfl) ?_
          refine d_main rfl ?_
          refine sc (vOpen_ok b8 count size (ackE count e x x10.x x10.y) (ackX count e x x10.x x10.y) (by first | omega | decide) (by first | omega | decide)) H (lA 1 rfl (fun _ h => h) l0) rfl rfl (e_fn kn39 rfl rfl) ?_
          rintro v18 _ w rfl H
          replace H := H.pick 3 rfl
          replace H := H.pick 3 rfl
          replace H := H.pick 3 rfl
          replace H : Hd _ _ _ [osl (kInt .i64) v16 (openL count size (ackX count e x x10.x x10.y)), blk b8 [.int .i64 count, .int .i64 size, .int .i64 (ackE count e x x10.x x10.y), .int .i64 (ackX count e x x10.x x10.y)] 46, blk b7 [.int .i64 count, .int .i64 size, .int .i64 (ackE count e x x10.x x10.y), .int .i64 (ackX count e x x10.x x10.y)] 98, osl (kInt .i64) v18 (openL count size (ackX count e x x10.x x10.y))] [rsl kAct2 (.slice A1 acts.length c2) acts] := H
          refine d_back ⟨_, H⟩ ?_
          refine d_main rfl ?_
          refine sc (sameInts_ok v16 v18 (openL count size (ackX count e x x10.x x10.y)) (openL count size (ackX count e x x10.x x10.y))) H (lA 0 rfl own_rd (lA 3 rfl own_rd l0)) rfl rfl (e_fn kn38 rfl rfl) ?_
          rintro _ _ w ⟨rfl, rfl⟩ H
          replace H := H.pick 2 rfl
          replace H := H.pick 2 rfl
          replace H := H.pick 2 rfl
          replace H : Hd _ _ _ [osl (kInt .i64) v16 (openL count size (ackX count e x x10.x x10.y)), blk b8 [.int .i64 count, .int .i64 size, .int .i64 (ackE count e x x10.x x10.y), .int .i64 (ackX count e x x10.x x10.y)] 46, blk b7 [.int .i64 count, .int .i64 size, .int .i64 (ackE count e x x10.x x10.y), .int .i64 (ackX count e x x10.x x10.y)] 98, osl (kInt .i64) v18 (openL count size (ackX count e x x10.x x10.y))] [rsl kAct2 (.slice A1 acts.length c2) acts] := H
          refine d_back ⟨_, H⟩ ?_
          refine d_val rfl rfl rfl (fun w ⟨Ar, H⟩ => r_notP rfl rfl) ?_
          refine d_val rfl rfl rfl (fun w ⟨Ar, H⟩ => r_pickF rfl rfl rfl) ?_
          refine d_val rfl rfl rfl (fun w ⟨Ar, H⟩ => r_mv rfl rfl) ?_
          refine d_dec (d := 86) (p := ¬ ((openL count size (ackX count e x x10.x x10.y)) = (openL count size (ackX count e x x10.x x10.y)))) rfl (fun h19 => ?_) (fun h19 => ?_)
          · exact (h19 rfl).elim
          · skip
            refine d_val rfl rfl rfl (fun w ⟨Ar, H⟩ => r_mv rfl rfl) ?_
            refine d_val rfl rfl rfl (fun w ⟨Ar, H⟩ => r_mv rfl rfl) ?_
            refine d_val rfl rfl rfl (fun w ⟨Ar, H⟩ => r_nilP rfl rfl) ?_
            refine d_val rfl rfl rfl (fun w ⟨Ar, H⟩ => r_fa rfl fo46_3 rfl) ?_
            refine d_val rfl rfl rfl (fun w ⟨Ar, H⟩ => r_ld rfl ty3 rfl (H.cellI 1 rfl rfl)) ?_
            refine d_main rfl ?_
            refine sc (wNext_ok b7 count size (ackE count e x x10.x x10.y) (ackX count e x x10.x x10.y)) H (lA 2 rfl (fun _ h => h) l0) rfl rfl (e_fn kn40 rfl rfl) ?_
            rintro _ _ w ⟨rfl, rfl⟩ H
            replace H := H.pick 2 rfl
            replace H := H.pick 2 rfl
            replace H := H.pick 2 rfl
            replace H : Hd _ _ _ [osl (kInt .i64) v16 (openL count size (ackX count e x x10.x x10.y)), blk b8 [.int .i64 count, .int .i64 size, .int .i64 (ackE count e x x10.x x10.y), .int .i64 (ackX count e x x10.x x10.y)] 46, blk b7 [.int .i64 count, .int .i64 size, .int .i64 (ackE count e x x10.x x10.y), .int .i64 (ackX count e x x10.x x10.y)] 98, osl (kInt .i64) v18 (openL count size (ackX count e x x10.x x10.y))] [rsl kAct2 (.slice A1 acts.length c2) acts] := H
            refine d_back ⟨_, H⟩ ?_
            refine d_val rfl rfl rfl (fun w ⟨Ar, H⟩ => r_ne rfl rfl rfl) ?_
            refine d_val rfl rfl rfl (fun w ⟨Ar, H⟩ => r_pickF rfl rfl rfl) ?_
            refine d_val rfl rfl rfl (fun w ⟨Ar, H⟩ => r_mv rfl rfl) ?_
            refine d_dec (d := 95) (p := (ackX count e x x10.x x10.y) ≠ (ackX count e x x10.x x10.y)) rfl (fun h20 => ?_) (fun h20 => ?_)
            · exact (h20 rfl).elim
            · skip
              refine d_val rfl rfl rfl (fun w ⟨Ar, H⟩ => r_mv rfl rfl) ?_
              refine d_val rfl rfl rfl (fun w ⟨Ar, H⟩ => r_mv rfl rfl) ?_
              refine d_val rfl rfl rfl (fun w ⟨Ar, H⟩ => r_nilP rfl rfl) ?_
              refine d_val rfl rfl rfl (fun w ⟨Ar, H⟩ => r_fa rfl fo46_2 rfl) ?_
              refine d_val rfl rfl rfl (fun w ⟨Ar, H⟩ => r_ld rfl ty3 rfl (H.cellI 1 rfl rfl)) ?_
              refine d_main rfl ?_
              refine sc (wEpoch_ok b7 count size (ackE count e x x10.x x10.y) (ackX count e x x10.x x10.y)) H (lA 2 rfl (fun _ h => h) l0) rfl rfl (e_fn kn41 rfl rfl) ?_
              rintro _ _ w ⟨rfl, rfl⟩ H
              replace H := H.pick 2 rfl
              replace H := H.pick 2 rfl
              replace H := H.pick 2 rfl
              replace H : Hd _ _ _ [osl (kInt .i64) v16 (openL count size (ackX count e x x10.x x10.y)), blk b8 [.int .i64 count, .int .i64 size, .int .i64 (ackE count e x x10.x x10.y), .int .i64 (ackX count e x x10.x x10.y)] 46, blk b7 [.int .i64 count, .int .i64 size, .int .i64 (ackE count e x x10.x x10.y), .int .i64 (ackX count e x x10.x x10.y)] 98, osl (kInt .i64) v18 (openL count size (ackX count e x x10.x x10.y))] [rsl kAct2 (.slice A1 acts.length c2) acts] := H
              refine d_back ⟨_, H⟩ ?_
              refine d_val rfl rfl rfl (fun w ⟨Ar, H⟩ => r_ne rfl rfl rfl) ?_
              refine d_val rfl rfl rfl (fun w ⟨Ar, H⟩ => r_pickF rfl rfl rfl) ?_
              refine d_val rfl rfl rfl (fun w ⟨Ar, H⟩ => r_mv rfl rfl) ?_
              refine d_dec (d := 104) (p := (ackE count e x x10.x x10.y) ≠ (ackE count e x x10.x x10.y)) rfl (fun h21 => ?_) (fun h21 => ?_)
              · exact (h21 rfl).elim
              · skip
                refine d_val rfl rfl rfl (fun w ⟨Ar, H⟩ => r_mv rfl rfl) ?_
                refine d_val rfl rfl rfl (fun w ⟨Ar, H⟩ => r_mv rfl rfl) ?_
                refine d_main rfl ?_
                refine sc (wDone_ok b7 count size (ackE count e x x10.x x10.y) (ackX count e x x10.x x10.y)) H (lA 2 rfl (fun _ h => h) l0) rfl rfl (e_fn kn42 rfl rfl) ?_
                rintro _ _ w ⟨rfl, rfl⟩ H
                replace H := H.pick 2 rfl
                replace H := H.pick 2 rfl
                replace H := H.pick 2 rfl
                replace H : Hd _ _ _ [osl (kInt .i64) v16 (openL count size (ackX count e x x10.x x10.y)), blk b8 [.int .i64 count, .int .i64 size, .int .i64 (ackE count e x x10.x x10.y), .int .i64 (ackX count e x x10.x x10.y)] 46, blk b7 [.int .i64 count, .int .i64 size, .int .i64 (ackE count e x x10.x x10.y), .int .i64 (ackX count e x x10.x x10.y)] 98, osl (kInt .i64) v18 (openL count size (ackX count e x x10.x x10.y))] [rsl kAct2 (.slice A1 acts.length c2) acts] := H
                refine d_back ⟨_, H⟩ ?_
                refine d_main rfl ?_
                refine sc (vDone_ok b8 count size (ackE count e x x10.x x10.y) (ackX count e x x10.x x10.y)) H (lA 1 rfl (fun _ h => h) l0) rfl rfl (e_fn kn43 rfl rfl) ?_
                rintro _ _ w ⟨rfl, rfl⟩ H
                replace H := H.pick 2 rfl
                replace H := H.pick 2 rfl
                replace H := H.pick 2 rfl
                replace H : Hd _ _ _ [osl (kInt .i64) v16 (openL count size (ackX count e x x10.x x10.y)), blk b8 [.int .i64 count, .int .i64 size, .int .i64 (ackE count e x x10.x x10.y), .int .i64 (ackX count e x x10.x x10.y)] 46, blk b7 [.int .i64 count, .int .i64 size, .int .i64 (ackE count e x x10.x x10.y), .int .i64 (ackX count e x x10.x x10.y)] 98, osl (kInt .i64) v18 (openL count size (ackX count e x x10.x x10.y))] [rsl kAct2 (.slice A1 acts.length c2) acts] := H
                refine d_back ⟨_, H⟩ ?_
                refine d_val rfl rfl rfl (fun w ⟨Ar, H⟩ => r_bne rfl un4 rfl rfl) ?_
                refine d_val rfl rfl rfl (fun w ⟨Ar, H⟩ => r_pickF rfl rfl rfl) ?_
                refine d_nil ?_
                refine q_then ?_
                refine c_env [(2, .slice A1 acts.length c2), (7, .pointer (some ⟨b7, 0, none⟩)), (9, .pointer (some ⟨b8, 0, none⟩)), (11, .int .i64 ((k : Nat) : Int)), (13, v16), (110, .bool (decide ((decide ((ackX count e x x10.x x10.y) = count)) ≠ (decide (count ≤ (ackX count e x x10.x x10.y))))))] ⟨rfl, rfl, rfl, rfl, rfl, rfl, trivial⟩ ?_
                refine c_dec (p := (decide ((ackX count e x x10.x x10.y) = count)) ≠ (decide (count ≤ (ackX count e x x10.x x10.y)))) rfl (fun h22 => ?_) (fun h22 => ?_)
                · exact (h22 (by simp only [decide_eq_decide]; omega)).elim
                · skip
                  refine c_skip ?_
                  refine q_then ?_
                  refine c_env [(2, .slice A1 acts.length c2), (7, .pointer (some ⟨b7, 0, none⟩)), (9, .pointer (some ⟨b8, 0, none⟩)), (11, .int .i64 ((k : Nat) : Int)), (13, v16)] ⟨rfl, rfl, rfl, rfl, rfl, trivial⟩ ?_
                  refine c_reg ?_
                  refine s_val rfl rfl (r_mv rfl rfl) ?_
                  refine sc (overInts_ok v16 (openL count size (ackX count e x x10.x x10.y)) (by rw [openL_len]; omega)) H l0 rfl rfl (e_fn kn44 rfl rfl) ?_
                  rintro _ _ w rfl H
                  refine s_nil ?_
                  refine q_blockN ?_
                  refine q_then ?_
                  replace H : Hd _ _ _ [blk b8 [.int .i64 count, .int .i64 size, .int .i64 (ackE count e x x10.x x10.y), .int .i64 (ackX count e x x10.x x10.y)] 46, blk b7 [.int .i64 count, .int .i64 size, .int .i64 (ackE count e x x10.x x10.y), .int .i64 (ackX count e x x10.x x10.y)] 98, osl (kInt .i64) v18 (openL count size (ackX count e x x10.x x10.y))] [rsl kAct2 (.slice A1 acts.length c2) acts] := H
                  refine c_env [(2, .slice A1 acts.length c2), (7, .pointer (some ⟨b7, 0, none⟩)), (9, .pointer (some ⟨b8, 0, none⟩)), (11, .int .i64 ((k : Nat) : Int))] ⟨rfl, rfl, rfl, rfl, trivial⟩ ?_
                  refine c_reg ?_
                  refine s_val rfl rfl (r_mv rfl rfl) ?_
                  refine s_val rfl rfl (r_add (z := ((k + 1 : Nat) : Int)) rfl rfl rfl (by rw [w64 (by omega) (by omega)]; omega)) ?_
                  refine s_val rfl rfl (r_as rfl rfl) ?_
                  refine s_nil ?_
                  replace H := H.pick 1 rfl
                  replace H := H.keep 2
                  exact q_round (s := (k, e, x)) (k + 1, ackE count e x x10.x x10.y, ackX count e x x10.x x10.y) ⟨rfl, rfl, rfl, rfl, trivial⟩ ⟨H, by omega, wacts, hcs, hin.1, hin.2⟩ (by (try dsimp only); omega)
      · skip
        refine c_exit ?_
        refine q_thenE ?_
        refine q_thenE ?_
        refine q_blockE ?_
        refine q_then ?_
        refine c_env [] trivial ?_
        refine c_seq ?_
        refine c_reg ?_
        refine sc (awake17_ok ) H l0 rfl rfl (e_fn kn31 rfl rfl) ?_
        rintro _ _ w ⟨rfl, rfl⟩ H
        refine s_val rfl rfl (r_as rfl rfl) ?_
        refine s_nil ?_
        refine q_then ?_
        refine c_env [(6, .bool true)] ⟨rfl, trivial⟩ ?_
        refine c_ret ?_
        refine q_ret1 rfl rfl ?_
        replace H := H.keep 0
        exact fin ⟨rfl, rfl⟩ H
    · skip
      refine c_reg ?_
      refine s_val rfl rfl (r_mv rfl rfl) ?_
      refine s_val rfl rfl (r_mv rfl rfl) ?_
      refine sc (wNew_no count size (by omega)) H l0 rfl rfl (e_fn kn32 rfl rfl) ?_
      rintro _ _ w ⟨rfl, rfl⟩ H
      refine s_val rfl rfl (r_mv rfl rfl) ?_
      refine s_val rfl rfl (r_ex rfl rfl rfl) ?_
      refine s_val rfl rfl (r_ex rfl rfl rfl) ?_
      refine s_val rfl rfl (r_as rfl rfl) ?_
      refine s_val rfl rfl (r_as rfl rfl) ?_
      refine s_nil ?_
      refine q_then ?_
      replace H : Hd _ _ _ [] [rsl kAct2 (.slice A1 acts.length c2) acts] := H
      refine c_env [(0, .int .i64 count), (1, .int .i64 size), (2, .slice A1 acts.length c2), (6, .bool false), (7, .pointer none), (8, .int .i64 2)] ⟨rfl, rfl, rfl, rfl, rfl, rfl, trivial⟩ ?_
      refine c_seq ?_
      refine c_reg ?_
      refine s_val rfl rfl (r_mv rfl rfl) ?_
      refine s_val rfl rfl (r_mv rfl rfl) ?_
      refine sc (vNew_no count size (by omega)) H l0 rfl rfl (e_fn kn33 rfl rfl) ?_
      rintro _ _ w ⟨rfl, rfl⟩ H
      refine s_val rfl rfl (r_mv rfl rfl) ?_
      refine s_val rfl rfl (r_ex rfl rfl rfl) ?_
      refine s_val rfl rfl (r_ex rfl rfl rfl) ?_
      refine s_val rfl rfl (r_as rfl rfl) ?_
      refine s_val rfl rfl (r_as rfl rfl) ?_
      refine s_nil ?_
      refine q_then ?_
      replace H : Hd _ _ _ [] [rsl kAct2 (.slice A1 acts.length c2) acts] := H
      refine c_env [(2, .slice A1 acts.length c2), (6, .bool false), (7, .pointer none), (8, .int .i64 2), (9, .pointer none), (10, .int .i64 2)] ⟨rfl, rfl, rfl, rfl, rfl, rfl, trivial⟩ ?_
      refine c_seq ?_
      refine c_seq ?_
      refine c_reg ?_
      refine s_val rfl rfl (r_mv rfl rfl) ?_
      refine sc (num_ok 2) H l0 rfl rfl (e_fn kn34 rfl rfl) ?_
      rintro _ _ w ⟨rfl, rfl⟩ H
      refine s_val rfl rfl (r_mv rfl rfl) ?_
      refine s_val rfl rfl (r_ne rfl rfl rfl) ?_
      refine s_val rfl rfl (r_mv rfl rfl) ?_
      refine s_val rfl rfl (r_mv rfl rfl) ?_
      refine s_val rfl rfl (r_peq rfl un32 rfl rfl) ?_
      refine s_val rfl rfl (r_mv rfl rfl) ?_
      refine s_val rfl rfl (r_peq rfl un36 rfl rfl) ?_
      refine s_val rfl rfl (r_bne rfl un4 rfl rfl) ?_
      refine s_val rfl rfl (r_pickF rfl rfl rfl) ?_
      refine s_nil ?_
      refine q_then ?_
      refine c_env [(2, .slice A1 acts.length c2), (6, .bool false), (7, .pointer none), (9, .pointer none), (40, .bool false)] ⟨rfl, rfl, rfl, rfl, rfl, trivial⟩ ?_
      refine c_no rfl ?_
      refine c_skip ?_
      refine q_then ?_
      refine c_env [(2, .slice A1 acts.length c2), (6, .bool false), (7, .pointer none), (9, .pointer none)] ⟨rfl, rfl, rfl, rfl, trivial⟩ ?_
      refine c_seq ?_
      refine c_seq ?_
      refine c_reg ?_
      refine s_val rfl rfl (r_mv rfl rfl) ?_
      refine s_val rfl rfl (r_peq rfl un36 rfl rfl) ?_
      refine s_nil ?_
      refine q_then ?_
      refine c_env [(2, .slice A1 acts.length c2), (6, .bool false), (7, .pointer none), (9, .pointer none), (42, .bool true)] ⟨rfl, rfl, rfl, rfl, rfl, trivial⟩ ?_
      refine c_yes rfl ?_
      refine c_seq ?_
      refine c_reg ?_
      refine sc (awake17_ok ) H l0 rfl rfl (e_fn kn31 rfl rfl) ?_
      rintro _ _ w ⟨rfl, rfl⟩ H
      refine s_val rfl rfl (r_as rfl rfl) ?_
      refine s_nil ?_
      refine q_then ?_
      refine c_env [(2, .slice A1 acts.length c2), (6, .bool true), (7, .pointer none), (9, .pointer none)] ⟨rfl, rfl, rfl, rfl, trivial⟩ ?_
      refine c_ret ?_
      refine q_thenR ?_
      refine q_ret1 rfl rfl ?_
      exact fin ⟨rfl, rfl⟩ H

set_option maxHeartbeats 1000000 in
theorem windowBounds_ok (count : Int) (wcount : In64 count) (size : Int) (wsize : In64 size) (vacts : Value) (acts : List Act2) (wacts : (∀ p ∈ acts, In64 p.x ∧ In64 p.y) ∧ acts.length ≤ 9223372036854775807) :
    Cn Try.prog 7 [.int .i64 count, .int .i64 size, vacts] [] [rsl kAct2 vacts acts] (fun v Bs => v = .bool true ∧ Bs = []) := by
  intro w0 F0 H
  obtain ⟨A1, c2, rfl, hc3, hm4, hp5⟩ := H.fR 0 rfl
  unfold In64 at wcount
  unfold In64 at wsize
  refine enter (args := [.int .i64 count, .int .i64 size, .slice A1 acts.length c2]) Try.func7 rfl rfl (Nat.le_of_ble_eq_true rfl) ?_
  refine c_seq ?_
  refine c_reg ?_
  refine s_val rfl rfl (r_as rfl rfl) ?_
  refine s_nil ?_
  refine q_then ?_
  replace H : Hd _ _ _ [] [rsl kAct2 (.slice A1 acts.length c2) acts] := H
  refine c_env [(0, .int .i64 count), (1, .int .i64 size), (2, .slice A1 acts.length c2), (6, .bool false)] ⟨rfl, rfl, rfl, rfl, trivial⟩ ?_
  refine c_seq ?_
  refine c_seq ?_
  refine c_reg ?_
  refine s_val rfl rfl (r_mv rfl rfl) ?_
  refine s_val rfl rfl (r_lenL rfl un31 rfl) ?_
  refine s_val rfl rfl (r_gt rfl rfl rfl) ?_
  refine s_nil ?_
  refine q_then ?_
  refine c_env [(0, .int .i64 count), (1, .int .i64 size), (2, .slice A1 acts.length c2), (6, .bool false), (16, .bool (decide ((100 : Int) < ((acts.length : Nat) : Int))))] ⟨rfl, rfl, rfl, rfl, rfl, trivial⟩ ?_
  refine c_dec (p := (100 : Int) < ((acts.length : Nat) : Int)) rfl (fun h6 => ?_) (fun h6 => ?_)
  · skip
    refine c_seq ?_
    refine c_reg ?_
    refine sc (awake17_ok ) H l0 rfl rfl (e_fn kn31 rfl rfl) ?_
    rintro _ _ w ⟨rfl, rfl⟩ H
    refine s_val rfl rfl (r_as rfl rfl) ?_
    refine s_nil ?_
    refine q_then ?_
    refine c_env [(0, .int .i64 count), (1, .int .i64 size), (2, .slice A1 acts.length c2), (6, .bool true)] ⟨rfl, rfl, rfl, rfl, trivial⟩ ?_
    refine c_ret ?_
    refine q_thenR ?_
    refine q_ret1 rfl rfl ?_
    exact fin ⟨rfl, rfl⟩ H
  · skip
    refine c_skip ?_
    refine q_then ?_
    refine c_env [(0, .int .i64 count), (1, .int .i64 size), (2, .slice A1 acts.length c2), (6, .bool false)] ⟨rfl, rfl, rfl, rfl, trivial⟩ ?_
    refine c_seq ?_
    refine c_reg ?_
    refine s_val rfl rfl (r_mv rfl rfl) ?_
    refine sc (low_ok count 41 (by unfold In64; omega) (by omega) (by omega)) H l0 rfl rfl (e_fn kn30 rfl rfl) ?_
    rintro _ _ w ⟨rfl, rfl⟩ H
    refine s_val rfl rfl (r_mv rfl rfl) ?_
    refine sc (low_ok size 4 (by unfold In64; omega) (by omega) (by omega)) H l0 rfl rfl (e_fn kn30 rfl rfl) ?_
    rintro _ _ w ⟨rfl, rfl⟩ H
    refine s_val rfl rfl (r_add (z := 1 + (IntKind.u64.wrap size % 4)) rfl rfl rfl (w64 (by omega) (by omega))) ?_
    refine s_val rfl rfl (r_as rfl rfl) ?_
    refine s_val rfl rfl (r_as rfl rfl) ?_
    refine s_nil ?_
    refine q_then ?_
    refine c_env [(0, .int .i64 (IntKind.u64.wrap count % 41)), (1, .int .i64 (1 + (IntKind.u64.wrap size % 4))), (2, .slice A1 acts.length c2), (6, .bool false)] ⟨rfl, rfl, rfl, rfl, trivial⟩ ?_
    refine c_seq ?_
    have hcn := low_in count (n := 41) (by omega)
    generalize IntKind.u64.wrap count % 41 = cn at hcn ⊢
    have hsz := low_in size (n := 4) (by omega)
    generalize IntKind.u64.wrap size % 4 = sz at hsz ⊢
    refine c_reg ?_
    refine s_val rfl rfl (r_mv rfl rfl) ?_
    refine s_val rfl rfl (r_mv rfl rfl) ?_
    refine sc (wNew_ok cn (1 + sz) (by omega)) H l0 rfl rfl (e_fn kn32 rfl rfl) ?_
    rintro _ _ w ⟨b7, rfl, rfl⟩ H
    refine s_val rfl rfl (r_mv rfl rfl) ?_
    refine s_val rfl rfl (r_ex rfl rfl rfl) ?_
    refine s_val rfl rfl (r_ex rfl rfl rfl) ?_
    refine s_val rfl rfl (r_as rfl rfl) ?_
    refine s_val rfl rfl (r_as rfl rfl) ?_
    refine s_nil ?_
    refine q_then ?_
    replace H : Hd _ _ _ [blk b7 [.int .i64 cn, .int .i64 (1 + sz), .int .i64 0, .int .i64 0] 98] [rsl kAct2 (.slice A1 acts.length c2) acts] := H
    refine c_env [(0, .int .i64 cn), (1, .int .i64 (1 + sz)), (2, .slice A1 acts.length c2), (6, .bool false), (7, .pointer (some ⟨b7, 0, none⟩)), (8, .int .i64 0)] ⟨rfl, rfl, rfl, rfl, rfl, rfl, trivial⟩ ?_
    refine c_seq ?_
    refine c_seq ?_
    refine c_reg ?_
    refine s_val rfl rfl (r_mv rfl rfl) ?_
    refine s_val rfl rfl (r_ne rfl rfl rfl) ?_
    refine s_val rfl rfl (r_mv rfl rfl) ?_
    refine s_val rfl rfl (r_mv rfl rfl) ?_
    refine s_val rfl rfl (r_peq rfl un32 rfl rfl) ?_
    refine s_val rfl rfl (r_pickF rfl rfl rfl) ?_
    refine s_val rfl rfl (r_mv rfl rfl) ?_
    refine s_val rfl rfl (r_mv rfl rfl) ?_
    refine sc (wDone_ok b7 cn (1 + sz) 0 0) H (lA 0 rfl (fun _ h => h) l0) rfl rfl (e_fn kn42 rfl rfl) ?_
    rintro _ _ w ⟨rfl, rfl⟩ H
    refine s_val rfl rfl (r_mv rfl rfl) ?_
    refine s_val rfl rfl (r_eq rfl rfl rfl) ?_
    refine s_val rfl rfl (r_bne rfl un4 rfl rfl) ?_
    refine s_val rfl rfl (r_pickF rfl rfl rfl) ?_
    refine s_nil ?_
    refine q_then ?_
    replace H : Hd _ _ _ [blk b7 [.int .i64 cn, .int .i64 (1 + sz), .int .i64 0, .int .i64 0] 98] [rsl kAct2 (.slice A1 acts.length c2) acts] := H
    refine c_env [(0, .int .i64 cn), (1, .int .i64 (1 + sz)), (2, .slice A1 acts.length c2), (6, .bool false), (7, .pointer (some ⟨b7, 0, none⟩)), (41, .bool (decide ((decide (0 = cn)) ≠ (decide (cn = 0)))))] ⟨rfl, rfl, rfl, rfl, rfl, rfl, trivial⟩ ?_
    refine c_dec (p := (decide (0 = cn)) ≠ (decide (cn = 0))) rfl (fun h8 => ?_) (fun h8 => ?_)
    · exact (h8 (by simp only [decide_eq_decide]; omega)).elim
    · skip
      refine c_skip ?_
      refine q_then ?_
      refine c_env [(0, .int .i64 cn), (1, .int .i64 (1 + sz)), (2, .slice A1 acts.length c2), (6, .bool false), (7, .pointer (some ⟨b7, 0, none⟩))] ⟨rfl, rfl, rfl, rfl, rfl, trivial⟩ ?_
      refine c_seq ?_
      refine c_seq ?_
      refine c_reg ?_
      refine s_val rfl rfl (r_as rfl rfl) ?_
      refine s_nil ?_
      refine q_then ?_
      refine c_env [(0, .int .i64 cn), (1, .int .i64 (1 + sz)), (2, .slice A1 acts.length c2), (6, .bool false), (7, .pointer (some ⟨b7, 0, none⟩)), (9, .int .i64 0)] ⟨rfl, rfl, rfl, rfl, rfl, rfl, trivial⟩ ?_
      refine c_block ?_
      refine c_loop (σ := Nat × Int × Int) (fun (k, e, x) => [(0, .int .i64 cn), (1, .int .i64 (1 + sz)), (2, .slice A1 acts.length c2), (7, .pointer (some ⟨b7, 0, none⟩)), (9, .int .i64 ((k : Nat) : Int))]) (fun (k, e, x) w => (Hd w0 F0 w [blk b7 [.int .i64 cn, .int .i64 (1 + sz), .int .i64 e, .int .i64 x] 98] [rsl kAct2 (.slice A1 acts.length c2) acts]) ∧ (k ≤ acts.length) ∧ (0 ≤ x ∧ x ≤ cn) ∧ (0 ≤ e ∧ e ≤ 9223372036854775807)) (fun (k, e, x) => acts.length - k) (0, 0, 0) ⟨rfl, rfl, rfl, rfl, rfl, trivial⟩ ⟨H, by omega, by omega, by omega⟩ ?_
      rintro ⟨k, e, x⟩ w ⟨H, hk, hx, he⟩
      refine c_seq ?_
      refine c_seq ?_
      refine c_reg ?_
      refine s_val rfl rfl (r_mv rfl rfl) ?_
      refine s_val rfl rfl (r_mv rfl rfl) ?_
      refine s_val rfl rfl (r_lenL rfl un31 rfl) ?_
      refine s_val rfl rfl (r_lt rfl rfl rfl) ?_
      refine s_nil ?_
      refine q_then ?_
      refine c_env [(0, .int .i64 cn), (1, .int .i64 (1 + sz)), (2, .slice A1 acts.length c2), (7, .pointer (some ⟨b7, 0, none⟩)), (9, .int .i64 ((k : Nat) : Int)), (45, .bool (decide (((k : Nat) : Int) < ((acts.length : Nat) : Int))))] ⟨rfl, rfl, rfl, rfl, rfl, rfl, trivial⟩ ?_
      refine c_dec (p := ((k : Nat) : Int) < ((acts.length : Nat) : Int)) rfl (fun h9 => ?_) (fun h9 => ?_)
      · skip
        refine c_skip ?_
        refine q_then ?_
        refine c_env [(0, .int .i64 cn), (1, .int .i64 (1 + sz)), (2, .slice A1 acts.length c2), (7, .pointer (some ⟨b7, 0, none⟩)), (9, .int .i64 ((k : Nat) : Int))] ⟨rfl, rfl, rfl, rfl, rfl, trivial⟩ ?_
        refine c_seq ?_
        refine c_block ?_
        refine c_seq ?_
        refine c_reg ?_
        refine s_val rfl rfl (r_mv rfl rfl) ?_
        refine sc (wEpoch_ok b7 cn (1 + sz) e x) H (lA 0 rfl (fun _ h => h) l0) rfl rfl (e_fn kn41 rfl rfl) ?_
        rintro _ _ w ⟨rfl, rfl⟩ H
        refine s_val rfl rfl (r_mv rfl rfl) ?_
        replace H : Hd _ _ _ [blk b7 [.int .i64 cn, .int .i64 (1 + sz), .int .i64 e, .int .i64 x] 98] [rsl kAct2 (.slice A1 acts.length c2) acts] := H
        refine sc (wNext_ok b7 cn (1 + sz) e x) H (lA 0 rfl (fun _ h => h) l0) rfl rfl (e_fn kn40 rfl rfl) ?_
        rintro _ _ w ⟨rfl, rfl⟩ H
        refine s_val rfl rfl (r_as rfl rfl) ?_
        refine s_val rfl rfl (r_as rfl rfl) ?_
        refine s_nil ?_
        refine q_then ?_
        replace H : Hd _ _ _ [blk b7 [.int .i64 cn, .int .i64 (1 + sz), .int .i64 e, .int .i64 x] 98] [rsl kAct2 (.slice A1 acts.length c2) acts] := H
        refine c_env [(0, .int .i64 cn), (1, .int .i64 (1 + sz)), (2, .slice A1 acts.length c2), (7, .pointer (some ⟨b7, 0, none⟩)), (9, .int .i64 ((k : Nat) : Int)), (10, .int .i64 e), (11, .int .i64 x)] ⟨rfl, rfl, rfl, rfl, rfl, rfl, rfl, trivial⟩ ?_
        refine c_seq ?_
        refine c_ord (.e 0 (.e 1 (.e 2 (.e 3 (.e 4 (.e 5 (.e 6 (.e 7 (.e 8 (.e 9 (.e 10 (.m 11 .z)))))))))))) (fun w => ∃ Ar, Hd w0 F0 w (Ar) [rsl kAct2 (.slice A1 acts.length c2) acts]) mo (by kernel_rfl) (fun w H => ⟨_, H⟩) H (fun w H => ?_)
        refine d_val rfl rfl rfl (fun w ⟨Ar, H⟩ => r_mv rfl rfl) ?_
        refine d_val rfl rfl rfl (fun w ⟨Ar, H⟩ => r_mv rfl rfl) ?_
        refine d_val rfl rfl rfl (fun w ⟨Ar, H⟩ => r_mv rfl rfl) ?_
        obtain ⟨x10, hx11⟩ : ∃ z9, acts[k]? = some z9 := ⟨_, List.getElem?_eq_getElem (show k < acts.length by omega)⟩
        have th12 := H.thR 0 rfl hx11
        refine d_val rfl rfl rfl (fun w ⟨Ar, H⟩ => r_iaE (p := oOf A1 + k * 2) rfl sl31 rfl rfl (by omega) (by omega) th12 rfl) ?_
        refine d_val rfl rfl rfl (fun w ⟨Ar, H⟩ => r_fa rfl fo42_0 rfl) ?_
        refine d_val rfl rfl rfl (fun w ⟨Ar, H⟩ => r_ld rfl ty3 rfl (H.elR 0 rfl hx11 (q := 0) rfl rfl)) ?_
        refine d_val rfl rfl rfl (fun w ⟨Ar, H⟩ => r_mv rfl rfl) ?_
        refine d_val rfl rfl rfl (fun w ⟨Ar, H⟩ => r_mv rfl rfl) ?_
        have th13 := H.thR 0 rfl hx11
        refine d_val rfl rfl rfl (fun w ⟨Ar, H⟩ => r_iaE (p := oOf A1 + k * 2) rfl sl31 rfl rfl (by omega) (by omega) th13 rfl) ?_
        refine d_val rfl rfl rfl (fun w ⟨Ar, H⟩ => r_fa rfl fo42_1 rfl) ?_
        refine d_val rfl rfl rfl (fun w ⟨Ar, H⟩ => r_ld rfl ty3 rfl (H.elR 0 rfl hx11 (q := 1) rfl rfl)) ?_
        refine d_main rfl ?_
        refine sc (wAck_ok b7 cn (1 + sz) e x x10.x x10.y) H l0 rfl rfl (e_fn kn35 rfl rfl) ?_
        rintro _ _ w ⟨rfl, rfl⟩ H
        replace H : Hd _ _ _ [blk b7 [.int .i64 cn, .int .i64 (1 + sz), .int .i64 (ackE cn e x x10.x x10.y), .int .i64 (ackX cn e x x10.x x10.y)] 98] [rsl kAct2 (.slice A1 acts.length c2) acts] := H
        refine d_back ⟨_, H⟩ ?_
        refine d_nil ?_
        refine q_then ?_
        refine c_env [(0, .int .i64 cn), (1, .int .i64 (1 + sz)), (2, .slice A1 acts.length c2), (7, .pointer (some ⟨b7, 0, none⟩)), (9, .int .i64 ((k : Nat) : Int)), (10, .int .i64 e), (11, .int .i64 x)] ⟨rfl, rfl, rfl, rfl, rfl, rfl, rfl, trivial⟩ ?_
        refine c_seq ?_
        have hin := ack_in (n := x10.y) (by omega : 0 ≤ cn) hx he.1 he.2 (wacts.1 x10 (List.mem_of_getElem? hx11)).1
        have hup := @ack_up cn e x x10.x x10.y
        refine c_reg ?_
        refine s_val rfl rfl (r_mv rfl rfl) ?_
        refine sc (wOpen_ok b7 cn (1 + sz) (ackE cn e x x10.x x10.y) (ackX cn e x x10.x x10.y) (by first | omega | decide) (by first | omega | decide)) H (lA 0 rfl (fun _ h => h) l0) rfl rfl (e_fn kn37 rfl rfl) ?_
        rintro v14 _ w rfl H
        refine s_val rfl rfl (r_as rfl rfl) ?_
        refine s_nil ?_
        refine q_then ?_
        replace H : Hd _ _ _ [osl (kInt .i64) v14 (openL cn (1 + sz) (ackX cn e x x10.x x10.y)), blk b7 [.int .i64 cn, .int .i64 (1 + sz), .int .i64 (ackE cn e x x10.x x10.y), .int .i64 (ackX cn e x x10.x x10.y)] 98] [rsl kAct2 (.slice A1 acts.length c2) acts] := H
        refine c_env [(0, .int .i64 cn), (1, .int .i64 (1 + sz)), (2, .slice A1 acts.length c2), (7, .pointer (some ⟨b7, 0, none⟩)), (9, .int .i64 ((k : Nat) : Int)), (10, .int .i64 e), (11, .int .i64 x), (12, v14)] ⟨rfl, rfl, rfl, rfl, rfl, rfl, rfl, rfl, trivial⟩ ?_
        refine c_seq ?_
        refine c_seq ?_
        have hlen := openL_len cn (1 + sz) (ackX cn e x x10.x x10.y)
        refine c_reg ?_
        refine s_val rfl rfl (r_mv rfl rfl) ?_
        refine sc (wEpoch_ok b7 cn (1 + sz) (ackE cn e x x10.x x10.y) (ackX cn e x x10.x x10.y)) H (lA 1 rfl (fun _ h => h) l0) rfl rfl (e_fn kn41 rfl rfl) ?_
        rintro _ _ w ⟨rfl, rfl⟩ H
        refine s_val rfl rfl (r_mv rfl rfl) ?_
        refine s_val rfl rfl (r_lt rfl rfl rfl) ?_
        refine s_val rfl rfl (r_mv rfl rfl) ?_
        refine s_dec (d := 70) (p := (ackE cn e x x10.x x10.y) < e) rfl (fun h15 => ?_) (fun h15 => ?_)
        · exfalso; omega
        · skip
          refine s_val rfl rfl (r_mv rfl rfl) ?_
          replace H : Hd _ _ _ [osl (kInt .i64) v14 (openL cn (1 + sz) (ackX cn e x x10.x x10.y)), blk b7 [.int .i64 cn, .int .i64 (1 + sz), .int .i64 (ackE cn e x x10.x x10.y), .int .i64 (ackX cn e x x10.x x10.y)] 98] [rsl kAct2 (.slice A1 acts.length c2) acts] := H
          refine sc (wEpoch_ok b7 cn (1 + sz) (ackE cn e x x10.x x10.y) (ackX cn e x x10.x x10.y)) H (lA 1 rfl (fun _ h => h) l0) rfl rfl (e_fn kn41 rfl rfl) ?_
          rintro _ _ w ⟨rfl, rfl⟩ H
          refine s_val rfl rfl (r_mv rfl rfl) ?_
          refine s_val rfl rfl (r_eq rfl rfl rfl) ?_
          refine s_val rfl rfl (r_mv rfl rfl) ?_
          refine s_dec (d := 75) (p := (ackE cn e x x10.x x10.y) = e) rfl (fun h16 => ?_) (fun h16 => ?_)
          · skip
            refine s_val rfl rfl (r_mv rfl rfl) ?_
            replace H : Hd _ _ _ [osl (kInt .i64) v14 (openL cn (1 + sz) (ackX cn e x x10.x x10.y)), blk b7 [.int .i64 cn, .int .i64 (1 + sz), .int .i64 (ackE cn e x x10.x x10.y), .int .i64 (ackX cn e x x10.x x10.y)] 98] [rsl kAct2 (.slice A1 acts.length c2) acts] := H
            refine sc (wNext_ok b7 cn (1 + sz) (ackE cn e x x10.x x10.y) (ackX cn e x x10.x x10.y)) H (lA 1 rfl (fun _ h => h) l0) rfl rfl (e_fn kn40 rfl rfl) ?_
            rintro _ _ w ⟨rfl, rfl⟩ H
            refine s_val rfl rfl (r_mv rfl rfl) ?_
            refine s_val rfl rfl (r_lt rfl rfl rfl) ?_
            refine s_val rfl rfl (r_pickT rfl rfl rfl) ?_
            refine s_val rfl rfl (r_pickF rfl rfl rfl) ?_
            refine s_val rfl rfl (r_mv rfl rfl) ?_
            refine s_dec (d := 82) (p := (ackX cn e x x10.x x10.y) < x) rfl (fun h17 => ?_) (fun h17 => ?_)
            · exfalso; omega
            · skip
              refine s_val rfl rfl (r_mv rfl rfl) ?_
              obtain ⟨A18, c19, rfl, hc20, hm21, hp22⟩ := H.fA 0 rfl
              refine s_val rfl rfl (r_lenL rfl un22 rfl) ?_
              refine s_val rfl rfl (r_mv rfl rfl) ?_
              refine s_val rfl rfl (r_mv rfl rfl) ?_
              refine s_val rfl rfl (r_mv rfl rfl) ?_
              replace H : Hd _ _ _ [osl (kInt .i64) (.slice A18 ((openL cn (1 + sz) (ackX cn e x x10.x x10.y)).length) c19) (openL cn (1 + sz) (ackX cn e x x10.x x10.y)), blk b7 [.int .i64 cn, .int .i64 (1 + sz), .int .i64 (ackE cn e x x10.x x10.y), .int .i64 (ackX cn e x x10.x x10.y)] 98] [rsl kAct2 (.slice A1 acts.length c2) acts] := H
              refine sc (wNext_ok b7 cn (1 + sz) (ackE cn e x x10.x x10.y) (ackX cn e x x10.x x10.y)) H (lA 1 rfl (fun _ h => h) l0) rfl rfl (e_fn kn40 rfl rfl) ?_
              rintro _ _ w ⟨rfl, rfl⟩ H
              refine s_val rfl rfl (r_sub (z := cn - (ackX cn e x x10.x x10.y)) rfl rfl rfl (w64 (by omega) (by omega))) ?_
              refine s_val rfl rfl (r_min (z := min (1 + sz) (cn - (ackX cn e x x10.x x10.y))) rfl rfl rfl rfl) ?_
              refine s_val rfl rfl (r_ne rfl rfl rfl) ?_
              refine s_val rfl rfl (r_pickF rfl rfl rfl) ?_
              refine s_val rfl rfl (r_mv rfl rfl) ?_
              refine s_dec (d := 93) (p := (((openL cn (1 + sz) (ackX cn e x x10.x x10.y)).length : Nat) : Int) ≠ (min (1 + sz) (cn - (ackX cn e x x10.x x10.y)))) rfl (fun h23 => ?_) (fun h23 => ?_)
              · exfalso; omega
              · skip
                refine s_val rfl rfl (r_mv rfl rfl) ?_
                replace H : Hd _ _ _ [osl (kInt .i64) (.slice A18 ((openL cn (1 + sz) (ackX cn e x x10.x x10.y)).length) c19) (openL cn (1 + sz) (ackX cn e x x10.x x10.y)), blk b7 [.int .i64 cn, .int .i64 (1 + sz), .int .i64 (ackE cn e x x10.x x10.y), .int .i64 (ackX cn e x x10.x x10.y)] 98] [rsl kAct2 (.slice A1 acts.length c2) acts] := H
                refine sc (wDone_ok b7 cn (1 + sz) (ackE cn e x x10.x x10.y) (ackX cn e x x10.x x10.y)) H (lA 1 rfl (fun _ h => h) l0) rfl rfl (e_fn kn42 rfl rfl) ?_
                rintro _ _ w ⟨rfl, rfl⟩ H
                refine s_val rfl rfl (r_mv rfl rfl) ?_
                refine s_val rfl rfl (r_lenL rfl un22 rfl) ?_
                refine s_val rfl rfl (r_eq rfl rfl rfl) ?_
                refine s_val rfl rfl (r_bne rfl un4 rfl rfl) ?_
                refine s_val rfl rfl (r_pickF rfl rfl rfl) ?_
                refine s_nil ?_
                refine q_then ?_
                replace H : Hd _ _ _ [osl (kInt .i64) (.slice A18 ((openL cn (1 + sz) (ackX cn e x x10.x x10.y)).length) c19) (openL cn (1 + sz) (ackX cn e x x10.x x10.y)), blk b7 [.int .i64 cn, .int .i64 (1 + sz), .int .i64 (ackE cn e x x10.x x10.y), .int .i64 (ackX cn e x x10.x x10.y)] 98] [rsl kAct2 (.slice A1 acts.length c2) acts] := H
                refine c_env [(0, .int .i64 cn), (1, .int .i64 (1 + sz)), (2, .slice A1 acts.length c2), (7, .pointer (some ⟨b7, 0, none⟩)), (9, .int .i64 ((k : Nat) : Int)), (12, .slice A18 ((openL cn (1 + sz) (ackX cn e x x10.x x10.y)).length) c19), (100, .bool (decide ((decide ((ackX cn e x x10.x x10.y) = cn)) ≠ (decide ((((openL cn (1 + sz) (ackX cn e x x10.x x10.y)).length : Nat) : Int) = 0)))))] ⟨rfl, rfl, rfl, rfl, rfl, rfl, rfl, trivial⟩ ?_
                refine c_dec (p := (decide ((ackX cn e x x10.x x10.y) = cn)) ≠ (decide ((((openL cn (1 + sz) (ackX cn e x x10.x x10.y)).length : Nat) : Int) = 0))) rfl (fun h24 => ?_) (fun h24 => ?_)
                · exact (h24 (by simp only [decide_eq_decide]; omega)).elim
                · skip
                  refine c_skip ?_
                  refine q_then ?_
                  refine c_env [(0, .int .i64 cn), (1, .int .i64 (1 + sz)), (2, .slice A1 acts.length c2), (7, .pointer (some ⟨b7, 0, none⟩)), (9, .int .i64 ((k : Nat) : Int)), (12, .slice A18 ((openL cn (1 + sz) (ackX cn e x x10.x x10.y)).length) c19)] ⟨rfl, rfl, rfl, rfl, rfl, rfl, trivial⟩ ?_
                  refine c_seq ?_
                  refine c_reg ?_
                  refine s_val rfl rfl (r_as rfl rfl) ?_
                  refine s_nil ?_
                  refine q_then ?_
                  refine c_env [(0, .int .i64 cn), (1, .int .i64 (1 + sz)), (2, .slice A1 acts.length c2), (7, .pointer (some ⟨b7, 0, none⟩)), (9, .int .i64 ((k : Nat) : Int)), (12, .slice A18 ((openL cn (1 + sz) (ackX cn e x x10.x x10.y)).length) c19), (13, .int .i64 0)] ⟨rfl, rfl, rfl, rfl, rfl, rfl, rfl, trivial⟩ ?_
                  refine c_block ?_
                  replace H := H.pick 1 rfl
                  refine c_loop (σ := Nat) (fun j => [(0, .int .i64 cn), (1, .int .i64 (1 + sz)), (2, .slice A1 acts.length c2), (7, .pointer (some ⟨b7, 0, none⟩)), (9, .int .i64 ((k : Nat) : Int)), (12, .slice A18 ((openL cn (1 + sz) (ackX cn e x x10.x x10.y)).length) c19), (13, .int .i64 ((j : Nat) : Int))]) (fun j w => (Hd w0 F0 w [blk b7 [.int .i64 cn, .int .i64 (1 + sz), .int .i64 (ackE cn e x x10.x x10.y), .int .i64 (ackX cn e x x10.x x10.y)] 98, osl (kInt .i64) (.slice A18 ((openL cn (1 + sz) (ackX cn e x x10.x x10.y)).length) c19) (openL cn (1 + sz) (ackX cn e x x10.x x10.y))] [rsl kAct2 (.slice A1 acts.length c2) acts]) ∧ (j ≤ (openL cn (1 + sz) (ackX cn e x x10.x x10.y)).length)) (fun j => (openL cn (1 + sz) (ackX cn e x x10.x x10.y)).length - j) 0 ⟨rfl, rfl, rfl, rfl, rfl, rfl, rfl, trivial⟩ ⟨H, by omega⟩ ?_
                  rintro j w ⟨H, hj⟩
                  refine c_seq ?_
                  refine c_seq ?_
                  refine c_reg ?_
                  refine s_val rfl rfl (r_mv rfl rfl) ?_
                  refine s_val rfl rfl (r_mv rfl rfl) ?_
                  refine s_val rfl rfl (r_lenL rfl un22 rfl) ?_
                  refine s_val rfl rfl (r_lt rfl rfl rfl) ?_
                  refine s_nil ?_
                  refine q_then ?_
                  refine c_env [(0, .int .i64 cn), (1, .int .i64 (1 + sz)), (2, .slice A1 acts.length c2), (7, .pointer (some ⟨b7, 0, none⟩)), (9, .int .i64 ((k : Nat) : Int)), (12, .slice A18 ((openL cn (1 + sz) (ackX cn e x x10.x x10.y)).length) c19), (13, .int .i64 ((j : Nat) : Int)), (104, .bool (decide (((j : Nat) : Int) < (((openL cn (1 + sz) (ackX cn e x x10.x x10.y)).length : Nat) : Int))))] ⟨rfl, rfl, rfl, rfl, rfl, rfl, rfl, rfl, trivial⟩ ?_
                  refine c_dec (p := ((j : Nat) : Int) < (((openL cn (1 + sz) (ackX cn e x x10.x x10.y)).length : Nat) : Int)) rfl (fun h25 => ?_) (fun h25 => ?_)
                  · skip
                    refine c_skip ?_
                    refine q_then ?_
                    refine c_env [(0, .int .i64 cn), (1, .int .i64 (1 + sz)), (2, .slice A1 acts.length c2), (7, .pointer (some ⟨b7, 0, none⟩)), (9, .int .i64 ((k : Nat) : Int)), (12, .slice A18 ((openL cn (1 + sz) (ackX cn e x x10.x x10.y)).length) c19), (13, .int .i64 ((j : Nat) : Int))] ⟨rfl, rfl, rfl, rfl, rfl, rfl, rfl, trivial⟩ ?_
                    refine c_seq ?_
                    refine c_block ?_
                    refine c_seq ?_
                    replace H := H.pick 1 rfl
                    replace H := H.pick 1 rfl
                    replace H : Hd _ _ _ [blk b7 [.int .i64 cn, .int .i64 (1 + sz), .int .i64 (ackE cn e x x10.x x10.y), .int .i64 (ackX cn e x x10.x x10.y)] 98, osl (kInt .i64) (.slice A18 ((openL cn (1 + sz) (ackX cn e x x10.x x10.y)).length) c19) (openL cn (1 + sz) (ackX cn e x x10.x x10.y))] [rsl kAct2 (.slice A1 acts.length c2) acts] := H
                    refine c_ord (.e 0 (.e 1 (.e 2 (.e 3 (.e 4 (.e 6 (.m 5 (.e 7 (.e 8 (.e 9 (.e 10 (.e 11 (.e 12 (.e 13 (.e 14 (.e 15 (.e 16 .z))))))))))))))))) (fun w => ∃ Ar, Hd w0 F0 w (blk b7 [.int .i64 cn, .int .i64 (1 + sz), .int .i64 (ackE cn e x x10.x x10.y), .int .i64 (ackX cn e x x10.x x10.y)] 98 :: osl (kInt .i64) (.slice A18 ((openL cn (1 + sz) (ackX cn e x x10.x x10.y)).length) c19) (openL cn (1 + sz) (ackX cn e x x10.x x10.y)) :: Ar) [rsl kAct2 (.slice A1 acts.length c2) acts]) mo (by kernel_rfl) (fun w H => ⟨_, H⟩) H (fun w H => ?_)
                    refine d_val rfl rfl rfl (fun w ⟨Ar, H⟩ => r_mv rfl rfl) ?_
                    refine d_val rfl rfl rfl (fun w ⟨Ar, H⟩ => r_mv rfl rfl) ?_
                    obtain ⟨x26, hx27⟩ : ∃ z9, (openL cn (1 + sz) (ackX cn e x x10.x x10.y))[j]? = some z9 := ⟨_, List.getElem?_eq_getElem (show j < (openL cn (1 + sz) (ackX cn e x x10.x x10.y)).length by omega)⟩
                    have th28 := H.thA 1 rfl hx27
                    refine d_val rfl rfl rfl (fun w ⟨Ar, H⟩ => r_iaE (p := oOf A18 + j * 1) rfl sl22 rfl rfl (by omega) (by omega) th28 rfl) ?_
                    refine d_val rfl rfl rfl (fun w ⟨Ar, H⟩ => r_ld rfl ty3 rfl (H.elA 1 rfl hx27 (q := 0) rfl rfl)) ?_
                    refine d_val rfl rfl rfl (fun w ⟨Ar, H⟩ => r_mv rfl rfl) ?_
                    refine d_val rfl rfl rfl (fun w ⟨Ar, H⟩ => r_mv rfl rfl) ?_
                    refine d_main rfl ?_
                    refine sc (wNext_ok b7 cn (1 + sz) (ackE cn e x x10.x x10.y) (ackX cn e x x10.x x10.y)) H (lA 0 rfl (fun _ h => h) l0) rfl rfl (e_fn kn40 rfl rfl) ?_
                    rintro _ _ w ⟨rfl, rfl⟩ H
                    replace H := H.pick 1 rfl
                    replace H := H.pick 1 rfl
                    replace H : Hd _ _ _ [blk b7 [.int .i64 cn, .int .i64 (1 + sz), .int .i64 (ackE cn e x x10.x x10.y), .int .i64 (ackX cn e x x10.x x10.y)] 98, osl (kInt .i64) (.slice A18 ((openL cn (1 + sz) (ackX cn e x x10.x x10.y)).length) c19) (openL cn (1 + sz) (ackX cn e x x10.x x10.y))] [rsl kAct2 (.slice A1 acts.length c2) acts] := H
                    refine d_back ⟨_, H⟩ ?_
                    refine d_val rfl rfl rfl (fun w ⟨Ar, H⟩ => r_add (z := (ackX cn e x x10.x x10.y) + ((j : Nat) : Int)) rfl rfl rfl (w64 (by omega) (by omega))) ?_
                    refine d_val rfl rfl rfl (fun w ⟨Ar, H⟩ => r_ne rfl rfl rfl) ?_
                    refine d_val rfl rfl rfl (fun w ⟨Ar, H⟩ => r_mv rfl rfl) ?_
                    refine d_dec (d := 116) (p := x26 ≠ ((ackX cn e x x10.x x10.y) + ((j : Nat) : Int))) rfl (fun h29 => ?_) (fun h29 => ?_)
                    · exact absurd (upL_get hx27) (by omega)
                    · skip
                      refine d_val rfl rfl rfl (fun w ⟨Ar, H⟩ => r_mv rfl rfl) ?_
                      refine d_val rfl rfl rfl (fun w ⟨Ar, H⟩ => r_mv rfl rfl) ?_
                      have th30 := H.thA 1 rfl hx27
                      refine d_val rfl rfl rfl (fun w ⟨Ar, H⟩ => r_iaE (p := oOf A18 + j * 1) rfl sl22 rfl rfl (by omega) (by omega) th30 rfl) ?_
                      refine d_val rfl rfl rfl (fun w ⟨Ar, H⟩ => r_ld rfl ty3 rfl (H.elA 1 rfl hx27 (q := 0) rfl rfl)) ?_
                      refine d_val rfl rfl rfl (fun w ⟨Ar, H⟩ => r_mv rfl rfl) ?_
                      refine d_val rfl rfl rfl (fun w ⟨Ar, H⟩ => r_ge rfl rfl rfl) ?_
                      refine d_val rfl rfl rfl (fun w ⟨Ar, H⟩ => r_pickF rfl rfl rfl) ?_
                      refine d_nil ?_
                      refine q_then ?_
                      refine c_env [(0, .int .i64 cn), (1, .int .i64 (1 + sz)), (2, .slice A1 acts.length c2), (7, .pointer (some ⟨b7, 0, none⟩)), (9, .int .i64 ((k : Nat) : Int)), (12, .slice A18 ((openL cn (1 + sz) (ackX cn e x x10.x x10.y)).length) c19), (13, .int .i64 ((j : Nat) : Int)), (123, .bool (decide (cn ≤ x26)))] ⟨rfl, rfl, rfl, rfl, rfl, rfl, rfl, rfl, trivial⟩ ?_
                      refine c_dec (p := cn ≤ x26) rfl (fun h31 => ?_) (fun h31 => ?_)
                      · exfalso; omega
                      · skip
                        refine c_skip ?_
                        refine q_blockN ?_
                        refine q_then ?_
                        refine c_env [(0, .int .i64 cn), (1, .int .i64 (1 + sz)), (2, .slice A1 acts.length c2), (7, .pointer (some ⟨b7, 0, none⟩)), (9, .int .i64 ((k : Nat) : Int)), (12, .slice A18 ((openL cn (1 + sz) (ackX cn e x x10.x x10.y)).length) c19), (13, .int .i64 ((j : Nat) : Int))] ⟨rfl, rfl, rfl, rfl, rfl, rfl, rfl, trivial⟩ ?_
                        refine c_reg ?_
                        refine s_val rfl rfl (r_mv rfl rfl) ?_
                        refine s_val rfl rfl (r_add (z := ((j + 1 : Nat) : Int)) rfl rfl rfl (by rw [w64 (by omega) (by omega)]; omega)) ?_
                        refine s_val rfl rfl (r_as rfl rfl) ?_
                        refine s_nil ?_
                        replace H := H.pick 1 rfl
                        replace H := H.pick 1 rfl
                        exact q_round (s := j) (j + 1) ⟨rfl, rfl, rfl, rfl, rfl, rfl, rfl, trivial⟩ ⟨H, by omega⟩ (by (try dsimp only); omega)
                  · skip
                    refine c_exit ?_
                    refine q_thenE ?_
                    refine q_thenE ?_
                    refine q_blockE ?_
                    refine q_blockN ?_
                    refine q_then ?_
                    refine c_env [(0, .int .i64 cn), (1, .int .i64 (1 + sz)), (2, .slice A1 acts.length c2), (7, .pointer (some ⟨b7, 0, none⟩)), (9, .int .i64 ((k : Nat) : Int))] ⟨rfl, rfl, rfl, rfl, rfl, trivial⟩ ?_
                    refine c_reg ?_
                    refine s_val rfl rfl (r_mv rfl rfl) ?_
                    refine s_val rfl rfl (r_add (z := ((k + 1 : Nat) : Int)) rfl rfl rfl (by rw [w64 (by omega) (by omega)]; omega)) ?_
                    refine s_val rfl rfl (r_as rfl rfl) ?_
                    refine s_nil ?_
                    replace H := H.keep 1
                    exact q_round (s := (k, e, x)) (k + 1, ackE cn e x x10.x x10.y, ackX cn e x x10.x x10.y) ⟨rfl, rfl, rfl, rfl, rfl, trivial⟩ ⟨H, by omega, hin.1, hin.2⟩ (by (try dsimp only); omega)
          · skip
            refine s_no rfl rfl ?_
            refine s_no rfl rfl ?_
            refine s_no rfl rfl ?_
            refine s_no rfl rfl ?_
            refine s_val rfl rfl (r_pickF rfl rfl rfl) ?_
            refine s_val rfl rfl (r_pickF rfl rfl rfl) ?_
            refine s_val rfl rfl (r_mv rfl rfl) ?_
            refine s_val rfl rfl (r_mv rfl rfl) ?_
            obtain ⟨A32, c33, rfl, hc34, hm35, hp36⟩ := H.fA 0 rfl
            refine s_val rfl rfl (r_lenL rfl un22 rfl) ?_
            refine s_val rfl rfl (r_mv rfl rfl) ?_
            refine s_val rfl rfl (r_mv rfl rfl) ?_
            refine s_val rfl rfl (r_mv rfl rfl) ?_
            replace H : Hd _ _ _ [osl (kInt .i64) (.slice A32 ((openL cn (1 + sz) (ackX cn e x x10.x x10.y)).length) c33) (openL cn (1 + sz) (ackX cn e x x10.x x10.y)), blk b7 [.int .i64 cn, .int .i64 (1 + sz), .int .i64 (ackE cn e x x10.x x10.y), .int .i64 (ackX cn e x x10.x x10.y)] 98] [rsl kAct2 (.slice A1 acts.length c2) acts] := H
            refine sc (wNext_ok b7 cn (1 + sz) (ackE cn e x x10.x x10.y) (ackX cn e x x10.x x10.y)) H (lA 1 rfl (fun _ h => h) l0) rfl rfl (e_fn kn40 rfl rfl) ?_
            rintro _ _ w ⟨rfl, rfl⟩ H
            refine s_val rfl rfl (r_sub (z := cn - (ackX cn e x x10.x x10.y)) rfl rfl rfl (w64 (by omega) (by omega))) ?_
            refine s_val rfl rfl (r_min (z := min (1 + sz) (cn - (ackX cn e x x10.x x10.y))) rfl rfl rfl rfl) ?_
            refine s_val rfl rfl (r_ne rfl rfl rfl) ?_
            refine s_val rfl rfl (r_pickF rfl rfl rfl) ?_
            refine s_val rfl rfl (r_mv rfl rfl) ?_
            refine s_dec (d := 93) (p := (((openL cn (1 + sz) (ackX cn e x x10.x x10.y)).length : Nat) : Int) ≠ (min (1 + sz) (cn - (ackX cn e x x10.x x10.y)))) rfl (fun h37 => ?_) (fun h37 => ?_)
            · exfalso; omega
            · skip
              refine s_val rfl rfl (r_mv rfl rfl) ?_
              replace H : Hd _ _ _ [osl (kInt .i64) (.slice A32 ((openL cn (1 + sz) (ackX cn e x x10.x x10.y)).length) c33) (openL cn (1 + sz) (ackX cn e x x10.x x10.y)), blk b7 [.int .i64 cn, .int .i64 (1 + sz), .int .i64 (ackE cn e x x10.x x10.y), .int .i64 (ackX cn e x x10.x x10.y)] 98] [rsl kAct2 (.slice A1 acts.length c2) acts] := H
              refine sc (wDone_ok b7 cn (1 + sz) (ackE cn e x x10.x x10.y) (ackX cn e x x10.x x10.y)) H (lA 1 rfl (fun _ h => h) l0) rfl rfl (e_fn kn42 rfl rfl) ?_
              rintro _ _ w ⟨rfl, rfl⟩ H
              refine s_val rfl rfl (r_mv rfl rfl) ?_
              refine s_val rfl rfl (r_lenL rfl un22 rfl) ?_
              refine s_val rfl rfl (r_eq rfl rfl rfl) ?_
              refine s_val rfl rfl (r_bne rfl un4 rfl rfl) ?_
              refine s_val rfl rfl (r_pickF rfl rfl rfl) ?_
              refine s_nil ?_
              refine q_then ?_
              replace H : Hd _ _ _ [osl (kInt .i64) (.slice A32 ((openL cn (1 + sz) (ackX cn e x x10.x x10.y)).length) c33) (openL cn (1 + sz) (ackX cn e x x10.x x10.y)), blk b7 [.int .i64 cn, .int .i64 (1 + sz), .int .i64 (ackE cn e x x10.x x10.y), .int .i64 (ackX cn e x x10.x x10.y)] 98] [rsl kAct2 (.slice A1 acts.length c2) acts] := H
              refine c_env [(0, .int .i64 cn), (1, .int .i64 (1 + sz)), (2, .slice A1 acts.length c2), (7, .pointer (some ⟨b7, 0, none⟩)), (9, .int .i64 ((k : Nat) : Int)), (12, .slice A32 ((openL cn (1 + sz) (ackX cn e x x10.x x10.y)).length) c33), (100, .bool (decide ((decide ((ackX cn e x x10.x x10.y) = cn)) ≠ (decide ((((openL cn (1 + sz) (ackX cn e x x10.x x10.y)).length : Nat) : Int) = 0)))))] ⟨rfl, rfl, rfl, rfl, rfl, rfl, rfl, trivial⟩ ?_
              refine c_dec (p := (decide ((ackX cn e x x10.x x10.y) = cn)) ≠ (decide ((((openL cn (1 + sz) (ackX cn e x x10.x x10.y)).length : Nat) : Int) = 0))) rfl (fun h38 => ?_) (fun h38 => ?_)
              · exact (h38 (by simp only [decide_eq_decide]; omega)).elim
              · skip
                refine c_skip ?_
                refine q_then ?_
                refine c_env [(0, .int .i64 cn), (1, .int .i64 (1 + sz)), (2, .slice A1 acts.length c2), (7, .pointer (some ⟨b7, 0, none⟩)), (9, .int .i64 ((k : Nat) : Int)), (12, .slice A32 ((openL cn (1 + sz) (ackX cn e x x10.x x10.y)).length) c33)] ⟨rfl, rfl, rfl, rfl, rfl, rfl, trivial⟩ ?_
                refine c_seq ?_
                refine c_reg ?_
                refine s_val rfl rfl (r_as rfl rfl) ?_
                refine s_nil ?_
                refine q_then ?_
                refine c_env [(0, .int .i64 cn), (1, .int .i64 (1 + sz)), (2, .slice A1 acts.length c2), (7, .pointer (some ⟨b7, 0, none⟩)), (9, .int .i64 ((k : Nat) : Int)), (12, .slice A32 ((openL cn (1 + sz) (ackX cn e x x10.x x10.y)).length) c33), (13, .int .i64 0)] ⟨rfl, rfl, rfl, rfl, rfl, rfl, rfl, trivial⟩ ?_
                refine c_block ?_
                replace H := H.pick 1 rfl
                refine c_loop (σ := Nat) (fun j => [(0, .int .i64 cn), (1, .int .i64 (1 + sz)), (2, .slice A1 acts.length c2), (7, .pointer (some ⟨b7, 0, none⟩)), (9, .int .i64 ((k : Nat) : Int)), (12, .slice A32 ((openL cn (1 + sz) (ackX cn e x x10.x x10.y)).length) c33), (13, .int .i64 ((j : Nat) : Int))]) (fun j w => (Hd w0 F0 w [blk b7 [.int .i64 cn, .int .i64 (1 + sz), .int .i64 (ackE cn e x x10.x x10.y), .int .i64 (ackX cn e x x10.x x10.y)] 98, osl (kInt .i64) (.slice A32 ((openL cn (1 + sz) (ackX cn e x x10.x x10.y)).length) c33) (openL cn (1 + sz) (ackX cn e x x10.x x10.y))] [rsl kAct2 (.slice A1 acts.length c2) acts]) ∧ (j ≤ (openL cn (1 + sz) (ackX cn e x x10.x x10.y)).length)) (fun j => (openL cn (1 + sz) (ackX cn e x x10.x x10.y)).length - j) 0 ⟨rfl, rfl, rfl, rfl, rfl, rfl, rfl, trivial⟩ ⟨H, by omega⟩ ?_
                rintro j w ⟨H, hj⟩
                refine c_seq ?_
                refine c_seq ?_
                refine c_reg ?_
                refine s_val rfl rfl (r_mv rfl rfl) ?_
                refine s_val rfl rfl (r_mv rfl rfl) ?_
                refine s_val rfl rfl (r_lenL rfl un22 rfl) ?_
                refine s_val rfl rfl (r_lt rfl rfl rfl) ?_
                refine s_nil ?_
                refine q_then ?_
                refine c_env [(0, .int .i64 cn), (1, .int .i64 (1 + sz)), (2, .slice A1 acts.length c2), (7, .pointer (some ⟨b7, 0, none⟩)), (9, .int .i64 ((k : Nat) : Int)), (12, .slice A32 ((openL cn (1 + sz) (ackX cn e x x10.x x10.y)).length) c33), (13, .int .i64 ((j : Nat) : Int)), (104, .bool (decide (((j : Nat) : Int) < (((openL cn (1 + sz) (ackX cn e x x10.x x10.y)).length : Nat) : Int))))] ⟨rfl, rfl, rfl, rfl, rfl, rfl, rfl, rfl, trivial⟩ ?_
                refine c_dec (p := ((j : Nat) : Int) < (((openL cn (1 + sz) (ackX cn e x x10.x x10.y)).length : Nat) : Int)) rfl (fun h39 => ?_) (fun h39 => ?_)
                · skip
                  refine c_skip ?_
                  refine q_then ?_
                  refine c_env [(0, .int .i64 cn), (1, .int .i64 (1 + sz)), (2, .slice A1 acts.length c2), (7, .pointer (some ⟨b7, 0, none⟩)), (9, .int .i64 ((k : Nat) : Int)), (12, .slice A32 ((openL cn (1 + sz) (ackX cn e x x10.x x10.y)).length) c33), (13, .int .i64 ((j : Nat) : Int))] ⟨rfl, rfl, rfl, rfl, rfl, rfl, rfl, trivial⟩ ?_
                  refine c_seq ?_
                  refine c_block ?_
                  refine c_seq ?_
                  replace H := H.pick 1 rfl
                  replace H := H.pick 1 rfl
                  replace H : Hd _ _ _ [blk b7 [.int .i64 cn, .int .i64 (1 + sz), .int .i64 (ackE cn e x x10.x x10.y), .int .i64 (ackX cn e x x10.x x10.y)] 98, osl (kInt .i64) (.slice A32 ((openL cn (1 + sz) (ackX cn e x x10.x x10.y)).length) c33) (openL cn (1 + sz) (ackX cn e x x10.x x10.y))] [rsl kAct2 (.slice A1 acts.length c2) acts] := H
                  refine c_ord (.e 0 (.e 1 (.e 2 (.e 3 (.e 4 (.e 6 (.m 5 (.e 7 (.e 8 (.e 9 (.e 10 (.e 11 (.e 12 (.e 13 (.e 14 (.e 15 (.e 16 .z))))))))))))))))) (fun w => ∃ Ar, Hd w0 F0 w (blk b7 [.int .i64 cn, .int .i64 (1 + sz), .int .i64 (ackE cn e x x10.x x10.y), .int .i64 (ackX cn e x x10.x x10.y)] 98 :: osl (kInt .i64) (.slice A32 ((openL cn (1 + sz) (ackX cn e x x10.x x10.y)).length) c33) (openL cn (1 + sz) (ackX cn e x x10.x x10.y)) :: Ar) [rsl kAct2 (.slice A1 acts.length c2) acts]) mo (by kernel_rfl) (fun w H => ⟨_, H⟩) H (fun w H => ?_)
                  refine d_val rfl rfl rfl (fun w ⟨Ar, H⟩ => r_mv rfl rfl) ?_
                  refine d_val rfl rfl rfl (fun w ⟨Ar, H⟩ => r_mv rfl rfl) ?_
                  obtain ⟨x40, hx41⟩ : ∃ z9, (openL cn (1 + sz) (ackX cn e x x10.x x10.y))[j]? = some z9 := ⟨_, List.getElem?_eq_getElem (show j < (openL cn (1 + sz) (ackX cn e x x10.x x10.y)).length by omega)⟩
                  have th42 := H.thA 1 rfl hx41
                  refine d_val rfl rfl rfl (fun w ⟨Ar, H⟩ => r_iaE (p := oOf A32 + j * 1) rfl sl22 rfl rfl (by omega) (by omega) th42 rfl) ?_
                  refine d_val rfl rfl rfl (fun w ⟨Ar, H⟩ => r_ld rfl ty3 rfl (H.elA 1 rfl hx41 (q := 0) rfl rfl)) ?_
                  refine d_val rfl rfl rfl (fun w ⟨Ar, H⟩ => r_mv rfl rfl) ?_
                  refine d_val rfl rfl rfl (fun w ⟨Ar, H⟩ => r_mv rfl rfl) ?_
                  refine d_main rfl ?_
                  refine sc (wNext_ok b7 cn (1 + sz) (ackE cn e x x10.x x10.y) (ackX cn e x x10.x x10.y)) H (lA 0 rfl (fun _ h => h) l0) rfl rfl (e_fn kn40 rfl rfl) ?_
                  rintro _ _ w ⟨rfl, rfl⟩ H
                  replace H := H.pick 1 rfl
                  replace H := H.pick 1 rfl
                  replace H : Hd _ _ _ [blk b7 [.int .i64 cn, .int .i64 (1 + sz), .int .i64 (ackE cn e x x10.x x10.y), .int .i64 (ackX cn e x x10.x x10.y)] 98, osl (kInt .i64) (.slice A32 ((openL cn (1 + sz) (ackX cn e x x10.x x10.y)).length) c33) (openL cn (1 + sz) (ackX cn e x x10.x x10.y))] [rsl kAct2 (.slice A1 acts.length c2) acts] := H
                  refine d_back ⟨_, H⟩ ?_
                  refine d_val rfl rfl rfl (fun w ⟨Ar, H⟩ => r_add (z := (ackX cn e x x10.x x10.y) + ((j : Nat) : Int)) rfl rfl rfl (w64 (by omega) (by omega))) ?_
                  refine d_val rfl rfl rfl (fun w ⟨Ar, H⟩ => r_ne rfl rfl rfl) ?_
                  refine d_val rfl rfl rfl (fun w ⟨Ar, H⟩ => r_mv rfl rfl) ?_
                  refine d_dec (d := 116) (p := x40 ≠ ((ackX cn e x x10.x x10.y) + ((j : Nat) : Int))) rfl (fun h43 => ?_) (fun h43 => ?_)
                  · exact absurd (upL_get hx41) (by omega)
                  · skip
                    refine d_val rfl rfl rfl (fun w ⟨Ar, H⟩ => r_mv rfl rfl) ?_
                    refine d_val rfl rfl rfl (fun w ⟨Ar, H⟩ => r_mv rfl rfl) ?_
                    have th44 := H.thA 1 rfl hx41
                    refine d_val rfl rfl rfl (fun w ⟨Ar, H⟩ => r_iaE (p := oOf A32 + j * 1) rfl sl22 rfl rfl (by omega) (by omega) th44 rfl) ?_
                    refine d_val rfl rfl rfl (fun w ⟨Ar, H⟩ => r_ld rfl ty3 rfl (H.elA 1 rfl hx41 (q := 0) rfl rfl)) ?_
                    refine d_val rfl rfl rfl (fun w ⟨Ar, H⟩ => r_mv rfl rfl) ?_
                    refine d_val rfl rfl rfl (fun w ⟨Ar, H⟩ => r_ge rfl rfl rfl) ?_
                    refine d_val rfl rfl rfl (fun w ⟨Ar, H⟩ => r_pickF rfl rfl rfl) ?_
                    refine d_nil ?_
                    refine q_then ?_
                    refine c_env [(0, .int .i64 cn), (1, .int .i64 (1 + sz)), (2, .slice A1 acts.length c2), (7, .pointer (some ⟨b7, 0, none⟩)), (9, .int .i64 ((k : Nat) : Int)), (12, .slice A32 ((openL cn (1 + sz) (ackX cn e x x10.x x10.y)).length) c33), (13, .int .i64 ((j : Nat) : Int)), (123, .bool (decide (cn ≤ x40)))] ⟨rfl, rfl, rfl, rfl, rfl, rfl, rfl, rfl, trivial⟩ ?_
                    refine c_dec (p := cn ≤ x40) rfl (fun h45 => ?_) (fun h45 => ?_)
                    · exfalso; omega
                    · skip
                      refine c_skip ?_
                      refine q_blockN ?_
                      refine q_then ?_
                      refine c_env [(0, .int .i64 cn), (1, .int .i64 (1 + sz)), (2, .slice A1 acts.length c2), (7, .pointer (some ⟨b7, 0, none⟩)), (9, .int .i64 ((k : Nat) : Int)), (12, .slice A32 ((openL cn (1 + sz) (ackX cn e x x10.x x10.y)).length) c33), (13, .int .i64 ((j : Nat) : Int))] ⟨rfl, rfl, rfl, rfl, rfl, rfl, rfl, trivial⟩ ?_
                      refine c_reg ?_
                      refine s_val rfl rfl (r_mv rfl rfl) ?_
                      refine s_val rfl rfl (r_add (z := ((j + 1 : Nat) : Int)) rfl rfl rfl (by rw [w64 (by omega) (by omega)]; omega)) ?_
                      refine s_val rfl rfl (r_as rfl rfl) ?_
                      refine s_nil ?_
                      replace H := H.pick 1 rfl
                      replace H := H.pick 1 rfl
                      exact q_round (s := j) (j + 1) ⟨rfl, rfl, rfl, rfl, rfl, rfl, rfl, trivial⟩ ⟨H, by omega⟩ (by (try dsimp only); omega)
                · skip
                  refine c_exit ?_
                  refine q_thenE ?_
                  refine q_thenE ?_
                  refine q_blockE ?_
                  refine q_blockN ?_
                  refine q_then ?_
                  refine c_env [(0, .int .i64 cn), (1, .int .i64 (1 + sz)), (2, .slice A1 acts.length c2), (7, .pointer (some ⟨b7, 0, none⟩)), (9, .int .i64 ((k : Nat) : Int))] ⟨rfl, rfl, rfl, rfl, rfl, trivial⟩ ?_
                  refine c_reg ?_
                  refine s_val rfl rfl (r_mv rfl rfl) ?_
                  refine s_val rfl rfl (r_add (z := ((k + 1 : Nat) : Int)) rfl rfl rfl (by rw [w64 (by omega) (by omega)]; omega)) ?_
                  refine s_val rfl rfl (r_as rfl rfl) ?_
                  refine s_nil ?_
                  replace H := H.keep 1
                  exact q_round (s := (k, e, x)) (k + 1, ackE cn e x x10.x x10.y, ackX cn e x x10.x x10.y) ⟨rfl, rfl, rfl, rfl, rfl, trivial⟩ ⟨H, by omega, hin.1, hin.2⟩ (by (try dsimp only); omega)
      · skip
        refine c_exit ?_
        refine q_thenE ?_
        refine q_thenE ?_
        refine q_blockE ?_
        refine q_then ?_
        refine c_env [] trivial ?_
        refine c_seq ?_
        refine c_reg ?_
        refine sc (awake17_ok ) H l0 rfl rfl (e_fn kn31 rfl rfl) ?_
        rintro _ _ w ⟨rfl, rfl⟩ H
        refine s_val rfl rfl (r_as rfl rfl) ?_
        refine s_nil ?_
        refine q_then ?_
        refine c_env [(6, .bool true)] ⟨rfl, trivial⟩ ?_
        refine c_ret ?_
        refine q_ret1 rfl rfl ?_
        replace H := H.keep 0
        exact fin ⟨rfl, rfl⟩ H

set_option maxHeartbeats 1000000 in
theorem windowRuns_ok (count : Int) (wcount : In64 count) (size : Int) (wsize : In64 size) (epoch : Int) (wepoch : In64 epoch) :
    Cn Try.prog 8 [.int .i64 count, .int .i64 size, .int .i64 epoch] [] [] (fun v Bs => v = .bool true ∧ Bs = []) := by
  intro w0 F0 H
  unfold In64 at wcount
  unfold In64 at wsize
  unfold In64 at wepoch
  refine enter (args := [.int .i64 count, .int .i64 size, .int .i64 epoch]) Try.func8 rfl rfl (Nat.le_of_ble_eq_true rfl) ?_
  refine c_seq ?_
  refine c_reg ?_
  refine s_val rfl rfl (r_as rfl rfl) ?_
  refine s_nil ?_
  refine q_then ?_
  refine c_env [(0, .int .i64 count), (1, .int .i64 size), (2, .int .i64 epoch), (6, .bool false)] ⟨rfl, rfl, rfl, rfl, trivial⟩ ?_
  refine c_seq ?_
  refine c_reg ?_
  refine s_val rfl rfl (r_mv rfl rfl) ?_
  refine sc (low_ok count 41 (by unfold In64; omega) (by omega) (by omega)) H l0 rfl rfl (e_fn kn30 rfl rfl) ?_
  rintro _ _ w ⟨rfl, rfl⟩ H
  refine s_val rfl rfl (r_mv rfl rfl) ?_
  refine sc (low_ok size 4 (by unfold In64; omega) (by omega) (by omega)) H l0 rfl rfl (e_fn kn30 rfl rfl) ?_
  rintro _ _ w ⟨rfl, rfl⟩ H
  refine s_val rfl rfl (r_add (z := 1 + (IntKind.u64.wrap size % 4)) rfl rfl rfl (w64 (by omega) (by omega))) ?_
  refine s_val rfl rfl (r_mv rfl rfl) ?_
  refine sc (low_ok epoch 1000 (by unfold In64; omega) (by omega) (by omega)) H l0 rfl rfl (e_fn kn30 rfl rfl) ?_
  rintro _ _ w ⟨rfl, rfl⟩ H
  refine s_val rfl rfl (r_add (z := 1 + (IntKind.u64.wrap epoch % 1000)) rfl rfl rfl (w64 (by omega) (by omega))) ?_
  refine s_val rfl rfl (r_as rfl rfl) ?_
  refine s_val rfl rfl (r_as rfl rfl) ?_
  refine s_val rfl rfl (r_as rfl rfl) ?_
  refine s_nil ?_
  refine q_then ?_
  refine c_env [(0, .int .i64 (IntKind.u64.wrap count % 41)), (1, .int .i64 (1 + (IntKind.u64.wrap size % 4))), (2, .int .i64 (1 + (IntKind.u64.wrap epoch % 1000))), (6, .bool false)] ⟨rfl, rfl, rfl, rfl, trivial⟩ ?_
  refine c_seq ?_
  have hcn := low_in count (n := 41) (by omega)
  generalize IntKind.u64.wrap count % 41 = cn at hcn ⊢
  have hsz := low_in size (n := 4) (by omega)
  generalize IntKind.u64.wrap size % 4 = sz at hsz ⊢
  have hep := low_in epoch (n := 1000) (by omega)
  generalize IntKind.u64.wrap epoch % 1000 = ep at hep ⊢
  refine c_reg ?_
  refine s_val rfl rfl (r_mv rfl rfl) ?_
  refine s_val rfl rfl (r_mv rfl rfl) ?_
  refine sc (wNew_ok cn (1 + sz) (by omega)) H l0 rfl rfl (e_fn kn32 rfl rfl) ?_
  rintro _ _ w ⟨b1, rfl, rfl⟩ H
  refine s_val rfl rfl (r_mv rfl rfl) ?_
  refine s_val rfl rfl (r_ex rfl rfl rfl) ?_
  refine s_val rfl rfl (r_ex rfl rfl rfl) ?_
  refine s_val rfl rfl (r_as rfl rfl) ?_
  refine s_val rfl rfl (r_as rfl rfl) ?_
  refine s_nil ?_
  refine q_then ?_
  replace H : Hd _ _ _ [blk b1 [.int .i64 cn, .int .i64 (1 + sz), .int .i64 0, .int .i64 0] 98] [] := H
  refine c_env [(0, .int .i64 cn), (2, .int .i64 (1 + ep)), (6, .bool false), (7, .pointer (some ⟨b1, 0, none⟩)), (8, .int .i64 0)] ⟨rfl, rfl, rfl, rfl, rfl, trivial⟩ ?_
  refine c_seq ?_
  refine c_seq ?_
  refine c_reg ?_
  refine s_val rfl rfl (r_mv rfl rfl) ?_
  refine s_val rfl rfl (r_ne rfl rfl rfl) ?_
  refine s_val rfl rfl (r_mv rfl rfl) ?_
  refine s_val rfl rfl (r_mv rfl rfl) ?_
  refine s_val rfl rfl (r_peq rfl un32 rfl rfl) ?_
  refine s_val rfl rfl (r_pickF rfl rfl rfl) ?_
  refine s_nil ?_
  refine q_then ?_
  refine c_env [(0, .int .i64 cn), (2, .int .i64 (1 + ep)), (6, .bool false), (7, .pointer (some ⟨b1, 0, none⟩)), (30, .bool false)] ⟨rfl, rfl, rfl, rfl, rfl, trivial⟩ ?_
  refine c_no rfl ?_
  refine c_skip ?_
  refine q_then ?_
  refine c_env [(0, .int .i64 cn), (2, .int .i64 (1 + ep)), (6, .bool false), (7, .pointer (some ⟨b1, 0, none⟩))] ⟨rfl, rfl, rfl, rfl, trivial⟩ ?_
  refine c_seq ?_
  refine c_seq ?_
  refine c_reg ?_
  refine s_val rfl rfl (r_as rfl rfl) ?_
  refine s_nil ?_
  refine q_then ?_
  refine c_env [(0, .int .i64 cn), (2, .int .i64 (1 + ep)), (6, .bool false), (7, .pointer (some ⟨b1, 0, none⟩)), (9, .int .i64 0)] ⟨rfl, rfl, rfl, rfl, rfl, trivial⟩ ?_
  refine c_block ?_
  refine c_loop (σ := Nat × Int) (fun (k, e) => [(0, .int .i64 cn), (2, .int .i64 (1 + ep)), (7, .pointer (some ⟨b1, 0, none⟩)), (9, .int .i64 ((k : Nat) : Int))]) (fun (k, e) w => (Hd w0 F0 w [blk b1 [.int .i64 cn, .int .i64 (1 + sz), .int .i64 e, .int .i64 ((k : Nat) : Int)] 98] []) ∧ (((k : Nat) : Int) ≤ cn) ∧ (0 ≤ e ∧ e ≤ 1 + ep)) (fun (k, e) => cn.toNat - k) (0, 0) ⟨rfl, rfl, rfl, rfl, trivial⟩ ⟨H, by (try dsimp only); omega, by (try dsimp only); omega⟩ ?_
  rintro ⟨k, e⟩ w ⟨H, hk, he⟩
  refine c_seq ?_
  refine c_seq ?_
  refine c_reg ?_
  refine s_val rfl rfl (r_mv rfl rfl) ?_
  refine s_val rfl rfl (r_mv rfl rfl) ?_
  refine s_val rfl rfl (r_lt rfl rfl rfl) ?_
  refine s_nil ?_
  refine q_then ?_
  refine c_env [(0, .int .i64 cn), (2, .int .i64 (1 + ep)), (7, .pointer (some ⟨b1, 0, none⟩)), (9, .int .i64 ((k : Nat) : Int)), (33, .bool (decide (((k : Nat) : Int) < cn)))] ⟨rfl, rfl, rfl, rfl, rfl, trivial⟩ ?_
  refine c_dec (p := ((k : Nat) : Int) < cn) rfl (fun h2 => ?_) (fun h2 => ?_)
  · skip
    refine c_skip ?_
    refine q_then ?_
    refine c_env [(0, .int .i64 cn), (2, .int .i64 (1 + ep)), (7, .pointer (some ⟨b1, 0, none⟩)), (9, .int .i64 ((k : Nat) : Int))] ⟨rfl, rfl, rfl, rfl, trivial⟩ ?_
    refine c_seq ?_
    refine c_block ?_
    refine c_seq ?_
    refine c_reg ?_
    refine s_val rfl rfl (r_mv rfl rfl) ?_
    refine sc (wOpen_ok b1 cn (1 + sz) e ((k : Nat) : Int) (by first | omega | decide) (by first | omega | decide)) H (lA 0 rfl (fun _ h => h) l0) rfl rfl (e_fn kn37 rfl rfl) ?_
    rintro v3 _ w rfl H
    have hlen := openL_len cn (1 + sz) ((k : Nat) : Int)
    refine s_val rfl rfl (r_as rfl rfl) ?_
    refine s_nil ?_
    refine q_then ?_
    replace H : Hd _ _ _ [osl (kInt .i64) v3 (openL cn (1 + sz) ((k : Nat) : Int)), blk b1 [.int .i64 cn, .int .i64 (1 + sz), .int .i64 e, .int .i64 ((k : Nat) : Int)] 98] [] := H
    refine c_env [(0, .int .i64 cn), (2, .int .i64 (1 + ep)), (7, .pointer (some ⟨b1, 0, none⟩)), (9, .int .i64 ((k : Nat) : Int)), (10, v3)] ⟨rfl, rfl, rfl, rfl, rfl, trivial⟩ ?_
    refine c_seq ?_
    have hlen := openL_len cn (1 + sz) ((k : Nat) : Int)
    obtain ⟨ra1, ra2, ra3⟩ := ack_yes (c := cn) (e := e) (x := ((k : Nat) : Int)) (ep := 1 + ep) (n := ((k + 1 : Nat) : Int)) (by unfold ackN; omega)
    replace ra3 : ackX cn e ((k : Nat) : Int) (1 + ep) ((k + 1 : Nat) : Int) = ((k + 1 : Nat) : Int) := by rw [ra3]; unfold ackN; omega
    obtain ⟨rb1, rb2, rb3⟩ := ack_no (c := cn) (e := 1 + ep) (x := ((k + 1 : Nat) : Int)) (ep := 1 + ep) (n := ((k + 1 : Nat) : Int)) (by unfold ackN; omega)
    obtain ⟨rc1, rc2, rc3⟩ := ack_no (c := cn) (e := 1 + ep) (x := ((k + 1 : Nat) : Int)) (ep := 1 + ep - 1) (n := 40) (by omega)
    refine c_reg ?_
    refine s_val rfl rfl (r_mv rfl rfl) ?_
    obtain ⟨A4, c5, rfl, hc6, hm7, hp8⟩ := H.fA 0 rfl
    refine s_val rfl rfl (r_lenL rfl un22 rfl) ?_
    refine s_val rfl rfl (r_eq rfl rfl rfl) ?_
    refine s_val rfl rfl (r_mv rfl rfl) ?_
    refine s_dec (d := 41) (p := (((openL cn (1 + sz) ((k : Nat) : Int)).length : Nat) : Int) = 0) rfl (fun h9 => ?_) (fun h9 => ?_)
    · exfalso; omega
    · skip
      refine s_val rfl rfl (r_mv rfl rfl) ?_
      obtain ⟨x10, hx11⟩ : ∃ z9, (openL cn (1 + sz) ((k : Nat) : Int))[0]? = some z9 := ⟨_, List.getElem?_eq_getElem (show 0 < (openL cn (1 + sz) ((k : Nat) : Int)).length by omega)⟩
      have th12 := H.thA 0 rfl hx11
      refine s_val rfl rfl (r_iaE (p := oOf A4 + 0 * 1) rfl sl22 rfl rfl (by omega) (by omega) th12 (by omega)) ?_
      refine s_val rfl rfl (r_ld rfl ty3 rfl (H.elA 0 rfl hx11 (q := 0) rfl rfl)) ?_
      refine s_val rfl rfl (r_mv rfl rfl) ?_
      refine s_val rfl rfl (r_ne rfl rfl rfl) ?_
      refine s_val rfl rfl (r_pickF rfl rfl rfl) ?_
      refine s_val rfl rfl (r_mv rfl rfl) ?_
      refine s_dec (d := 48) (p := x10 ≠ ((k : Nat) : Int)) rfl (fun h13 => ?_) (fun h13 => ?_)
      · exact absurd (upL_get hx11) (by omega)
      · skip
        refine s_val rfl rfl (r_mv rfl rfl) ?_
        replace H : Hd _ _ _ [osl (kInt .i64) (.slice A4 ((openL cn (1 + sz) ((k : Nat) : Int)).length) c5) (openL cn (1 + sz) ((k : Nat) : Int)), blk b1 [.int .i64 cn, .int .i64 (1 + sz), .int .i64 e, .int .i64 ((k : Nat) : Int)] 98] [] := H
        refine sc (wDone_ok b1 cn (1 + sz) e ((k : Nat) : Int)) H (lA 1 rfl (fun _ h => h) l0) rfl rfl (e_fn kn42 rfl rfl) ?_
        rintro _ _ w ⟨rfl, rfl⟩ H
        refine s_val rfl rfl (r_pickF rfl rfl rfl) ?_
        refine s_val rfl rfl (r_mv rfl rfl) ?_
        refine s_dec (d := 52) (p := ((k : Nat) : Int) = cn) rfl (fun h14 => ?_) (fun h14 => ?_)
        · exfalso; omega
        · skip
          refine s_val rfl rfl (r_mv rfl rfl) ?_
          refine s_val rfl rfl (r_mv rfl rfl) ?_
          refine s_val rfl rfl (r_mv rfl rfl) ?_
          refine s_val rfl rfl (r_add (z := ((k + 1 : Nat) : Int)) rfl rfl rfl (by rw [w64 (by omega) (by omega)]; omega)) ?_
          replace H := H.pick 1 rfl
          replace H : Hd _ _ _ [blk b1 [.int .i64 cn, .int .i64 (1 + sz), .int .i64 e, .int .i64 ((k : Nat) : Int)] 98, osl (kInt .i64) (.slice A4 ((openL cn (1 + sz) ((k : Nat) : Int)).length) c5) (openL cn (1 + sz) ((k : Nat) : Int))] [] := H
          refine sc (wAck_ok b1 cn (1 + sz) e ((k : Nat) : Int) (1 + ep) ((k + 1 : Nat) : Int)) H l0 rfl rfl (e_fn kn35 rfl rfl) ?_
          rintro _ _ w ⟨rfl, rfl⟩ H
          rw [ra1]; rw [ra2, ra3] at H
          refine s_val rfl rfl (r_not rfl rfl rfl) ?_
          refine s_val rfl rfl (r_pickF rfl rfl rfl) ?_
          refine s_val rfl rfl (r_mv rfl rfl) ?_
          refine s_val rfl rfl (r_mv rfl rfl) ?_
          refine s_val rfl rfl (r_mv rfl rfl) ?_
          refine s_val rfl rfl (r_mv rfl rfl) ?_
          refine s_val rfl rfl (r_add (z := ((k + 1 : Nat) : Int)) rfl rfl rfl (by rw [w64 (by omega) (by omega)]; omega)) ?_
          replace H : Hd _ _ _ [blk b1 [.int .i64 cn, .int .i64 (1 + sz), .int .i64 (1 + ep), .int .i64 ((k + 1 : Nat) : Int)] 98, osl (kInt .i64) (.slice A4 ((openL cn (1 + sz) ((k : Nat) : Int)).length) c5) (openL cn (1 + sz) ((k : Nat) : Int))] [] := H
          refine sc (wAck_ok b1 cn (1 + sz) (1 + ep) ((k + 1 : Nat) : Int) (1 + ep) ((k + 1 : Nat) : Int)) H l0 rfl rfl (e_fn kn35 rfl rfl) ?_
          rintro _ _ w ⟨rfl, rfl⟩ H
          rw [rb1]; rw [rb2, rb3] at H
          refine s_val rfl rfl (r_pickF rfl rfl rfl) ?_
          refine s_val rfl rfl (r_mv rfl rfl) ?_
          refine s_val rfl rfl (r_mv rfl rfl) ?_
          refine s_val rfl rfl (r_gt rfl rfl rfl) ?_
          refine s_val rfl rfl (r_mv rfl rfl) ?_
          refine s_dec (d := 70) (p := (1 : Int) < (1 + ep)) rfl (fun h15 => ?_) (fun h15 => ?_)
          · skip
            refine s_val rfl rfl (r_mv rfl rfl) ?_
            refine s_val rfl rfl (r_mv rfl rfl) ?_
            refine s_val rfl rfl (r_sub (z := (1 + ep) - 1) rfl rfl rfl (w64 (by omega) (by omega))) ?_
            replace H : Hd _ _ _ [blk b1 [.int .i64 cn, .int .i64 (1 + sz), .int .i64 (1 + ep), .int .i64 ((k + 1 : Nat) : Int)] 98, osl (kInt .i64) (.slice A4 ((openL cn (1 + sz) ((k : Nat) : Int)).length) c5) (openL cn (1 + sz) ((k : Nat) : Int))] [] := H
            refine sc (wAck_ok b1 cn (1 + sz) (1 + ep) ((k + 1 : Nat) : Int) ((1 + ep) - 1) 40) H l0 rfl rfl (e_fn kn35 rfl rfl) ?_
            rintro _ _ w ⟨rfl, rfl⟩ H
            rw [rc1]; rw [rc2, rc3] at H
            refine s_val rfl rfl (r_pickT rfl rfl rfl) ?_
            refine s_val rfl rfl (r_pickF rfl rfl rfl) ?_
            refine s_nil ?_
            refine q_then ?_
            replace H : Hd _ _ _ [blk b1 [.int .i64 cn, .int .i64 (1 + sz), .int .i64 (1 + ep), .int .i64 ((k + 1 : Nat) : Int)] 98, osl (kInt .i64) (.slice A4 ((openL cn (1 + sz) ((k : Nat) : Int)).length) c5) (openL cn (1 + sz) ((k : Nat) : Int))] [] := H
            refine c_env [(0, .int .i64 cn), (2, .int .i64 (1 + ep)), (7, .pointer (some ⟨b1, 0, none⟩)), (9, .int .i64 ((k : Nat) : Int)), (76, .bool false)] ⟨rfl, rfl, rfl, rfl, rfl, trivial⟩ ?_
            refine c_no rfl ?_
            refine c_skip ?_
            refine q_blockN ?_
            refine q_then ?_
            refine c_env [(0, .int .i64 cn), (2, .int .i64 (1 + ep)), (7, .pointer (some ⟨b1, 0, none⟩)), (9, .int .i64 ((k : Nat) : Int))] ⟨rfl, rfl, rfl, rfl, trivial⟩ ?_
            refine c_reg ?_
            refine s_val rfl rfl (r_mv rfl rfl) ?_
            refine s_val rfl rfl (r_add (z := ((k + 1 : Nat) : Int)) rfl rfl rfl (by rw [w64 (by omega) (by omega)]; omega)) ?_
            refine s_val rfl rfl (r_as rfl rfl) ?_
            refine s_nil ?_
            replace H := H.keep 1
            exact q_round (s := (k, e)) (k + 1, 1 + ep) ⟨rfl, rfl, rfl, rfl, trivial⟩ ⟨H, by omega, by omega⟩ (by (try dsimp only); omega)
          · skip
            refine s_no rfl rfl ?_
            refine s_no rfl rfl ?_
            refine s_no rfl rfl ?_
            refine s_no rfl rfl ?_
            refine s_val rfl rfl (r_pickF rfl rfl rfl) ?_
            refine s_val rfl rfl (r_pickF rfl rfl rfl) ?_
            refine s_nil ?_
            refine q_then ?_
            replace H : Hd _ _ _ [blk b1 [.int .i64 cn, .int .i64 (1 + sz), .int .i64 (1 + ep), .int .i64 ((k + 1 : Nat) : Int)] 98, osl (kInt .i64) (.slice A4 ((openL cn (1 + sz) ((k : Nat) : Int)).length) c5) (openL cn (1 + sz) ((k : Nat) : Int))] [] := H
            refine c_env [(0, .int .i64 cn), (2, .int .i64 (1 + ep)), (7, .pointer (some ⟨b1, 0, none⟩)), (9, .int .i64 ((k : Nat) : Int)), (76, .bool false)] ⟨rfl, rfl, rfl, rfl, rfl, trivial⟩ ?_
            refine c_no rfl ?_
            refine c_skip ?_
            refine q_blockN ?_
            refine q_then ?_
            refine c_env [(0, .int .i64 cn), (2, .int .i64 (1 + ep)), (7, .pointer (some ⟨b1, 0, none⟩)), (9, .int .i64 ((k : Nat) : Int))] ⟨rfl, rfl, rfl, rfl, trivial⟩ ?_
            refine c_reg ?_
            refine s_val rfl rfl (r_mv rfl rfl) ?_
            refine s_val rfl rfl (r_add (z := ((k + 1 : Nat) : Int)) rfl rfl rfl (by rw [w64 (by omega) (by omega)]; omega)) ?_
            refine s_val rfl rfl (r_as rfl rfl) ?_
            refine s_nil ?_
            replace H := H.keep 1
            exact q_round (s := (k, e)) (k + 1, 1 + ep) ⟨rfl, rfl, rfl, rfl, trivial⟩ ⟨H, by omega, by omega⟩ (by (try dsimp only); omega)
  · skip
    refine c_exit ?_
    refine q_thenE ?_
    refine q_thenE ?_
    refine q_blockE ?_
    refine q_then ?_
    refine c_env [(0, .int .i64 cn), (7, .pointer (some ⟨b1, 0, none⟩))] ⟨rfl, rfl, trivial⟩ ?_
    refine c_seq ?_
    refine c_reg ?_
    refine s_val rfl rfl (r_mv rfl rfl) ?_
    refine sc (wDone_ok b1 cn (1 + sz) e ((k : Nat) : Int)) H (lA 0 rfl (fun _ h => h) l0) rfl rfl (e_fn kn42 rfl rfl) ?_
    rintro _ _ w ⟨rfl, rfl⟩ H
    refine s_val rfl rfl (r_mv rfl rfl) ?_
    refine s_dec (d := 79) (p := ((k : Nat) : Int) = cn) rfl (fun h16 => ?_) (fun h16 => ?_)
    · skip
      refine s_val rfl rfl (r_mv rfl rfl) ?_
      replace H : Hd _ _ _ [blk b1 [.int .i64 cn, .int .i64 (1 + sz), .int .i64 e, .int .i64 ((k : Nat) : Int)] 98] [] := H
      refine sc (wOpen_ok b1 cn (1 + sz) e ((k : Nat) : Int) (by first | omega | decide) (by first | omega | decide)) H (lA 0 rfl (fun _ h => h) l0) rfl rfl (e_fn kn37 rfl rfl) ?_
      rintro v17 _ w rfl H
      have hlen := openL_len cn (1 + sz) ((k : Nat) : Int)
      obtain ⟨A18, c19, rfl, hc20, hm21, hp22⟩ := H.fA 0 rfl
      refine s_val rfl rfl (r_lenL rfl un22 rfl) ?_
      refine s_val rfl rfl (r_eq rfl rfl rfl) ?_
      refine s_val rfl rfl (r_pickT rfl rfl rfl) ?_
      refine s_val rfl rfl (r_mv rfl rfl) ?_
      refine s_dec (d := 85) (p := (((openL cn (1 + sz) ((k : Nat) : Int)).length : Nat) : Int) = 0) rfl (fun h23 => ?_) (fun h23 => ?_)
      · skip
        refine s_val rfl rfl (r_mv rfl rfl) ?_
        replace H : Hd _ _ _ [osl (kInt .i64) (.slice A18 ((openL cn (1 + sz) ((k : Nat) : Int)).length) c19) (openL cn (1 + sz) ((k : Nat) : Int)), blk b1 [.int .i64 cn, .int .i64 (1 + sz), .int .i64 e, .int .i64 ((k : Nat) : Int)] 98] [] := H
        refine sc (wNext_ok b1 cn (1 + sz) e ((k : Nat) : Int)) H (lA 1 rfl (fun _ h => h) l0) rfl rfl (e_fn kn40 rfl rfl) ?_
        rintro _ _ w ⟨rfl, rfl⟩ H
        refine s_val rfl rfl (r_mv rfl rfl) ?_
        refine s_val rfl rfl (r_eq rfl rfl rfl) ?_
        refine s_val rfl rfl (r_pickT rfl rfl rfl) ?_
        refine s_val rfl rfl (r_mv rfl rfl) ?_
        refine s_dec (d := 91) (p := ((k : Nat) : Int) = cn) rfl (fun h24 => ?_) (fun h24 => ?_)
        · skip
          refine sc (awake17_ok ) H l0 rfl rfl (e_fn kn31 rfl rfl) ?_
          rintro _ _ w ⟨rfl, rfl⟩ H
          refine s_val rfl rfl (r_pickT rfl rfl rfl) ?_
          refine s_val rfl rfl (r_as rfl rfl) ?_
          refine s_nil ?_
          refine q_then ?_
          replace H : Hd _ _ _ [osl (kInt .i64) (.slice A18 ((openL cn (1 + sz) ((k : Nat) : Int)).length) c19) (openL cn (1 + sz) ((k : Nat) : Int)), blk b1 [.int .i64 cn, .int .i64 (1 + sz), .int .i64 e, .int .i64 ((k : Nat) : Int)] 98] [] := H
          refine c_env [(6, .bool true)] ⟨rfl, trivial⟩ ?_
          refine c_ret ?_
          refine q_ret1 rfl rfl ?_
          replace H := H.keep 0
          exact fin ⟨rfl, rfl⟩ H
        · exfalso; omega
      · exfalso; omega
    · exfalso; omega

set_option maxHeartbeats 1000000 in
theorem windowNone_ok (a : Array Value) (x : Act2) (e : (Value.agg a).cells.toList = [.int .i64 x.x, .int .i64 x.y]) (wx : In64 x.x ∧ In64 x.y) :
    Cn Try.prog 9 [.agg a] [] [] (fun v Bs => v = .bool true ∧ Bs = []) := by
  intro w0 F0 H
  obtain rfl : a = #[.int .i64 x.x, .int .i64 x.y] := by cases a; simpa [Value.cells] using e
  refine enter (args := [.agg #[.int .i64 x.x, .int .i64 x.y]]) Try.func9 rfl rfl (Nat.le_of_ble_eq_true rfl) ?_
  refine c_seq ?_
  refine c_reg ?_
  refine s_box rfl rfl rfl rfl H (fun b1 w H => ?_)
  refine s_val rfl rfl (r_as rfl rfl) ?_
  refine s_nil ?_
  refine q_then ?_
  replace H : Hd _ _ _ [blk b1 [.int .i64 x.x, .int .i64 x.y] 42] [] := H
  refine c_env [(1, .pointer (some ⟨b1, 0, none⟩)), (2, .bool false)] ⟨rfl, rfl, trivial⟩ ?_
  refine c_seq ?_
  refine c_reg ?_
  refine s_val rfl rfl (r_as rfl rfl) ?_
  refine s_nil ?_
  refine q_then ?_
  refine c_env [(1, .pointer (some ⟨b1, 0, none⟩)), (2, .bool false), (3, .pointer none)] ⟨rfl, rfl, rfl, trivial⟩ ?_
  refine c_seq ?_
  refine c_reg ?_
  refine s_val rfl rfl (r_mv rfl rfl) ?_
  refine sc (wOpen_nil) H l0 rfl rfl (e_fn kn37 rfl rfl) ?_
  rintro _ _ w ⟨rfl, rfl⟩ H
  refine s_val rfl rfl (r_lenL rfl un22 rfl) ?_
  refine s_val rfl rfl (r_eq rfl rfl rfl) ?_
  refine s_val rfl rfl (r_mv rfl rfl) ?_
  refine s_val rfl rfl (r_mv rfl rfl) ?_
  refine s_val rfl rfl (r_fa rfl fo42_0 rfl) ?_
  refine s_val rfl rfl (r_ld rfl ty3 rfl (H.cellI 0 rfl rfl)) ?_
  refine s_val rfl rfl (r_fa rfl fo42_1 rfl) ?_
  refine s_val rfl rfl (r_ld rfl ty3 rfl (H.cellI 0 rfl rfl)) ?_
  replace H : Hd _ _ _ [blk b1 [.int .i64 x.x, .int .i64 x.y] 42] [] := H
  refine sc (wAck_nil x.x x.y) H l0 rfl rfl (e_fn kn35 rfl rfl) ?_
  rintro _ _ w ⟨rfl, rfl⟩ H
  refine s_val rfl rfl (r_not rfl rfl rfl) ?_
  refine s_val rfl rfl (r_pickT rfl rfl rfl) ?_
  refine s_val rfl rfl (r_mv rfl rfl) ?_
  refine s_val rfl rfl (r_mv rfl rfl) ?_
  replace H : Hd _ _ _ [blk b1 [.int .i64 x.x, .int .i64 x.y] 42] [] := H
  refine sc (wNext_nil) H l0 rfl rfl (e_fn kn40 rfl rfl) ?_
  rintro _ _ w ⟨rfl, rfl⟩ H
  refine s_val rfl rfl (r_eq rfl rfl rfl) ?_
  refine s_val rfl rfl (r_pickT rfl rfl rfl) ?_
  refine s_val rfl rfl (r_mv rfl rfl) ?_
  refine s_val rfl rfl (r_mv rfl rfl) ?_
  replace H : Hd _ _ _ [blk b1 [.int .i64 x.x, .int .i64 x.y] 42] [] := H
  refine sc (wEpoch_nil) H l0 rfl rfl (e_fn kn41 rfl rfl) ?_
  rintro _ _ w ⟨rfl, rfl⟩ H
  refine s_val rfl rfl (r_eq rfl rfl rfl) ?_
  refine s_val rfl rfl (r_pickT rfl rfl rfl) ?_
  refine s_val rfl rfl (r_mv rfl rfl) ?_
  refine s_val rfl rfl (r_mv rfl rfl) ?_
  replace H : Hd _ _ _ [blk b1 [.int .i64 x.x, .int .i64 x.y] 42] [] := H
  refine sc (wDone_nil) H l0 rfl rfl (e_fn kn42 rfl rfl) ?_
  rintro _ _ w ⟨rfl, rfl⟩ H
  refine s_val rfl rfl (r_not rfl rfl rfl) ?_
  refine s_val rfl rfl (r_pickT rfl rfl rfl) ?_
  refine s_val rfl rfl (r_mv rfl rfl) ?_
  refine sc (awake17_ok ) H l0 rfl rfl (e_fn kn31 rfl rfl) ?_
  rintro _ _ w ⟨rfl, rfl⟩ H
  refine s_val rfl rfl (r_pickT rfl rfl rfl) ?_
  refine s_val rfl rfl (r_as rfl rfl) ?_
  refine s_nil ?_
  refine q_then ?_
  replace H : Hd _ _ _ [blk b1 [.int .i64 x.x, .int .i64 x.y] 42] [] := H
  refine c_env [(2, .bool true)] ⟨rfl, trivial⟩ ?_
  refine c_ret ?_
  refine q_ret1 rfl rfl ?_
  replace H := H.keep 0
  exact fin ⟨rfl, rfl⟩ H

end Go.Proofs.Ytnaaahpmnhoabaa.X
