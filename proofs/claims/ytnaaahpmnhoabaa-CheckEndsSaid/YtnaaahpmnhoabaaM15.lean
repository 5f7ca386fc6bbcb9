/- What records say. -/
import Derived.Test.YtnaaahpmnhoabaaM13
import Derived.Test.YtnaaahpmnhoabaaXRec
set_option linter.unusedVariables false
set_option linter.unusedSimpArgs false
namespace Go.Proofs.Ytnaaahpmnhoabaa.X
open Go
set_option maxHeartbeats 1000000 in
theorem greatRecords_ok (vrs : Value) (rs : List Rec) (n : Int) :
    Cn Try.prog 60 [vrs, .int .i64 n] [] [rsl kRec vrs rs] (fun v Bs => v = .bool (greatR rs n) ∧ Bs = []) := by
  intro w0 F0 H
  obtain ⟨A1, c2, rfl, hc3, hm4, hp5⟩ := H.fR 0 rfl
  refine enter (args := [.slice A1 rs.length c2, .int .i64 n]) Try.func60 rfl rfl (Nat.le_of_ble_eq_true rfl) ?_
  refine c_seq ?_
  refine c_reg ?_
  refine s_val rfl rfl (r_as rfl rfl) ?_
  refine s_nil ?_
  refine q_then ?_
  replace H : Hd _ _ _ [] [rsl kRec (.slice A1 rs.length c2) rs] := H
  refine c_env [(0, .slice A1 rs.length c2), (1, .int .i64 n), (4, .bool false)] ⟨rfl, rfl, rfl, trivial⟩ ?_
  refine c_seq ?_
  refine c_seq ?_
  refine c_reg ?_
  refine s_val rfl rfl (r_as rfl rfl) ?_
  refine s_nil ?_
  refine q_then ?_
  refine c_env [(0, .slice A1 rs.length c2), (1, .int .i64 n), (4, .bool false), (5, .int .i64 0)] ⟨rfl, rfl, rfl, rfl, trivial⟩ ?_
  refine c_block ?_
  refine c_loop (σ := Nat) (fun k => [(0, .slice A1 rs.length c2), (1, .int .i64 n), (5, .int .i64 ((k : Nat) : Int))]) (fun k w => (Hd w0 F0 w [] [rsl kRec (.slice A1 rs.length c2) rs]) ∧ (k ≤ rs.length) ∧ (∀ r ∈ rs.take k, r.set.length ≤ 20 ∧ greatP r.pairs 50 = false)) (fun k => rs.length - k) 0 ⟨rfl, rfl, rfl, trivial⟩ ⟨H, by omega, by simp⟩ ?_
  rintro k w ⟨H, hk, hn⟩
  refine c_seq ?_
  refine c_seq ?_
  refine c_reg ?_
  refine s_val rfl rfl (r_mv rfl rfl) ?_
  refine s_val rfl rfl (r_mv rfl rfl) ?_
  refine s_val rfl rfl (r_lenL rfl un71 rfl) ?_
  refine s_val rfl rfl (r_lt rfl rfl rfl) ?_
  refine s_val rfl rfl (r_mv rfl rfl) ?_
  refine s_dec (d := 10) (p := ((k : Nat) : Int) < ((rs.length : Nat) : Int)) rfl (fun h6 => ?_) (fun h6 => ?_)
  · skip
    refine s_val rfl rfl (r_mv rfl rfl) ?_
    refine s_val rfl rfl (r_lenL rfl un71 rfl) ?_
    refine s_val rfl rfl (r_mv rfl rfl) ?_
    refine s_val rfl rfl (r_le rfl rfl rfl) ?_
    refine s_val rfl rfl (r_pickT rfl rfl rfl) ?_
    refine s_nil ?_
    refine q_then ?_
    refine c_env [(0, .slice A1 rs.length c2), (1, .int .i64 n), (5, .int .i64 ((k : Nat) : Int)), (15, .bool (decide (((rs.length : Nat) : Int) ≤ n)))] ⟨rfl, rfl, rfl, rfl, trivial⟩ ?_
    refine c_dec (p := ((rs.length : Nat) : Int) ≤ n) rfl (fun h7 => ?_) (fun h7 => ?_)
    · skip
      refine c_skip ?_
      refine q_then ?_
      refine c_env [(0, .slice A1 rs.length c2), (1, .int .i64 n), (5, .int .i64 ((k : Nat) : Int))] ⟨rfl, rfl, rfl, trivial⟩ ?_
      refine c_seq ?_
      refine c_block ?_
      refine c_seq ?_
      refine c_reg ?_
      refine s_val rfl rfl (r_mv rfl rfl) ?_
      refine s_val rfl rfl (r_mv rfl rfl) ?_
      obtain ⟨⟨a10, a11, a12, a13, a14, sv15, se16, pv17, pr18⟩, hx9⟩ : ∃ z9, rs[k]? = some z9 := ⟨_, List.getElem?_eq_getElem (show k < rs.length by omega)⟩
      obtain ⟨A19, c20, A21, c22, rfl, rfl, m23, m24, m25, m26⟩ := H.nestRr 0 rfl hx9
      have th27 := H.thRr 0 rfl hx9
      refine s_val rfl rfl (r_iaE (p := oOf A1 + k * 7) rfl sl71 rfl rfl (by omega) (by omega) th27 rfl) ?_
      refine s_val rfl rfl (r_fa rfl fo104_5 rfl) ?_
      refine s_val rfl rfl (r_ld rfl ty22 rfl (H.elRr 0 rfl hx9 (q := 5) rfl rfl)) ?_
      refine s_val rfl rfl (r_lenL rfl un22 rfl) ?_
      refine s_val rfl rfl (r_gt rfl rfl rfl) ?_
      refine s_val rfl rfl (r_mv rfl rfl) ?_
      refine s_dec (d := 25) (p := (20 : Int) < ((se16.length : Nat) : Int)) rfl (fun h28 => ?_) (fun h28 => ?_)
      · skip
        refine s_no rfl rfl ?_
        refine s_no rfl rfl ?_
        refine s_no rfl rfl ?_
        refine s_no rfl rfl ?_
        refine s_no rfl rfl ?_
        refine s_no rfl rfl ?_
        refine s_val rfl rfl (r_pickT rfl rfl rfl) ?_
        refine s_nil ?_
        refine q_then ?_
        refine c_env [(0, .slice A1 rs.length c2), (1, .int .i64 n), (5, .int .i64 ((k : Nat) : Int)), (32, .bool true)] ⟨rfl, rfl, rfl, rfl, trivial⟩ ?_
        refine c_yes rfl ?_
        refine c_seq ?_
        refine c_reg ?_
        refine s_val rfl rfl (r_as rfl rfl) ?_
        refine s_nil ?_
        refine q_then ?_
        refine c_env [(0, .slice A1 rs.length c2), (1, .int .i64 n), (4, .bool true), (5, .int .i64 ((k : Nat) : Int))] ⟨rfl, rfl, rfl, rfl, trivial⟩ ?_
        refine c_ret ?_
        refine q_blockR ?_
        refine q_thenR ?_
        refine q_thenR ?_
        refine q_blockR ?_
        refine q_thenR ?_
        refine q_ret1 rfl rfl ?_
        exact fin ⟨congrArg Value.bool (greatR_hit hx9 (.inl (by (try dsimp only); omega))), rfl⟩ H
      · skip
        refine s_val rfl rfl (r_mv rfl rfl) ?_
        refine s_val rfl rfl (r_mv rfl rfl) ?_
        have th29 := H.thRr 0 rfl hx9
        refine s_val rfl rfl (r_iaE (p := oOf A1 + k * 7) rfl sl71 rfl rfl (by omega) (by omega) th29 rfl) ?_
        refine s_val rfl rfl (r_fa rfl fo104_6 rfl) ?_
        refine s_val rfl rfl (r_ld rfl ty54 rfl (H.elRr 0 rfl hx9 (q := 6) rfl rfl)) ?_
        refine sc (greatPairs_ok (.slice A21 pr18.length c22) pr18 50) H (lX (fun F hA hR => rec_pairs (hR _ (List.mem_of_getElem? (i := 0) rfl)) hx9) l0) rfl rfl (e_fn kn56 rfl rfl) ?_
        rintro _ _ w ⟨rfl, rfl⟩ H
        refine s_val rfl rfl (r_pickF rfl rfl rfl) ?_
        refine s_nil ?_
        refine q_then ?_
        refine c_env [(0, .slice A1 rs.length c2), (1, .int .i64 n), (5, .int .i64 ((k : Nat) : Int)), (32, .bool (greatP pr18 50))] ⟨rfl, rfl, rfl, rfl, trivial⟩ ?_
        refine c_cond (b := greatP pr18 50) rfl (fun h30 => ?_) (fun h30 => ?_)
        · skip
          refine c_seq ?_
          refine c_reg ?_
          refine s_val rfl rfl (r_as rfl rfl) ?_
          refine s_nil ?_
          refine q_then ?_
          refine c_env [(0, .slice A1 rs.length c2), (1, .int .i64 n), (4, .bool true), (5, .int .i64 ((k : Nat) : Int))] ⟨rfl, rfl, rfl, rfl, trivial⟩ ?_
          refine c_ret ?_
          refine q_blockR ?_
          refine q_thenR ?_
          refine q_thenR ?_
          refine q_blockR ?_
          refine q_thenR ?_
          refine q_ret1 rfl rfl ?_
          exact fin ⟨congrArg Value.bool (greatR_hit hx9 (.inr h30)), rfl⟩ H
        · skip
          refine c_skip ?_
          refine q_blockN ?_
          refine q_then ?_
          refine c_env [(0, .slice A1 rs.length c2), (1, .int .i64 n), (5, .int .i64 ((k : Nat) : Int))] ⟨rfl, rfl, rfl, trivial⟩ ?_
          refine c_reg ?_
          refine s_val rfl rfl (r_mv rfl rfl) ?_
          refine s_val rfl rfl (r_add (z := ((k + 1 : Nat) : Int)) rfl rfl rfl (by rw [w64 (by omega) (by omega)]; omega)) ?_
          refine s_val rfl rfl (r_as rfl rfl) ?_
          refine s_nil ?_
          exact q_round (s := k) (k + 1) ⟨rfl, rfl, rfl, trivial⟩ ⟨H, by (try dsimp only); omega, take_prop hn hx9 ⟨by (try dsimp only); omega, h30⟩⟩ (by (try dsimp only); omega)
    · skip
      refine c_exit ?_
      refine q_thenE ?_
      refine q_thenE ?_
      refine q_blockE ?_
      refine q_then ?_
      refine c_env [(0, .slice A1 rs.length c2), (1, .int .i64 n)] ⟨rfl, rfl, trivial⟩ ?_
      refine c_seq ?_
      refine c_reg ?_
      refine s_val rfl rfl (r_mv rfl rfl) ?_
      refine s_val rfl rfl (r_lenL rfl un71 rfl) ?_
      refine s_val rfl rfl (r_mv rfl rfl) ?_
      refine s_val rfl rfl (r_gt rfl rfl rfl) ?_
      refine s_val rfl rfl (r_as rfl rfl) ?_
      refine s_nil ?_
      refine q_then ?_
      refine c_env [(4, .bool (decide (n < ((rs.length : Nat) : Int))))] ⟨rfl, trivial⟩ ?_
      refine c_ret ?_
      refine q_ret1 rfl rfl ?_
      exact fin ⟨congrArg Value.bool (greatR_end hn (by omega)), rfl⟩ H
  · skip
    refine s_no rfl rfl ?_
    refine s_no rfl rfl ?_
    refine s_no rfl rfl ?_
    refine s_no rfl rfl ?_
    refine s_val rfl rfl (r_pickF rfl rfl rfl) ?_
    refine s_nil ?_
    refine q_then ?_
    refine c_env [(0, .slice A1 rs.length c2), (1, .int .i64 n), (5, .int .i64 ((k : Nat) : Int)), (15, .bool false)] ⟨rfl, rfl, rfl, rfl, trivial⟩ ?_
    refine c_no rfl ?_
    refine c_exit ?_
    refine q_thenE ?_
    refine q_thenE ?_
    refine q_blockE ?_
    refine q_then ?_
    refine c_env [(0, .slice A1 rs.length c2), (1, .int .i64 n)] ⟨rfl, rfl, trivial⟩ ?_
    refine c_seq ?_
    refine c_reg ?_
    refine s_val rfl rfl (r_mv rfl rfl) ?_
    refine s_val rfl rfl (r_lenL rfl un71 rfl) ?_
    refine s_val rfl rfl (r_mv rfl rfl) ?_
    refine s_val rfl rfl (r_gt rfl rfl rfl) ?_
    refine s_val rfl rfl (r_as rfl rfl) ?_
    refine s_nil ?_
    refine q_then ?_
    refine c_env [(4, .bool (decide (n < ((rs.length : Nat) : Int))))] ⟨rfl, trivial⟩ ?_
    refine c_ret ?_
    refine q_ret1 rfl rfl ?_
    exact fin ⟨congrArg Value.bool (greatR_end hn (by omega)), rfl⟩ H

set_option maxHeartbeats 1000000 in
theorem ended_ok (vxs : Value) (xs : List RecF) :
    Cn Try.prog 62 [vxs] [] [rsl kRecF vxs xs] (fun v Bs => v = .tuple #[.int .i64 ((endedL xs).1), .int .i64 ((endedL xs).2.1), .int .i64 ((endedL xs).2.2.1), .bool ((endedL xs).2.2.2)] ∧ Bs = []) := by
  intro w0 F0 H
  obtain ⟨A1, c2, rfl, hc3, hm4, hp5⟩ := H.fR 0 rfl
  refine enter (args := [.slice A1 xs.length c2]) Try.func62 rfl rfl (Nat.le_of_ble_eq_true rfl) ?_
  refine c_seq ?_
  refine c_reg ?_
  refine s_val rfl rfl (r_as rfl rfl) ?_
  refine s_val rfl rfl (r_as rfl rfl) ?_
  refine s_val rfl rfl (r_as rfl rfl) ?_
  refine s_val rfl rfl (r_as rfl rfl) ?_
  refine s_nil ?_
  refine q_then ?_
  replace H : Hd _ _ _ [] [rsl kRecF (.slice A1 xs.length c2) xs] := H
  refine c_env [(0, .slice A1 xs.length c2), (2, .int .i64 0), (3, .int .i64 0), (4, .int .i64 0), (5, .bool false)] ⟨rfl, rfl, rfl, rfl, rfl, trivial⟩ ?_
  refine c_seq ?_
  refine c_seq ?_
  refine c_reg ?_
  refine s_val rfl rfl (r_mv rfl rfl) ?_
  refine s_val rfl rfl (r_lenL rfl un71 rfl) ?_
  refine s_val rfl rfl (r_mv rfl rfl) ?_
  refine s_nil ?_
  refine q_then ?_
  refine c_env [(2, .int .i64 0), (3, .int .i64 0), (4, .int .i64 0), (5, .bool false), (8, .slice A1 xs.length c2), (9, .int .i64 ((xs.length : Nat) : Int)), (10, .int .i64 0)] ⟨rfl, rfl, rfl, rfl, rfl, rfl, rfl, trivial⟩ ?_
  refine c_block ?_
  refine c_loop (σ := Nat) (fun k => [(8, .slice A1 xs.length c2), (9, .int .i64 ((xs.length : Nat) : Int)), (10, .int .i64 ((k : Nat) : Int))]) (fun k w => (Hd w0 F0 w [] [rsl kRecF (.slice A1 xs.length c2) xs]) ∧ (k ≤ xs.length) ∧ (endedL (xs.drop k) = endedL xs)) (fun k => xs.length - k) 0 ⟨rfl, rfl, rfl, trivial⟩ ⟨H, by (try dsimp only); omega, rfl⟩ ?_
  rintro k w ⟨H, hk, hd⟩
  refine c_seq ?_
  refine c_reg ?_
  refine s_val rfl rfl (r_lt rfl rfl rfl) ?_
  refine s_nil ?_
  refine q_then ?_
  refine c_env [(8, .slice A1 xs.length c2), (9, .int .i64 ((xs.length : Nat) : Int)), (10, .int .i64 ((k : Nat) : Int)), (11, .bool (decide (((k : Nat) : Int) < ((xs.length : Nat) : Int))))] ⟨rfl, rfl, rfl, rfl, trivial⟩ ?_
  refine c_seq ?_
  refine c_dec (p := ((k : Nat) : Int) < ((xs.length : Nat) : Int)) rfl (fun h6 => ?_) (fun h6 => ?_)
  · skip
    refine c_skip ?_
    refine q_then ?_
    refine c_env [(8, .slice A1 xs.length c2), (9, .int .i64 ((xs.length : Nat) : Int)), (10, .int .i64 ((k : Nat) : Int))] ⟨rfl, rfl, rfl, trivial⟩ ?_
    refine c_seq ?_
    refine c_block ?_
    refine c_seq ?_
    refine c_reg ?_
    obtain ⟨x7, hx8⟩ : ∃ z9, xs[k]? = some z9 := ⟨_, List.getElem?_eq_getElem (show k < xs.length by omega)⟩
    have th9 := H.thR 0 rfl hx8
    refine s_val rfl rfl (r_iaE (p := oOf A1 + k * 7) rfl sl71 rfl rfl (by omega) (by omega) th9 rfl) ?_
    refine s_val rfl rfl (r_ldA (cs := [.int .i64 x7.kind, .int .i64 x7.part, .int .i64 x7.sp, .int .i64 x7.att, .int .i64 x7.why, .slice x7.hs.A x7.hs.n x7.hs.c, .slice x7.hp.A x7.hp.n x7.hp.c]) rfl ty104 rfl rfl (H.elsR 0 rfl hx8 rfl)) ?_
    refine s_alloc rfl rfl rfl zr104 H (fun b10 w H => ?_)
    refine s_st rfl rfl rfl ty104 rfl rfl H rfl (Nat.le_of_ble_eq_true rfl) (fun u hu => by simp [Value.cells] at hu; rcases hu with rfl | rfl | rfl | rfl | rfl | rfl | rfl <;> rfl) (fun w H => ?_)
    replace H : Hd _ _ _ [blk b10 [.int .i64 x7.kind, .int .i64 x7.part, .int .i64 x7.sp, .int .i64 x7.att, .int .i64 x7.why, .slice x7.hs.A x7.hs.n x7.hs.c, .slice x7.hp.A x7.hp.n x7.hp.c] 104] [rsl kRecF (.slice A1 xs.length c2) xs] := H
    refine s_nil ?_
    refine q_then ?_
    refine c_env [(7, .pointer (some ⟨b10, 0, none⟩)), (8, .slice A1 xs.length c2), (9, .int .i64 ((xs.length : Nat) : Int)), (10, .int .i64 ((k : Nat) : Int))] ⟨rfl, rfl, rfl, rfl, trivial⟩ ?_
    refine c_block ?_
    refine c_seq ?_
    refine c_reg ?_
    refine s_val rfl rfl (r_fa rfl fo104_0 rfl) ?_
    refine s_val rfl rfl (r_ld rfl ty3 rfl (H.cellI 0 rfl rfl)) ?_
    refine s_val rfl rfl (r_eq rfl rfl rfl) ?_
    refine s_val rfl rfl (r_as rfl rfl) ?_
    refine s_nil ?_
    refine q_then ?_
    refine c_env [(7, .pointer (some ⟨b10, 0, none⟩)), (8, .slice A1 xs.length c2), (9, .int .i64 ((xs.length : Nat) : Int)), (10, .int .i64 ((k : Nat) : Int)), (14, .bool (decide (x7.kind = 2)))] ⟨rfl, rfl, rfl, rfl, rfl, trivial⟩ ?_
    refine c_dec (p := x7.kind = 2) rfl (fun h11 => ?_) (fun h11 => ?_)
    · skip
      refine c_seq ?_
      refine c_reg ?_
      refine s_val rfl rfl (r_as rfl rfl) ?_
      refine s_val rfl rfl (r_as rfl rfl) ?_
      refine s_val rfl rfl (r_as rfl rfl) ?_
      refine s_val rfl rfl (r_as rfl rfl) ?_
      refine s_nil ?_
      refine q_then ?_
      refine c_env [(2, .int .i64 1), (3, .int .i64 0), (4, .int .i64 0), (5, .bool false), (8, .slice A1 xs.length c2), (9, .int .i64 ((xs.length : Nat) : Int)), (10, .int .i64 ((k : Nat) : Int))] ⟨rfl, rfl, rfl, rfl, rfl, rfl, rfl, trivial⟩ ?_
      refine c_ret ?_
      refine q_blockR ?_
      refine q_blockR ?_
      refine q_thenR ?_
      refine q_thenR ?_
      refine q_blockR ?_
      refine q_thenR ?_
      refine q_ret4 rfl rfl rfl rfl rfl ?_
      have e : endedL xs = (1, 0, 0, false) := by rw [← hd, drop_at hx8, endedL, if_pos h11]
      replace H := H.keep 0
      exact fin ⟨by rw [e], rfl⟩ H
    · skip
      refine c_seq ?_
      refine c_reg ?_
      refine s_val rfl rfl (r_fa rfl fo104_0 rfl) ?_
      refine s_val rfl rfl (r_ld rfl ty3 rfl (H.cellI 0 rfl rfl)) ?_
      refine s_val rfl rfl (r_eq rfl rfl rfl) ?_
      refine s_val rfl rfl (r_mv rfl rfl) ?_
      refine s_dec (d := 22) (p := x7.kind = 3) rfl (fun h12 => ?_) (fun h12 => ?_)
      · skip
        refine s_val rfl rfl (r_fa rfl fo104_3 rfl) ?_
        refine s_val rfl rfl (r_ld rfl ty3 rfl (H.cellI 0 rfl rfl)) ?_
        refine s_val rfl rfl (r_eq rfl rfl rfl) ?_
        refine s_val rfl rfl (r_pickT rfl rfl rfl) ?_
        refine s_val rfl rfl (r_as rfl rfl) ?_
        refine s_nil ?_
        refine q_then ?_
        refine c_env [(7, .pointer (some ⟨b10, 0, none⟩)), (8, .slice A1 xs.length c2), (9, .int .i64 ((xs.length : Nat) : Int)), (10, .int .i64 ((k : Nat) : Int)), (18, .bool (decide (x7.att = 1)))] ⟨rfl, rfl, rfl, rfl, rfl, trivial⟩ ?_
        refine c_dec (p := x7.att = 1) rfl (fun h13 => ?_) (fun h13 => ?_)
        · skip
          refine c_seq ?_
          refine c_draw mo (by kernel_rfl) H ?_
          refine u_val rfl rfl (fun w H => r_fa rfl fo104_4 rfl) ?_
          refine u_val rfl rfl (fun w H => r_ld rfl ty3 rfl (H.cellI 0 rfl rfl)) ?_
          refine u_val rfl rfl (fun w H => r_fa rfl fo104_1 rfl) ?_
          refine u_val rfl rfl (fun w H => r_ld rfl ty3 rfl (H.cellI 0 rfl rfl)) ?_
          refine u_val rfl rfl (fun w H => r_as rfl rfl) ?_
          refine u_val rfl rfl (fun w H => r_as rfl rfl) ?_
          refine u_val rfl rfl (fun w H => r_as rfl rfl) ?_
          refine u_val rfl rfl (fun w H => r_as rfl rfl) ?_
          refine u_end (fun w H => ?_)
          refine q_then ?_
          refine c_env [(2, .int .i64 2), (3, .int .i64 x7.why), (4, .int .i64 x7.part), (5, .bool true), (8, .slice A1 xs.length c2), (9, .int .i64 ((xs.length : Nat) : Int)), (10, .int .i64 ((k : Nat) : Int))] ⟨rfl, rfl, rfl, rfl, rfl, rfl, rfl, trivial⟩ ?_
          refine c_ret ?_
          refine q_blockR ?_
          refine q_blockR ?_
          refine q_thenR ?_
          refine q_thenR ?_
          refine q_blockR ?_
          refine q_thenR ?_
          refine q_ret4 rfl rfl rfl rfl rfl ?_
          have e : endedL xs = (2, x7.why, x7.part, true) := by rw [← hd, drop_at hx8, endedL, if_neg h11, if_pos h12, if_pos h13]
          replace H := H.keep 0
          exact fin ⟨by rw [e], rfl⟩ H
        · skip
          refine c_seq ?_
          refine c_reg ?_
          refine s_val rfl rfl (r_fa rfl fo104_0 rfl) ?_
          refine s_val rfl rfl (r_ld rfl ty3 rfl (H.cellI 0 rfl rfl)) ?_
          refine s_val rfl rfl (r_eq rfl rfl rfl) ?_
          refine s_val rfl rfl (r_as rfl rfl) ?_
          refine s_nil ?_
          refine q_then ?_
          refine c_env [(7, .pointer (some ⟨b10, 0, none⟩)), (8, .slice A1 xs.length c2), (9, .int .i64 ((xs.length : Nat) : Int)), (10, .int .i64 ((k : Nat) : Int)), (31, .bool (decide (x7.kind = 3)))] ⟨rfl, rfl, rfl, rfl, rfl, trivial⟩ ?_
          refine c_dec (p := x7.kind = 3) rfl (fun h14 => ?_) (fun h14 => ?_)
          · skip
            refine c_seq ?_
            refine c_draw mo (by kernel_rfl) H ?_
            refine u_val rfl rfl (fun w H => r_fa rfl fo104_4 rfl) ?_
            refine u_val rfl rfl (fun w H => r_ld rfl ty3 rfl (H.cellI 0 rfl rfl)) ?_
            refine u_val rfl rfl (fun w H => r_fa rfl fo104_2 rfl) ?_
            refine u_val rfl rfl (fun w H => r_ld rfl ty3 rfl (H.cellI 0 rfl rfl)) ?_
            refine u_val rfl rfl (fun w H => r_as rfl rfl) ?_
            refine u_val rfl rfl (fun w H => r_as rfl rfl) ?_
            refine u_val rfl rfl (fun w H => r_as rfl rfl) ?_
            refine u_val rfl rfl (fun w H => r_as rfl rfl) ?_
            refine u_end (fun w H => ?_)
            refine q_then ?_
            refine c_env [(2, .int .i64 2), (3, .int .i64 x7.why), (4, .int .i64 x7.sp), (5, .bool false), (8, .slice A1 xs.length c2), (9, .int .i64 ((xs.length : Nat) : Int)), (10, .int .i64 ((k : Nat) : Int))] ⟨rfl, rfl, rfl, rfl, rfl, rfl, rfl, trivial⟩ ?_
            refine c_ret ?_
            refine q_blockR ?_
            refine q_blockR ?_
            refine q_thenR ?_
            refine q_thenR ?_
            refine q_blockR ?_
            refine q_thenR ?_
            refine q_ret4 rfl rfl rfl rfl rfl ?_
            have e : endedL xs = (2, x7.why, x7.sp, false) := by rw [← hd, drop_at hx8, endedL, if_neg h11, if_pos h14, if_neg h13]
            replace H := H.keep 0
            exact fin ⟨by rw [e], rfl⟩ H
          · exact absurd h12 h14
      · skip
        refine s_no rfl rfl ?_
        refine s_no rfl rfl ?_
        refine s_no rfl rfl ?_
        refine s_val rfl rfl (r_pickF rfl rfl rfl) ?_
        refine s_val rfl rfl (r_as rfl rfl) ?_
        refine s_nil ?_
        refine q_then ?_
        refine c_env [(7, .pointer (some ⟨b10, 0, none⟩)), (8, .slice A1 xs.length c2), (9, .int .i64 ((xs.length : Nat) : Int)), (10, .int .i64 ((k : Nat) : Int)), (18, .bool false)] ⟨rfl, rfl, rfl, rfl, rfl, trivial⟩ ?_
        refine c_no rfl ?_
        refine c_seq ?_
        refine c_reg ?_
        refine s_val rfl rfl (r_fa rfl fo104_0 rfl) ?_
        refine s_val rfl rfl (r_ld rfl ty3 rfl (H.cellI 0 rfl rfl)) ?_
        refine s_val rfl rfl (r_eq rfl rfl rfl) ?_
        refine s_val rfl rfl (r_as rfl rfl) ?_
        refine s_nil ?_
        refine q_then ?_
        refine c_env [(7, .pointer (some ⟨b10, 0, none⟩)), (8, .slice A1 xs.length c2), (9, .int .i64 ((xs.length : Nat) : Int)), (10, .int .i64 ((k : Nat) : Int)), (31, .bool (decide (x7.kind = 3)))] ⟨rfl, rfl, rfl, rfl, rfl, trivial⟩ ?_
        refine c_dec (p := x7.kind = 3) rfl (fun h15 => ?_) (fun h15 => ?_)
        · exact absurd h15 h12
        · skip
          refine c_skip ?_
          refine q_blockN ?_
          refine q_blockN ?_
          refine q_then ?_
          refine c_env [(8, .slice A1 xs.length c2), (9, .int .i64 ((xs.length : Nat) : Int)), (10, .int .i64 ((k : Nat) : Int))] ⟨rfl, rfl, rfl, trivial⟩ ?_
          refine c_reg ?_
          refine s_val rfl rfl (r_add (z := ((k + 1 : Nat) : Int)) rfl rfl rfl (by rw [w64 (by omega) (by omega)]; omega)) ?_
          refine s_val rfl rfl (r_mv rfl rfl) ?_
          refine s_nil ?_
          have hd2 : endedL (xs.drop (k + 1)) = endedL xs := by rw [← hd, drop_at hx8, endedL, if_neg h11, if_neg h15]
          replace H := H.keep 0
          exact q_round (s := k) (k + 1) ⟨rfl, rfl, rfl, trivial⟩ ⟨H, by (try dsimp only); omega, hd2⟩ (by (try dsimp only); omega)
  · skip
    refine c_exit ?_
    refine q_thenE ?_
    refine q_thenE ?_
    refine q_blockE ?_
    refine q_then ?_
    refine c_env [] trivial ?_
    refine c_seq ?_
    refine c_reg ?_
    refine s_val rfl rfl (r_as rfl rfl) ?_
    refine s_val rfl rfl (r_as rfl rfl) ?_
    refine s_val rfl rfl (r_as rfl rfl) ?_
    refine s_val rfl rfl (r_as rfl rfl) ?_
    refine s_nil ?_
    refine q_then ?_
    refine c_env [(2, .int .i64 0), (3, .int .i64 0), (4, .int .i64 0), (5, .bool false)] ⟨rfl, rfl, rfl, rfl, trivial⟩ ?_
    refine c_ret ?_
    refine q_ret4 rfl rfl rfl rfl rfl ?_
    have e : endedL xs = (0, 0, 0, false) := by rw [← hd, List.drop_eq_nil_of_le (by omega)]; rfl
    exact fin ⟨by rw [e], rfl⟩ H

set_option maxHeartbeats 1000000 in
theorem won_ok (vxs : Value) (xs : List RecF) (s : Int) :
    Cn Try.prog 63 [vxs, .int .i64 s] [] [rsl kRecF vxs xs] (fun v Bs => v = .tuple #[.int .i64 ((wonL s xs).1), .bool ((wonL s xs).2)] ∧ Bs = []) := by
  intro w0 F0 H
  obtain ⟨A1, c2, rfl, hc3, hm4, hp5⟩ := H.fR 0 rfl
  refine enter (args := [.slice A1 xs.length c2, .int .i64 s]) Try.func63 rfl rfl (Nat.le_of_ble_eq_true rfl) ?_
  refine c_seq ?_
  refine c_reg ?_
  refine s_val rfl rfl (r_as rfl rfl) ?_
  refine s_val rfl rfl (r_as rfl rfl) ?_
  refine s_nil ?_
  refine q_then ?_
  replace H : Hd _ _ _ [] [rsl kRecF (.slice A1 xs.length c2) xs] := H
  refine c_env [(0, .slice A1 xs.length c2), (1, .int .i64 s), (4, .int .i64 0), (5, .bool false)] ⟨rfl, rfl, rfl, rfl, trivial⟩ ?_
  refine c_seq ?_
  refine c_seq ?_
  refine c_reg ?_
  refine s_val rfl rfl (r_mv rfl rfl) ?_
  refine s_val rfl rfl (r_lenL rfl un71 rfl) ?_
  refine s_val rfl rfl (r_mv rfl rfl) ?_
  refine s_nil ?_
  refine q_then ?_
  refine c_env [(1, .int .i64 s), (4, .int .i64 0), (5, .bool false), (8, .slice A1 xs.length c2), (9, .int .i64 ((xs.length : Nat) : Int)), (10, .int .i64 0)] ⟨rfl, rfl, rfl, rfl, rfl, rfl, trivial⟩ ?_
  refine c_block ?_
  refine c_loop (σ := Nat) (fun k => [(1, .int .i64 s), (8, .slice A1 xs.length c2), (9, .int .i64 ((xs.length : Nat) : Int)), (10, .int .i64 ((k : Nat) : Int))]) (fun k w => (Hd w0 F0 w [] [rsl kRecF (.slice A1 xs.length c2) xs]) ∧ (k ≤ xs.length) ∧ (wonL s (xs.drop k) = wonL s xs)) (fun k => xs.length - k) 0 ⟨rfl, rfl, rfl, rfl, trivial⟩ ⟨H, by (try dsimp only); omega, rfl⟩ ?_
  rintro k w ⟨H, hk, hd⟩
  refine c_seq ?_
  refine c_reg ?_
  refine s_val rfl rfl (r_lt rfl rfl rfl) ?_
  refine s_nil ?_
  refine q_then ?_
  refine c_env [(1, .int .i64 s), (8, .slice A1 xs.length c2), (9, .int .i64 ((xs.length : Nat) : Int)), (10, .int .i64 ((k : Nat) : Int)), (11, .bool (decide (((k : Nat) : Int) < ((xs.length : Nat) : Int))))] ⟨rfl, rfl, rfl, rfl, rfl, trivial⟩ ?_
  refine c_seq ?_
  refine c_dec (p := ((k : Nat) : Int) < ((xs.length : Nat) : Int)) rfl (fun h6 => ?_) (fun h6 => ?_)
  · skip
    refine c_skip ?_
    refine q_then ?_
    refine c_env [(1, .int .i64 s), (8, .slice A1 xs.length c2), (9, .int .i64 ((xs.length : Nat) : Int)), (10, .int .i64 ((k : Nat) : Int))] ⟨rfl, rfl, rfl, rfl, trivial⟩ ?_
    refine c_seq ?_
    refine c_block ?_
    refine c_seq ?_
    refine c_reg ?_
    obtain ⟨x7, hx8⟩ : ∃ z9, xs[k]? = some z9 := ⟨_, List.getElem?_eq_getElem (show k < xs.length by omega)⟩
    have th9 := H.thR 0 rfl hx8
    refine s_val rfl rfl (r_iaE (p := oOf A1 + k * 7) rfl sl71 rfl rfl (by omega) (by omega) th9 rfl) ?_
    refine s_val rfl rfl (r_ldA (cs := [.int .i64 x7.kind, .int .i64 x7.part, .int .i64 x7.sp, .int .i64 x7.att, .int .i64 x7.why, .slice x7.hs.A x7.hs.n x7.hs.c, .slice x7.hp.A x7.hp.n x7.hp.c]) rfl ty104 rfl rfl (H.elsR 0 rfl hx8 rfl)) ?_
    refine s_alloc rfl rfl rfl zr104 H (fun b10 w H => ?_)
    refine s_st rfl rfl rfl ty104 rfl rfl H rfl (Nat.le_of_ble_eq_true rfl) (fun u hu => by simp [Value.cells] at hu; rcases hu with rfl | rfl | rfl | rfl | rfl | rfl | rfl <;> rfl) (fun w H => ?_)
    replace H : Hd _ _ _ [blk b10 [.int .i64 x7.kind, .int .i64 x7.part, .int .i64 x7.sp, .int .i64 x7.att, .int .i64 x7.why, .slice x7.hs.A x7.hs.n x7.hs.c, .slice x7.hp.A x7.hp.n x7.hp.c] 104] [rsl kRecF (.slice A1 xs.length c2) xs] := H
    refine s_nil ?_
    refine q_then ?_
    refine c_env [(1, .int .i64 s), (7, .pointer (some ⟨b10, 0, none⟩)), (8, .slice A1 xs.length c2), (9, .int .i64 ((xs.length : Nat) : Int)), (10, .int .i64 ((k : Nat) : Int))] ⟨rfl, rfl, rfl, rfl, rfl, trivial⟩ ?_
    refine c_seq ?_
    refine c_reg ?_
    refine s_val rfl rfl (r_fa rfl fo104_0 rfl) ?_
    refine s_val rfl rfl (r_ld rfl ty3 rfl (H.cellI 0 rfl rfl)) ?_
    refine s_val rfl rfl (r_eq rfl rfl rfl) ?_
    refine s_val rfl rfl (r_mv rfl rfl) ?_
    refine s_dec (d := 17) (p := x7.kind = 1) rfl (fun h11 => ?_) (fun h11 => ?_)
    · skip
      refine s_val rfl rfl (r_fa rfl fo104_2 rfl) ?_
      refine s_val rfl rfl (r_ld rfl ty3 rfl (H.cellI 0 rfl rfl)) ?_
      refine s_val rfl rfl (r_mv rfl rfl) ?_
      refine s_val rfl rfl (r_eq rfl rfl rfl) ?_
      refine s_val rfl rfl (r_pickT rfl rfl rfl) ?_
      refine s_nil ?_
      refine q_then ?_
      refine c_env [(1, .int .i64 s), (7, .pointer (some ⟨b10, 0, none⟩)), (8, .slice A1 xs.length c2), (9, .int .i64 ((xs.length : Nat) : Int)), (10, .int .i64 ((k : Nat) : Int)), (22, .bool (decide (x7.sp = s)))] ⟨rfl, rfl, rfl, rfl, rfl, rfl, trivial⟩ ?_
      refine c_dec (p := x7.sp = s) rfl (fun h12 => ?_) (fun h12 => ?_)
      · skip
        refine c_seq ?_
        refine c_reg ?_
        refine s_val rfl rfl (r_fa rfl fo104_3 rfl) ?_
        refine s_val rfl rfl (r_ld rfl ty3 rfl (H.cellI 0 rfl rfl)) ?_
        refine s_val rfl rfl (r_as rfl rfl) ?_
        refine s_val rfl rfl (r_as rfl rfl) ?_
        refine s_nil ?_
        refine q_then ?_
        refine c_env [(1, .int .i64 s), (4, .int .i64 x7.att), (5, .bool true), (8, .slice A1 xs.length c2), (9, .int .i64 ((xs.length : Nat) : Int)), (10, .int .i64 ((k : Nat) : Int))] ⟨rfl, rfl, rfl, rfl, rfl, rfl, trivial⟩ ?_
        refine c_ret ?_
        refine q_blockR ?_
        refine q_thenR ?_
        refine q_thenR ?_
        refine q_blockR ?_
        refine q_thenR ?_
        refine q_ret2 rfl rfl rfl ?_
        have e : wonL s xs = (x7.att, true) := by rw [← hd, drop_at hx8, wonL, if_pos ⟨h11, h12⟩]
        replace H := H.keep 0
        exact fin ⟨by rw [e], rfl⟩ H
      · skip
        refine c_skip ?_
        refine q_blockN ?_
        refine q_then ?_
        refine c_env [(1, .int .i64 s), (8, .slice A1 xs.length c2), (9, .int .i64 ((xs.length : Nat) : Int)), (10, .int .i64 ((k : Nat) : Int))] ⟨rfl, rfl, rfl, rfl, trivial⟩ ?_
        refine c_reg ?_
        refine s_val rfl rfl (r_add (z := ((k + 1 : Nat) : Int)) rfl rfl rfl (by rw [w64 (by omega) (by omega)]; omega)) ?_
        refine s_val rfl rfl (r_mv rfl rfl) ?_
        refine s_nil ?_
        have hd2 : wonL s (xs.drop (k + 1)) = wonL s xs := by rw [← hd, drop_at hx8, wonL, if_neg (fun h => h12 h.2)]
        replace H := H.keep 0
        exact q_round (s := k) (k + 1) ⟨rfl, rfl, rfl, rfl, trivial⟩ ⟨H, by (try dsimp only); omega, hd2⟩ (by (try dsimp only); omega)
    · skip
      refine s_no rfl rfl ?_
      refine s_no rfl rfl ?_
      refine s_no rfl rfl ?_
      refine s_no rfl rfl ?_
      refine s_val rfl rfl (r_pickF rfl rfl rfl) ?_
      refine s_nil ?_
      refine q_then ?_
      refine c_env [(1, .int .i64 s), (7, .pointer (some ⟨b10, 0, none⟩)), (8, .slice A1 xs.length c2), (9, .int .i64 ((xs.length : Nat) : Int)), (10, .int .i64 ((k : Nat) : Int)), (22, .bool false)] ⟨rfl, rfl, rfl, rfl, rfl, rfl, trivial⟩ ?_
      refine c_no rfl ?_
      refine c_skip ?_
      refine q_blockN ?_
      refine q_then ?_
      refine c_env [(1, .int .i64 s), (8, .slice A1 xs.length c2), (9, .int .i64 ((xs.length : Nat) : Int)), (10, .int .i64 ((k : Nat) : Int))] ⟨rfl, rfl, rfl, rfl, trivial⟩ ?_
      refine c_reg ?_
      refine s_val rfl rfl (r_add (z := ((k + 1 : Nat) : Int)) rfl rfl rfl (by rw [w64 (by omega) (by omega)]; omega)) ?_
      refine s_val rfl rfl (r_mv rfl rfl) ?_
      refine s_nil ?_
      have hd2 : wonL s (xs.drop (k + 1)) = wonL s xs := by rw [← hd, drop_at hx8, wonL, if_neg (fun h => h11 h.1)]
      replace H := H.keep 0
      exact q_round (s := k) (k + 1) ⟨rfl, rfl, rfl, rfl, trivial⟩ ⟨H, by (try dsimp only); omega, hd2⟩ (by (try dsimp only); omega)
  · skip
    refine c_exit ?_
    refine q_thenE ?_
    refine q_thenE ?_
    refine q_blockE ?_
    refine q_then ?_
    refine c_env [] trivial ?_
    refine c_seq ?_
    refine c_reg ?_
    refine s_val rfl rfl (r_as rfl rfl) ?_
    refine s_val rfl rfl (r_as rfl rfl) ?_
    refine s_nil ?_
    refine q_then ?_
    refine c_env [(4, .int .i64 0), (5, .bool false)] ⟨rfl, rfl, trivial⟩ ?_
    refine c_ret ?_
    refine q_ret2 rfl rfl rfl ?_
    have e : wonL s xs = (0, false) := by rw [← hd, List.drop_eq_nil_of_le (by omega)]; rfl
    exact fin ⟨by rw [e], rfl⟩ H

set_option maxHeartbeats 1000000 in
theorem winners_ok (vxs : Value) (xs : List RecF) (hb : xs.length ≤ 1000000) :
    Cn Try.prog 64 [vxs] [] [rsl kRecF vxs xs] (fun v Bs => Bs = [osl (kInt .i64) v (winL xs)]) := by
  intro w0 F0 H
  obtain ⟨A1, c2, rfl, hc3, hm4, hp5⟩ := H.fR 0 rfl
  refine enter (args := [.slice A1 xs.length c2]) Try.func64 rfl rfl (Nat.le_of_ble_eq_true rfl) ?_
  refine c_seq ?_
  refine c_reg ?_
  refine s_val rfl rfl (r_as rfl rfl) ?_
  refine s_nil ?_
  refine q_then ?_
  replace H : Hd _ _ _ [] [rsl kRecF (.slice A1 xs.length c2) xs] := H
  refine c_env [(0, .slice A1 xs.length c2), (2, .slice none 0 0)] ⟨rfl, rfl, trivial⟩ ?_
  refine c_seq ?_
  refine c_reg ?_
  refine s_val rfl rfl (r_as rfl rfl) ?_
  refine s_nil ?_
  refine q_then ?_
  refine c_env [(0, .slice A1 xs.length c2), (2, .slice none 0 0), (3, .slice none 0 0)] ⟨rfl, rfl, rfl, trivial⟩ ?_
  refine c_seq ?_
  refine c_seq ?_
  refine c_reg ?_
  refine s_val rfl rfl (r_mv rfl rfl) ?_
  refine s_val rfl rfl (r_lenL rfl un71 rfl) ?_
  refine s_val rfl rfl (r_mv rfl rfl) ?_
  refine s_nil ?_
  refine q_then ?_
  refine c_env [(2, .slice none 0 0), (3, .slice none 0 0), (6, .slice A1 xs.length c2), (7, .int .i64 ((xs.length : Nat) : Int)), (8, .int .i64 0)] ⟨rfl, rfl, rfl, rfl, rfl, trivial⟩ ?_
  refine c_block ?_
  replace H := H.newnil (kInt .i64)
  refine c_loop (σ := Nat × Value) (fun (k, l) => [(2, .slice none 0 0), (3, l), (6, .slice A1 xs.length c2), (7, .int .i64 ((xs.length : Nat) : Int)), (8, .int .i64 ((k : Nat) : Int))]) (fun (k, l) w => (Hd w0 F0 w [osl (kInt .i64) l (wlF (xs.take k))] [rsl kRecF (.slice A1 xs.length c2) xs]) ∧ (k ≤ xs.length)) (fun (k, l) => xs.length - k) (0, .slice none 0 0) ⟨rfl, rfl, rfl, rfl, rfl, trivial⟩ ⟨H, by (try dsimp only); omega⟩ ?_
  rintro ⟨k, l⟩ w ⟨H, hk⟩
  have hwl := wl_len (xs.take k)
  have hjt : (xs.take k).length ≤ xs.length := by simp; omega
  refine c_seq ?_
  refine c_reg ?_
  refine s_val rfl rfl (r_lt rfl rfl rfl) ?_
  refine s_nil ?_
  refine q_then ?_
  refine c_env [(2, .slice none 0 0), (3, l), (6, .slice A1 xs.length c2), (7, .int .i64 ((xs.length : Nat) : Int)), (8, .int .i64 ((k : Nat) : Int)), (9, .bool (decide (((k : Nat) : Int) < ((xs.length : Nat) : Int))))] ⟨rfl, rfl, rfl, rfl, rfl, rfl, trivial⟩ ?_
  refine c_seq ?_
  refine c_dec (p := ((k : Nat) : Int) < ((xs.length : Nat) : Int)) rfl (fun h6 => ?_) (fun h6 => ?_)
  · skip
    refine c_skip ?_
    refine q_then ?_
    refine c_env [(2, .slice none 0 0), (3, l), (6, .slice A1 xs.length c2), (7, .int .i64 ((xs.length : Nat) : Int)), (8, .int .i64 ((k : Nat) : Int))] ⟨rfl, rfl, rfl, rfl, rfl, trivial⟩ ?_
    refine c_seq ?_
    refine c_block ?_
    refine c_seq ?_
    refine c_reg ?_
    obtain ⟨x7, hx8⟩ : ∃ z9, xs[k]? = some z9 := ⟨_, List.getElem?_eq_getElem (show k < xs.length by omega)⟩
    have th9 := H.thR 0 rfl hx8
    refine s_val rfl rfl (r_iaE (p := oOf A1 + k * 7) rfl sl71 rfl rfl (by omega) (by omega) th9 rfl) ?_
    refine s_val rfl rfl (r_ldA (cs := [.int .i64 x7.kind, .int .i64 x7.part, .int .i64 x7.sp, .int .i64 x7.att, .int .i64 x7.why, .slice x7.hs.A x7.hs.n x7.hs.c, .slice x7.hp.A x7.hp.n x7.hp.c]) rfl ty104 rfl rfl (H.elsR 0 rfl hx8 rfl)) ?_
    refine s_alloc rfl rfl rfl zr104 H (fun b10 w H => ?_)
    refine s_st rfl rfl rfl ty104 rfl rfl H rfl (Nat.le_of_ble_eq_true rfl) (fun u hu => by simp [Value.cells] at hu; rcases hu with rfl | rfl | rfl | rfl | rfl | rfl | rfl <;> rfl) (fun w H => ?_)
    replace H : Hd _ _ _ [blk b10 [.int .i64 x7.kind, .int .i64 x7.part, .int .i64 x7.sp, .int .i64 x7.att, .int .i64 x7.why, .slice x7.hs.A x7.hs.n x7.hs.c, .slice x7.hp.A x7.hp.n x7.hp.c] 104, osl (kInt .i64) l (wlF (xs.take k))] [rsl kRecF (.slice A1 xs.length c2) xs] := H
    refine s_nil ?_
    refine q_then ?_
    refine c_env [(2, .slice none 0 0), (3, l), (5, .pointer (some ⟨b10, 0, none⟩)), (6, .slice A1 xs.length c2), (7, .int .i64 ((xs.length : Nat) : Int)), (8, .int .i64 ((k : Nat) : Int))] ⟨rfl, rfl, rfl, rfl, rfl, rfl, trivial⟩ ?_
    refine c_seq ?_
    refine c_reg ?_
    refine s_val rfl rfl (r_fa rfl fo104_0 rfl) ?_
    refine s_val rfl rfl (r_ld rfl ty3 rfl (H.cellI 0 rfl rfl)) ?_
    refine s_val rfl rfl (r_eq rfl rfl rfl) ?_
    refine s_nil ?_
    refine q_then ?_
    refine c_env [(2, .slice none 0 0), (3, l), (5, .pointer (some ⟨b10, 0, none⟩)), (6, .slice A1 xs.length c2), (7, .int .i64 ((xs.length : Nat) : Int)), (8, .int .i64 ((k : Nat) : Int)), (14, .bool (decide (x7.kind = 1)))] ⟨rfl, rfl, rfl, rfl, rfl, rfl, rfl, trivial⟩ ?_
    refine c_dec (p := x7.kind = 1) rfl (fun h11 => ?_) (fun h11 => ?_)
    · skip
      refine c_reg ?_
      refine s_val rfl rfl (r_mv rfl rfl) ?_
      refine s_val rfl rfl (r_fa rfl fo104_2 rfl) ?_
      refine s_val rfl rfl (r_ld rfl ty3 rfl (H.cellI 0 rfl rfl)) ?_
      refine s_bsl (parts := [(0, .tmp 17)]) (vs := [.int .i64 x7.sp]) (cs := [.int .i64 x7.sp]) rfl rfl rfl sl22 zr3 rfl (by decide) (by decide) rfl rfl H (fun b12 w H => ?_)
      replace H := H.pick 2 rfl
      refine s_appF (xs := wlF (xs.take k)) (ys := [x7.sp]) rfl rfl rfl sl22 zr3 rfl (by decide) rfl rfl H (by first | omega | (simp only [List.length_append, List.length_cons, List.length_nil]; omega)) (fun F hA hR => blk_rsl (hA _ (List.mem_of_getElem? (i := 0) rfl)) rfl (by decide) (RepsR.flat_eq.2 rfl)) (fun v13 w H => ?_)
      refine s_val rfl rfl (r_as rfl rfl) ?_
      refine s_nil ?_
      refine q_blockN ?_
      refine q_then ?_
      replace H : Hd _ _ _ [osl (kInt .i64) v13 ((wlF (xs.take k)) ++ [x7.sp]), blk b12 [.int .i64 x7.sp] 3, blk b10 [.int .i64 x7.kind, .int .i64 x7.part, .int .i64 x7.sp, .int .i64 x7.att, .int .i64 x7.why, .slice x7.hs.A x7.hs.n x7.hs.c, .slice x7.hp.A x7.hp.n x7.hp.c] 104] [rsl kRecF (.slice A1 xs.length c2) xs] := H
      refine c_env [(2, .slice none 0 0), (3, v13), (6, .slice A1 xs.length c2), (7, .int .i64 ((xs.length : Nat) : Int)), (8, .int .i64 ((k : Nat) : Int))] ⟨rfl, rfl, rfl, rfl, rfl, trivial⟩ ?_
      refine c_reg ?_
      refine s_val rfl rfl (r_add (z := ((k + 1 : Nat) : Int)) rfl rfl rfl (by rw [w64 (by omega) (by omega)]; omega)) ?_
      refine s_val rfl rfl (r_mv rfl rfl) ?_
      refine s_nil ?_
      rw [← wl_yes hx8 h11] at H
      replace H := H.keep 1
      exact q_round (s := (k, undef)) (k + 1, v13) ⟨rfl, rfl, rfl, rfl, rfl, trivial⟩ ⟨H, by (try dsimp only); omega⟩ (by (try dsimp only); omega)
    · skip
      refine c_skip ?_
      refine q_blockN ?_
      refine q_then ?_
      refine c_env [(2, .slice none 0 0), (3, l), (6, .slice A1 xs.length c2), (7, .int .i64 ((xs.length : Nat) : Int)), (8, .int .i64 ((k : Nat) : Int))] ⟨rfl, rfl, rfl, rfl, rfl, trivial⟩ ?_
      refine c_reg ?_
      refine s_val rfl rfl (r_add (z := ((k + 1 : Nat) : Int)) rfl rfl rfl (by rw [w64 (by omega) (by omega)]; omega)) ?_
      refine s_val rfl rfl (r_mv rfl rfl) ?_
      refine s_nil ?_
      rw [← wl_no hx8 h11] at H
      replace H := H.pick 1 rfl
      replace H := H.keep 1
      exact q_round (s := (k, undef)) (k + 1, l) ⟨rfl, rfl, rfl, rfl, rfl, trivial⟩ ⟨H, by (try dsimp only); omega⟩ (by (try dsimp only); omega)
  · skip
    refine c_exit ?_
    refine q_thenE ?_
    refine q_thenE ?_
    refine q_blockE ?_
    refine q_then ?_
    refine c_env [(2, .slice none 0 0), (3, l)] ⟨rfl, rfl, trivial⟩ ?_
    refine c_seq ?_
    refine c_reg ?_
    refine s_val rfl rfl (r_mv rfl rfl) ?_
    refine sc (sortInt_ok l (wlF (xs.take k)) (by first | omega | (rw [sortI_len]; omega))) H l0 rfl rfl (e_fn kn93 rfl rfl) ?_
    rintro v14 _ w rfl H
    refine s_nil ?_
    refine q_then ?_
    replace H : Hd _ _ _ [osl (kInt .i64) l (sortI (wlF (xs.take k)))] [rsl kRecF (.slice A1 xs.length c2) xs] := H
    refine c_env [(2, .slice none 0 0), (3, l)] ⟨rfl, rfl, trivial⟩ ?_
    refine c_seq ?_
    refine c_reg ?_
    refine s_val rfl rfl (r_mv rfl rfl) ?_
    refine sc (compInt_ok l (sortI (wlF (xs.take k))) (by first | omega | (rw [sortI_len]; omega))) H l0 rfl rfl (e_fn kn94 rfl rfl) ?_
    rintro v15 _ w rfl H
    refine s_val rfl rfl (r_as rfl rfl) ?_
    refine s_nil ?_
    refine q_then ?_
    replace H : Hd _ _ _ [osl (kInt .i64) v15 (Lib.compact (sortI (wlF (xs.take k))))] [rsl kRecF (.slice A1 xs.length c2) xs] := H
    refine c_env [(2, v15)] ⟨rfl, trivial⟩ ?_
    refine c_ret ?_
    refine q_ret1 rfl rfl ?_
    replace H : Hd w0 F0 w [osl (kInt .i64) v15 (winL xs)] [rsl kRecF (.slice A1 xs.length c2) xs] := by rw [List.take_of_length_le (show xs.length ≤ k by omega)] at H; exact H
    exact fin rfl H

set_option maxHeartbeats 1000000 in
theorem awake26_ok  :
    Cn Try.prog 61 [] [] [] (fun v Bs => v = .bool true ∧ Bs = []) := by
  intro w0 F0 H
  refine enter (args := []) Try.func61 rfl rfl (Nat.le_of_ble_eq_true rfl) ?_
  refine c_seq ?_
  refine c_reg ?_
  refine s_val rfl rfl (r_as rfl rfl) ?_
  refine s_nil ?_
  refine q_then ?_
  refine c_env [(0, .bool false)] ⟨rfl, trivial⟩ ?_
  refine c_seq ?_
  refine c_reg ?_
  refine s_val rfl rfl (r_bd (parts := [(0, .const (.int .i64 1)), (3, .const (.int .i64 2))]) (vs := [.int .i64 1, .int .i64 2]) (cs := [.int .i64 1, .int .i64 0, .int .i64 0, .int .i64 2, .int .i64 0, .slice none 0 0, .slice none 0 0]) rfl bd104 rfl rfl) ?_
  refine s_val rfl rfl (r_bd (parts := [(0, .const (.int .i64 3)), (4, .const (.int .i64 3)), (1, .const (.int .i64 1)), (3, .const (.int .i64 1))]) (vs := [.int .i64 3, .int .i64 3, .int .i64 1, .int .i64 1]) (cs := [.int .i64 3, .int .i64 1, .int .i64 0, .int .i64 1, .int .i64 3, .slice none 0 0, .slice none 0 0]) rfl bd104 rfl rfl) ?_
  refine s_bsl (parts := [(0, .tmp 8), (1, .tmp 9)]) (vs := [.agg #[.int .i64 1, .int .i64 0, .int .i64 0, .int .i64 2, .int .i64 0, .slice none 0 0, .slice none 0 0], .agg #[.int .i64 3, .int .i64 1, .int .i64 0, .int .i64 1, .int .i64 3, .slice none 0 0, .slice none 0 0]]) (cs := [.int .i64 1, .int .i64 0, .int .i64 0, .int .i64 2, .int .i64 0, .slice none 0 0, .slice none 0 0, .int .i64 3, .int .i64 1, .int .i64 0, .int .i64 1, .int .i64 3, .slice none 0 0, .slice none 0 0]) rfl rfl rfl sl71 zr104 rfl (by decide) (by decide) rfl rfl H (fun b1 w H => ?_)
  refine sc (ended_ok (.slice (some ⟨b1, 0, none⟩) 2 2) [(⟨1, 0, 0, 2, 0, ⟨none, 0, 0⟩, ⟨none, 0, 0⟩⟩ : RecF), (⟨3, 1, 0, 1, 3, ⟨none, 0, 0⟩, ⟨none, 0, 0⟩⟩ : RecF)]) H (lA 0 rfl (fun F h => blk_rsl h rfl (by decide) (RepsR.flat_eq.2 rfl)) l0) rfl rfl (e_fn kn62 rfl rfl) ?_
  rintro _ _ w ⟨rfl, rfl⟩ H
  refine s_val rfl rfl (r_mv rfl rfl) ?_
  refine s_val rfl rfl (r_ex rfl rfl rfl) ?_
  refine s_val rfl rfl (r_ex rfl rfl rfl) ?_
  refine s_val rfl rfl (r_ex rfl rfl rfl) ?_
  refine s_val rfl rfl (r_ex rfl rfl rfl) ?_
  refine s_val rfl rfl (r_as rfl rfl) ?_
  refine s_val rfl rfl (r_as rfl rfl) ?_
  refine s_val rfl rfl (r_as rfl rfl) ?_
  refine s_val rfl rfl (r_as rfl rfl) ?_
  refine s_nil ?_
  refine q_then ?_
  replace H : Hd _ _ _ [blk b1 [.int .i64 1, .int .i64 0, .int .i64 0, .int .i64 2, .int .i64 0, .slice none 0 0, .slice none 0 0, .int .i64 3, .int .i64 1, .int .i64 0, .int .i64 1, .int .i64 3, .slice none 0 0, .slice none 0 0] 104] [] := H
  refine c_env [(0, .bool false), (1, .int .i64 ((endedL [(⟨1, 0, 0, 2, 0, ⟨none, 0, 0⟩, ⟨none, 0, 0⟩⟩ : RecF), (⟨3, 1, 0, 1, 3, ⟨none, 0, 0⟩, ⟨none, 0, 0⟩⟩ : RecF)]).1)), (2, .int .i64 ((endedL [(⟨1, 0, 0, 2, 0, ⟨none, 0, 0⟩, ⟨none, 0, 0⟩⟩ : RecF), (⟨3, 1, 0, 1, 3, ⟨none, 0, 0⟩, ⟨none, 0, 0⟩⟩ : RecF)]).2.1)), (3, .int .i64 ((endedL [(⟨1, 0, 0, 2, 0, ⟨none, 0, 0⟩, ⟨none, 0, 0⟩⟩ : RecF), (⟨3, 1, 0, 1, 3, ⟨none, 0, 0⟩, ⟨none, 0, 0⟩⟩ : RecF)]).2.2.1)), (4, .bool ((endedL [(⟨1, 0, 0, 2, 0, ⟨none, 0, 0⟩, ⟨none, 0, 0⟩⟩ : RecF), (⟨3, 1, 0, 1, 3, ⟨none, 0, 0⟩, ⟨none, 0, 0⟩⟩ : RecF)]).2.2.2))] ⟨rfl, rfl, rfl, rfl, rfl, trivial⟩ ?_
  refine c_seq ?_
  refine c_reg ?_
  refine s_val rfl rfl (r_bd (parts := [(0, .const (.int .i64 1)), (2, .const (.int .i64 3)), (3, .const (.int .i64 2))]) (vs := [.int .i64 1, .int .i64 3, .int .i64 2]) (cs := [.int .i64 1, .int .i64 0, .int .i64 3, .int .i64 2, .int .i64 0, .slice none 0 0, .slice none 0 0]) rfl bd104 rfl rfl) ?_
  refine s_bsl (parts := [(0, .tmp 17)]) (vs := [.agg #[.int .i64 1, .int .i64 0, .int .i64 3, .int .i64 2, .int .i64 0, .slice none 0 0, .slice none 0 0]]) (cs := [.int .i64 1, .int .i64 0, .int .i64 3, .int .i64 2, .int .i64 0, .slice none 0 0, .slice none 0 0]) rfl rfl rfl sl71 zr104 rfl (by decide) (by decide) rfl rfl H (fun b2 w H => ?_)
  refine sc (won_ok (.slice (some ⟨b2, 0, none⟩) 1 1) [(⟨1, 0, 3, 2, 0, ⟨none, 0, 0⟩, ⟨none, 0, 0⟩⟩ : RecF)] 3) H (lA 0 rfl (fun F h => blk_rsl h rfl (by decide) (RepsR.flat_eq.2 rfl)) l0) rfl rfl (e_fn kn63 rfl rfl) ?_
  rintro _ _ w ⟨rfl, rfl⟩ H
  refine s_val rfl rfl (r_mv rfl rfl) ?_
  refine s_val rfl rfl (r_ex rfl rfl rfl) ?_
  refine s_val rfl rfl (r_ex rfl rfl rfl) ?_
  refine s_val rfl rfl (r_as rfl rfl) ?_
  refine s_val rfl rfl (r_as rfl rfl) ?_
  refine s_nil ?_
  refine q_then ?_
  replace H : Hd _ _ _ [blk b2 [.int .i64 1, .int .i64 0, .int .i64 3, .int .i64 2, .int .i64 0, .slice none 0 0, .slice none 0 0] 104, blk b1 [.int .i64 1, .int .i64 0, .int .i64 0, .int .i64 2, .int .i64 0, .slice none 0 0, .slice none 0 0, .int .i64 3, .int .i64 1, .int .i64 0, .int .i64 1, .int .i64 3, .slice none 0 0, .slice none 0 0] 104] [] := H
  refine c_env [(0, .bool false), (1, .int .i64 ((endedL [(⟨1, 0, 0, 2, 0, ⟨none, 0, 0⟩, ⟨none, 0, 0⟩⟩ : RecF), (⟨3, 1, 0, 1, 3, ⟨none, 0, 0⟩, ⟨none, 0, 0⟩⟩ : RecF)]).1)), (2, .int .i64 ((endedL [(⟨1, 0, 0, 2, 0, ⟨none, 0, 0⟩, ⟨none, 0, 0⟩⟩ : RecF), (⟨3, 1, 0, 1, 3, ⟨none, 0, 0⟩, ⟨none, 0, 0⟩⟩ : RecF)]).2.1)), (3, .int .i64 ((endedL [(⟨1, 0, 0, 2, 0, ⟨none, 0, 0⟩, ⟨none, 0, 0⟩⟩ : RecF), (⟨3, 1, 0, 1, 3, ⟨none, 0, 0⟩, ⟨none, 0, 0⟩⟩ : RecF)]).2.2.1)), (4, .bool ((endedL [(⟨1, 0, 0, 2, 0, ⟨none, 0, 0⟩, ⟨none, 0, 0⟩⟩ : RecF), (⟨3, 1, 0, 1, 3, ⟨none, 0, 0⟩, ⟨none, 0, 0⟩⟩ : RecF)]).2.2.2)), (5, .int .i64 ((wonL 3 [(⟨1, 0, 3, 2, 0, ⟨none, 0, 0⟩, ⟨none, 0, 0⟩⟩ : RecF)]).1)), (6, .bool ((wonL 3 [(⟨1, 0, 3, 2, 0, ⟨none, 0, 0⟩, ⟨none, 0, 0⟩⟩ : RecF)]).2))] ⟨rfl, rfl, rfl, rfl, rfl, rfl, rfl, trivial⟩ ?_
  refine c_seq ?_
  refine c_reg ?_
  refine s_val rfl rfl (r_mv rfl rfl) ?_
  refine s_val rfl rfl (r_eq rfl rfl rfl) ?_
  refine s_val rfl rfl (r_mv rfl rfl) ?_
  refine s_dec (d := 24) (p := ((endedL [(⟨1, 0, 0, 2, 0, ⟨none, 0, 0⟩, ⟨none, 0, 0⟩⟩ : RecF), (⟨3, 1, 0, 1, 3, ⟨none, 0, 0⟩, ⟨none, 0, 0⟩⟩ : RecF)]).1) = 2) rfl (fun h3 => ?_) (fun h3 => ?_)
  · skip
    refine s_val rfl rfl (r_mv rfl rfl) ?_
    refine s_val rfl rfl (r_eq rfl rfl rfl) ?_
    refine s_val rfl rfl (r_pickT rfl rfl rfl) ?_
    refine s_val rfl rfl (r_mv rfl rfl) ?_
    refine s_dec (d := 28) (p := ((endedL [(⟨1, 0, 0, 2, 0, ⟨none, 0, 0⟩, ⟨none, 0, 0⟩⟩ : RecF), (⟨3, 1, 0, 1, 3, ⟨none, 0, 0⟩, ⟨none, 0, 0⟩⟩ : RecF)]).2.1) = 3) rfl (fun h4 => ?_) (fun h4 => ?_)
    · skip
      refine s_val rfl rfl (r_mv rfl rfl) ?_
      refine s_val rfl rfl (r_eq rfl rfl rfl) ?_
      refine s_val rfl rfl (r_pickT rfl rfl rfl) ?_
      refine s_val rfl rfl (r_mv rfl rfl) ?_
      refine s_dec (d := 32) (p := ((endedL [(⟨1, 0, 0, 2, 0, ⟨none, 0, 0⟩, ⟨none, 0, 0⟩⟩ : RecF), (⟨3, 1, 0, 1, 3, ⟨none, 0, 0⟩, ⟨none, 0, 0⟩⟩ : RecF)]).2.2.1) = 1) rfl (fun h5 => ?_) (fun h5 => ?_)
      · skip
        refine s_val rfl rfl (r_mv rfl rfl) ?_
        refine s_val rfl rfl (r_pickT rfl rfl rfl) ?_
        refine s_val rfl rfl (r_mv rfl rfl) ?_
        refine s_boo (d := 35) (b := (endedL [(⟨1, 0, 0, 2, 0, ⟨none, 0, 0⟩, ⟨none, 0, 0⟩⟩ : RecF), (⟨3, 1, 0, 1, 3, ⟨none, 0, 0⟩, ⟨none, 0, 0⟩⟩ : RecF)]).2.2.2) rfl (fun h6 => ?_) (fun h6 => ?_)
        · skip
          refine s_val rfl rfl (r_mv rfl rfl) ?_
          refine s_val rfl rfl (r_eq rfl rfl rfl) ?_
          refine s_val rfl rfl (r_pickT rfl rfl rfl) ?_
          refine s_val rfl rfl (r_mv rfl rfl) ?_
          refine s_dec (d := 39) (p := ((wonL 3 [(⟨1, 0, 3, 2, 0, ⟨none, 0, 0⟩, ⟨none, 0, 0⟩⟩ : RecF)]).1) = 2) rfl (fun h7 => ?_) (fun h7 => ?_)
          · skip
            refine s_val rfl rfl (r_mv rfl rfl) ?_
            refine s_val rfl rfl (r_pickT rfl rfl rfl) ?_
            refine s_val rfl rfl (r_mv rfl rfl) ?_
            refine s_boo (d := 42) (b := (wonL 3 [(⟨1, 0, 3, 2, 0, ⟨none, 0, 0⟩, ⟨none, 0, 0⟩⟩ : RecF)]).2) rfl (fun h8 => ?_) (fun h8 => ?_)
            · skip
              refine s_val rfl rfl (r_bd (parts := [(0, .const (.int .i64 1)), (2, .const (.int .i64 3))]) (vs := [.int .i64 1, .int .i64 3]) (cs := [.int .i64 1, .int .i64 0, .int .i64 3, .int .i64 0, .int .i64 0, .slice none 0 0, .slice none 0 0]) rfl bd104 rfl rfl) ?_
              refine s_val rfl rfl (r_bd (parts := [(0, .const (.int .i64 1)), (2, .const (.int .i64 1))]) (vs := [.int .i64 1, .int .i64 1]) (cs := [.int .i64 1, .int .i64 0, .int .i64 1, .int .i64 0, .int .i64 0, .slice none 0 0, .slice none 0 0]) rfl bd104 rfl rfl) ?_
              refine s_bsl (parts := [(0, .tmp 43), (1, .tmp 44)]) (vs := [.agg #[.int .i64 1, .int .i64 0, .int .i64 3, .int .i64 0, .int .i64 0, .slice none 0 0, .slice none 0 0], .agg #[.int .i64 1, .int .i64 0, .int .i64 1, .int .i64 0, .int .i64 0, .slice none 0 0, .slice none 0 0]]) (cs := [.int .i64 1, .int .i64 0, .int .i64 3, .int .i64 0, .int .i64 0, .slice none 0 0, .slice none 0 0, .int .i64 1, .int .i64 0, .int .i64 1, .int .i64 0, .int .i64 0, .slice none 0 0, .slice none 0 0]) rfl rfl rfl sl71 zr104 rfl (by decide) (by decide) rfl rfl H (fun b9 w H => ?_)
              replace H : Hd _ _ _ [blk b9 [.int .i64 1, .int .i64 0, .int .i64 3, .int .i64 0, .int .i64 0, .slice none 0 0, .slice none 0 0, .int .i64 1, .int .i64 0, .int .i64 1, .int .i64 0, .int .i64 0, .slice none 0 0, .slice none 0 0] 104, blk b2 [.int .i64 1, .int .i64 0, .int .i64 3, .int .i64 2, .int .i64 0, .slice none 0 0, .slice none 0 0] 104, blk b1 [.int .i64 1, .int .i64 0, .int .i64 0, .int .i64 2, .int .i64 0, .slice none 0 0, .slice none 0 0, .int .i64 3, .int .i64 1, .int .i64 0, .int .i64 1, .int .i64 3, .slice none 0 0, .slice none 0 0] 104] [] := H
              refine sc (winners_ok (.slice (some ⟨b9, 0, none⟩) 2 2) [(⟨1, 0, 3, 0, 0, ⟨none, 0, 0⟩, ⟨none, 0, 0⟩⟩ : RecF), (⟨1, 0, 1, 0, 0, ⟨none, 0, 0⟩, ⟨none, 0, 0⟩⟩ : RecF)] (by first | omega | decide | (simp only [List.length_append, List.length_cons, List.length_nil]; omega))) H (lA 0 rfl (fun F h => blk_rsl h rfl (by decide) (RepsR.flat_eq.2 rfl)) l0) rfl rfl (e_fn kn64 rfl rfl) ?_
              rintro v10 _ w rfl H
              refine s_bsl (parts := [(0, .const (.int .i64 1)), (1, .const (.int .i64 3))]) (vs := [.int .i64 1, .int .i64 3]) (cs := [.int .i64 1, .int .i64 3]) rfl rfl rfl sl22 zr3 rfl (by decide) (by decide) rfl rfl H (fun b11 w H => ?_)
              refine sc (sameInts_ok v10 (.slice (some ⟨b11, 0, none⟩) 2 2) (winL [(⟨1, 0, 3, 0, 0, ⟨none, 0, 0⟩, ⟨none, 0, 0⟩⟩ : RecF), (⟨1, 0, 1, 0, 0, ⟨none, 0, 0⟩, ⟨none, 0, 0⟩⟩ : RecF)]) [1, 3]) H (lA 1 rfl own_rd (lA 0 rfl (fun F h => blk_rsl h rfl (by decide) (RepsR.flat_eq.2 rfl)) l0)) rfl rfl (e_fn kn38 rfl rfl) ?_
              rintro _ _ w ⟨rfl, rfl⟩ H
              refine s_val rfl rfl (r_pickT rfl rfl rfl) ?_
              refine s_val rfl rfl (r_as rfl rfl) ?_
              refine s_nil ?_
              refine q_then ?_
              replace H : Hd _ _ _ [blk b11 [.int .i64 1, .int .i64 3] 3, osl (kInt .i64) v10 (winL [(⟨1, 0, 3, 0, 0, ⟨none, 0, 0⟩, ⟨none, 0, 0⟩⟩ : RecF), (⟨1, 0, 1, 0, 0, ⟨none, 0, 0⟩, ⟨none, 0, 0⟩⟩ : RecF)]), blk b9 [.int .i64 1, .int .i64 0, .int .i64 3, .int .i64 0, .int .i64 0, .slice none 0 0, .slice none 0 0, .int .i64 1, .int .i64 0, .int .i64 1, .int .i64 0, .int .i64 0, .slice none 0 0, .slice none 0 0] 104, blk b2 [.int .i64 1, .int .i64 0, .int .i64 3, .int .i64 2, .int .i64 0, .slice none 0 0, .slice none 0 0] 104, blk b1 [.int .i64 1, .int .i64 0, .int .i64 0, .int .i64 2, .int .i64 0, .slice none 0 0, .slice none 0 0, .int .i64 3, .int .i64 1, .int .i64 0, .int .i64 1, .int .i64 3, .slice none 0 0, .slice none 0 0] 104] [] := H
              refine c_env [(0, .bool (decide ((winL [(⟨1, 0, 3, 0, 0, ⟨none, 0, 0⟩, ⟨none, 0, 0⟩⟩ : RecF), (⟨1, 0, 1, 0, 0, ⟨none, 0, 0⟩, ⟨none, 0, 0⟩⟩ : RecF)]) = [1, 3])))] ⟨rfl, trivial⟩ ?_
              refine c_ret ?_
              refine q_ret1 rfl rfl ?_
              replace H := H.keep 0
              exact fin ⟨congrArg Value.bool (decide_eq_true win_two), rfl⟩ H
            · exact absurd h8 (by decide)
          · exact (h7 (by decide)).elim
        · exact absurd h6 (by decide)
      · exact (h5 (by decide)).elim
    · exact (h4 (by decide)).elim
  · exact (h3 (by decide)).elim

end Go.Proofs.Ytnaaahpmnhoabaa.X
