/- The machine: its stack. -/
import Derived.Test.YtlpgdkbokakniaaGreatDoorV1
set_option linter.unusedVariables false
set_option linter.unusedSimpArgs false
namespace Go.Proofs.YtlpgdkbokakniaaGreatDoor.X
open Go
set_option maxHeartbeats 1000000 in
theorem needs_ok (r : Nat) (pv : Value) (key : ByteArray) (vv : Value) (fuel pos steps : Int) (halted : Bool) (sv : Value) (g : Nat → Val) (tv mv : Value) (stk : List Val) (op : Int) (hst : stk.length ≤ 16) :
    Cn Tryz.prog 103 [.pointer (some ⟨r, 0, none⟩), .int .i64 op] [blk r (runC pv key vv fuel pos steps halted sv g tv mv) 108, osl kVal sv stk] [] (fun v Bs => ∃ u sv2, v = .tuple #[u, .int .i64 (needsM op stk).1] ∧ Bs = [blk r (runC pv key vv fuel pos steps halted sv2 g tv mv) 108, osl kVal sv2 (needsM op stk).2.1, osl kVal u (needsM op stk).2.2]) := by
  intro w0 F0 H
  obtain ⟨A1, c2, rfl, hc3, hm4, hp5⟩ := H.fA 1 rfl
  refine enter (args := [.pointer (some ⟨r, 0, none⟩), .int .i64 op]) Tryz.func103 rfl rfl (Nat.le_of_ble_eq_true rfl) ?_
  refine c_seq ?_
  refine c_reg ?_
  refine s_val rfl rfl (r_as rfl rfl) ?_
  refine s_val rfl rfl (r_as rfl rfl) ?_
  refine s_nil ?_
  refine q_then ?_
  replace H : Hd _ _ _ [blk r (runC pv key vv fuel pos steps halted (.slice A1 stk.length c2) g tv mv) 108, osl kVal (.slice A1 stk.length c2) stk] [] := H
  refine c_env [(0, .pointer (some ⟨r, 0, none⟩)), (1, .int .i64 op), (4, .slice none 0 0), (5, .int .i64 0)] ⟨rfl, rfl, rfl, rfl, trivial⟩ ?_
  refine c_seq ?_
  refine c_reg ?_
  refine s_val rfl rfl (r_mv rfl rfl) ?_
  refine sc (kinds_ok op) H l0 rfl rfl (e_fn kn126 rfl rfl) ?_
  rintro _ _ w ⟨rfl, rfl⟩ H
  refine s_val rfl rfl (r_as rfl rfl) ?_
  refine s_nil ?_
  refine q_then ?_
  refine c_env [(0, .pointer (some ⟨r, 0, none⟩)), (4, .slice none 0 0), (5, .int .i64 0), (6, .string (kindsS op))] ⟨rfl, rfl, rfl, rfl, trivial⟩ ?_
  refine c_seq ?_
  refine c_seq ?_
  refine c_reg ?_
  refine s_val rfl rfl (r_mv rfl rfl) ?_
  refine s_val rfl rfl (r_lenS rfl un9 rfl) ?_
  refine s_val rfl rfl (r_mv rfl rfl) ?_
  refine s_val rfl rfl (r_nilP rfl rfl) ?_
  refine s_val rfl rfl (r_fa rfl fo108_7 rfl) ?_
  refine s_val rfl rfl (r_ld rfl ty102 rfl (H.cellI 0 rfl rfl)) ?_
  refine s_val rfl rfl (r_lenL rfl un102 rfl) ?_
  refine s_val rfl rfl (r_gt rfl rfl rfl) ?_
  refine s_nil ?_
  refine q_then ?_
  refine c_env [(0, .pointer (some ⟨r, 0, none⟩)), (4, .slice none 0 0), (5, .int .i64 0), (6, .string (kindsS op)), (21, .bool (decide (((stk.length : Nat) : Int) < (((kindsS op).size : Nat) : Int))))] ⟨rfl, rfl, rfl, rfl, rfl, trivial⟩ ?_
  refine c_dec (p := ((stk.length : Nat) : Int) < (((kindsS op).size : Nat) : Int)) rfl (fun h6 => ?_) (fun h6 => ?_)
  · skip
    refine c_seq ?_
    refine c_reg ?_
    refine s_val rfl rfl (r_as rfl rfl) ?_
    refine s_val rfl rfl (r_as rfl rfl) ?_
    refine s_nil ?_
    refine q_then ?_
    refine c_env [(0, .pointer (some ⟨r, 0, none⟩)), (4, .slice none 0 0), (5, .int .i64 1), (6, .string (kindsS op))] ⟨rfl, rfl, rfl, rfl, trivial⟩ ?_
    refine c_ret ?_
    refine q_thenR ?_
    refine q_ret2 rfl rfl rfl ?_
    have e := needs_under (op := op) (stk := stk) (by omega)
    replace H := H.pick 1 rfl
    replace H := H.pick 1 rfl
    replace H := H.newnil kVal
    replace H := H.pick 2 rfl
    replace H := H.pick 2 rfl
    replace H := H.pick 2 rfl
    replace H := H.pick 2 rfl
    replace H := H.pick 2 rfl
    replace H : Hd _ _ _ [blk r (runC pv key vv fuel pos steps halted (.slice A1 stk.length c2) g tv mv) 108, osl kVal (.slice A1 stk.length c2) stk, osl kVal (.slice none 0 0) []] [] := H
    exact fin ⟨_, _, by rw [e], by rw [e]⟩ H
  · skip
    refine c_skip ?_
    refine q_then ?_
    refine c_env [(0, .pointer (some ⟨r, 0, none⟩)), (4, .slice none 0 0), (5, .int .i64 0), (6, .string (kindsS op))] ⟨rfl, rfl, rfl, rfl, trivial⟩ ?_
    refine c_seq ?_
    refine c_draw mo (by kernel_rfl) H ?_
    refine u_val rfl rfl (fun w H => r_mv rfl rfl) ?_
    refine u_val rfl rfl (fun w H => r_nilP rfl rfl) ?_
    refine u_val rfl rfl (fun w H => r_fa rfl fo108_7 rfl) ?_
    refine u_val rfl rfl (fun w H => r_ld rfl ty102 rfl (H.cellI 0 rfl rfl)) ?_
    refine u_val rfl rfl (fun w H => r_mv rfl rfl) ?_
    refine u_val rfl rfl (fun w H => r_nilP rfl rfl) ?_
    refine u_val rfl rfl (fun w H => r_fa rfl fo108_7 rfl) ?_
    refine u_val rfl rfl (fun w H => r_ld rfl ty102 rfl (H.cellI 0 rfl rfl)) ?_
    refine u_val rfl rfl (fun w H => r_lenL rfl un102 rfl) ?_
    refine u_val rfl rfl (fun w H => r_mv rfl rfl) ?_
    refine u_val rfl rfl (fun w H => r_lenS rfl un9 rfl) ?_
    refine u_val rfl rfl (fun w H => r_sub (z := ((stk.length - ((kindsS op).size) : Nat) : Int)) rfl rfl rfl (by rw [w64 (by omega) (by omega)]; omega)) ?_
    refine u_val rfl rfl (fun w H => r_cutP rfl sl102 rfl rfl (by omega) (by omega) rfl) ?_
    refine u_val rfl rfl (fun w H => r_mv rfl rfl) ?_
    refine u_val rfl rfl (fun w H => r_nilP rfl rfl) ?_
    refine u_val rfl rfl (fun w H => r_fa rfl fo108_7 rfl) ?_
    refine u_val rfl rfl (fun w H => r_ld rfl ty102 rfl (H.cellI 0 rfl rfl)) ?_
    refine u_val rfl rfl (fun w H => r_mv rfl rfl) ?_
    refine u_val rfl rfl (fun w H => r_nilP rfl rfl) ?_
    refine u_val rfl rfl (fun w H => r_fa rfl fo108_7 rfl) ?_
    refine u_val rfl rfl (fun w H => r_ld rfl ty102 rfl (H.cellI 0 rfl rfl)) ?_
    refine u_val rfl rfl (fun w H => r_lenL rfl un102 rfl) ?_
    refine u_val rfl rfl (fun w H => r_mv rfl rfl) ?_
    refine u_val rfl rfl (fun w H => r_lenS rfl un9 rfl) ?_
    refine u_val rfl rfl (fun w H => r_sub (z := ((stk.length - ((kindsS op).size) : Nat) : Int)) rfl rfl rfl (by rw [w64 (by omega) (by omega)]; omega)) ?_
    refine u_val rfl rfl (fun w H => r_cutS rfl sl102 rfl rfl (by omega) (by omega) rfl) ?_
    refine u_val rfl rfl (fun w H => r_as rfl rfl) ?_
    refine u_val rfl rfl (fun w H => r_as rfl rfl) ?_
    refine u_end (fun w H => ?_)
    refine q_then ?_
    refine c_env [(0, .pointer (some ⟨r, 0, none⟩)), (4, .slice none 0 0), (5, .int .i64 0), (6, .string (kindsS op)), (7, .slice A1 (stk.length - ((kindsS op).size)) c2), (8, .slice (cutA A1 c2 (stk.length - ((kindsS op).size)) 3) (stk.length - (stk.length - ((kindsS op).size))) (c2 - (stk.length - ((kindsS op).size))))] ⟨rfl, rfl, rfl, rfl, rfl, rfl, trivial⟩ ?_
    refine c_seq ?_
    refine c_seq ?_
    refine c_reg ?_
    refine s_val rfl rfl (r_mv rfl rfl) ?_
    refine s_val rfl rfl (r_lenL rfl un102 rfl) ?_
    refine s_val rfl rfl (r_mv rfl rfl) ?_
    refine s_nil ?_
    refine q_then ?_
    refine c_env [(0, .pointer (some ⟨r, 0, none⟩)), (4, .slice none 0 0), (5, .int .i64 0), (6, .string (kindsS op)), (7, .slice A1 (stk.length - ((kindsS op).size)) c2), (8, .slice (cutA A1 c2 (stk.length - ((kindsS op).size)) 3) (stk.length - (stk.length - ((kindsS op).size))) (c2 - (stk.length - ((kindsS op).size)))), (48, .slice (cutA A1 c2 (stk.length - ((kindsS op).size)) 3) (stk.length - (stk.length - ((kindsS op).size))) (c2 - (stk.length - ((kindsS op).size)))), (49, .int .i64 ((stk.length - (stk.length - ((kindsS op).size)) : Nat) : Int)), (50, .int .i64 0)] ⟨rfl, rfl, rfl, rfl, rfl, rfl, rfl, rfl, rfl, trivial⟩ ?_
    refine c_block ?_
    replace H := H.pick 1 rfl
    replace H := H.pick 1 rfl
    refine c_loop (σ := Nat) (fun i => [(0, .pointer (some ⟨r, 0, none⟩)), (6, .string (kindsS op)), (7, .slice A1 (stk.length - ((kindsS op).size)) c2), (8, .slice (cutA A1 c2 (stk.length - ((kindsS op).size)) 3) (stk.length - (stk.length - ((kindsS op).size))) (c2 - (stk.length - ((kindsS op).size)))), (48, .slice (cutA A1 c2 (stk.length - ((kindsS op).size)) 3) (stk.length - (stk.length - ((kindsS op).size))) (c2 - (stk.length - ((kindsS op).size)))), (49, .int .i64 ((stk.length - (stk.length - ((kindsS op).size)) : Nat) : Int)), (50, .int .i64 ((i : Nat) : Int))]) (fun i w => (Hd w0 F0 w [blk r (runC pv key vv fuel pos steps halted (.slice A1 stk.length c2) g tv mv) 108, osl kVal (.slice A1 stk.length c2) stk] []) ∧ (i ≤ (kindsS op).size) ∧ (fitsB ((kindsS op).data.toList.drop i) ((stk.drop (stk.length - (kindsS op).size)).drop i) = fitsB (kindsS op).data.toList (stk.drop (stk.length - (kindsS op).size)))) (fun i => (kindsS op).size - i) 0 ⟨rfl, rfl, rfl, rfl, rfl, rfl, rfl, trivial⟩ ⟨H, Nat.zero_le _, rfl⟩ ?_
    rintro i w ⟨H, hi, hf⟩
    refine c_seq ?_
    refine c_reg ?_
    refine s_val rfl rfl (r_lt rfl rfl rfl) ?_
    refine s_nil ?_
    refine q_then ?_
    refine c_env [(0, .pointer (some ⟨r, 0, none⟩)), (6, .string (kindsS op)), (7, .slice A1 (stk.length - ((kindsS op).size)) c2), (8, .slice (cutA A1 c2 (stk.length - ((kindsS op).size)) 3) (stk.length - (stk.length - ((kindsS op).size))) (c2 - (stk.length - ((kindsS op).size)))), (48, .slice (cutA A1 c2 (stk.length - ((kindsS op).size)) 3) (stk.length - (stk.length - ((kindsS op).size))) (c2 - (stk.length - ((kindsS op).size)))), (49, .int .i64 ((stk.length - (stk.length - ((kindsS op).size)) : Nat) : Int)), (50, .int .i64 ((i : Nat) : Int)), (51, .bool (decide (((i : Nat) : Int) < ((stk.length - (stk.length - ((kindsS op).size)) : Nat) : Int))))] ⟨rfl, rfl, rfl, rfl, rfl, rfl, rfl, rfl, trivial⟩ ?_
    refine c_seq ?_
    refine c_dec (p := ((i : Nat) : Int) < ((stk.length - (stk.length - ((kindsS op).size)) : Nat) : Int)) rfl (fun h7 => ?_) (fun h7 => ?_)
    · skip
      refine c_skip ?_
      refine q_then ?_
      refine c_env [(0, .pointer (some ⟨r, 0, none⟩)), (6, .string (kindsS op)), (7, .slice A1 (stk.length - ((kindsS op).size)) c2), (8, .slice (cutA A1 c2 (stk.length - ((kindsS op).size)) 3) (stk.length - (stk.length - ((kindsS op).size))) (c2 - (stk.length - ((kindsS op).size)))), (48, .slice (cutA A1 c2 (stk.length - ((kindsS op).size)) 3) (stk.length - (stk.length - ((kindsS op).size))) (c2 - (stk.length - ((kindsS op).size)))), (49, .int .i64 ((stk.length - (stk.length - ((kindsS op).size)) : Nat) : Int)), (50, .int .i64 ((i : Nat) : Int))] ⟨rfl, rfl, rfl, rfl, rfl, rfl, rfl, trivial⟩ ?_
      refine c_seq ?_
      refine c_block ?_
      refine c_seq ?_
      refine c_reg ?_
      refine s_val rfl rfl (r_mv rfl rfl) ?_
      obtain ⟨x8, hx9⟩ : ∃ z9, (stk.drop (stk.length - ((kindsS op).size)))[i]? = some z9 := ⟨_, List.getElem?_eq_getElem (show i < (stk.drop (stk.length - ((kindsS op).size))).length by simp only [List.length_take, List.length_drop]; omega)⟩
      have th10 := H.thX (fun F hA hR => rsl_suf (own_rd F (hA _ (List.mem_of_getElem? (i := 1) rfl))) (i := stk.length - ((kindsS op).size)) (by omega)) hx9
      refine s_val rfl rfl (r_iaE (p := oOf (cutA A1 c2 (stk.length - ((kindsS op).size)) 3) + i * 3) rfl sl102 rfl rfl (by omega) (by omega) th10 rfl) ?_
      refine s_val rfl rfl (r_ldA (cs := [.bool x8.t, .int .i64 x8.n, .string x8.b]) rfl ty104 rfl rfl (H.elsX (fun F hA hR => rsl_suf (own_rd F (hA _ (List.mem_of_getElem? (i := 1) rfl))) (i := stk.length - ((kindsS op).size)) (by omega)) hx9 rfl)) ?_
      refine s_alloc rfl rfl rfl zr104 H (fun b11 w H => ?_)
      refine s_val rfl rfl (r_as rfl rfl) ?_
      refine s_st rfl rfl rfl ty104 rfl rfl H rfl (Nat.le_of_ble_eq_true rfl) (fun u hu => by simp [Value.cells] at hu; rcases hu with rfl | rfl | rfl <;> rfl) (fun w H => ?_)
      replace H : Hd _ _ _ [blk b11 [.bool x8.t, .int .i64 x8.n, .string x8.b] 104, blk r (runC pv key vv fuel pos steps halted (.slice A1 stk.length c2) g tv mv) 108, osl kVal (.slice A1 stk.length c2) stk] [] := H
      refine s_nil ?_
      refine q_then ?_
      refine c_env [(0, .pointer (some ⟨r, 0, none⟩)), (6, .string (kindsS op)), (7, .slice A1 (stk.length - ((kindsS op).size)) c2), (8, .slice (cutA A1 c2 (stk.length - ((kindsS op).size)) 3) (stk.length - (stk.length - ((kindsS op).size))) (c2 - (stk.length - ((kindsS op).size)))), (9, .int .i64 ((i : Nat) : Int)), (10, .pointer (some ⟨b11, 0, none⟩)), (48, .slice (cutA A1 c2 (stk.length - ((kindsS op).size)) 3) (stk.length - (stk.length - ((kindsS op).size))) (c2 - (stk.length - ((kindsS op).size)))), (49, .int .i64 ((stk.length - (stk.length - ((kindsS op).size)) : Nat) : Int)), (50, .int .i64 ((i : Nat) : Int))] ⟨rfl, rfl, rfl, rfl, rfl, rfl, rfl, rfl, rfl, trivial⟩ ?_
      refine c_seq ?_
      refine c_reg ?_
      refine s_val rfl rfl (r_mv rfl rfl) ?_
      refine s_val rfl rfl (r_mv rfl rfl) ?_
      obtain ⟨c12, hb13⟩ : ∃ c0, (kindsS op)[i]? = some c0 := ⟨_, getElem?_pos (kindsS op) i (by omega)⟩
      refine s_val rfl rfl (r_idxS rfl un9 rfl rfl (by omega) hb13) ?_
      refine s_val rfl rfl (r_eq rfl rfl rfl) ?_
      refine s_val rfl rfl (r_mv rfl rfl) ?_
      refine s_dec (d := 59) (p := ((c12).toNat : Int) = 110) rfl (fun h14 => ?_) (fun h14 => ?_)
      · skip
        refine s_val rfl rfl (r_fa rfl fo104_0 rfl) ?_
        refine s_val rfl rfl (r_ld rfl ty4 rfl (H.cellI 0 rfl rfl)) ?_
        refine s_val rfl rfl (r_pickT rfl rfl rfl) ?_
        refine s_val rfl rfl (r_mv rfl rfl) ?_
        refine s_boo (d := 63) (b := x8.t) rfl (fun h15 => ?_) (fun h15 => ?_)
        · skip
          refine s_no rfl rfl ?_
          refine s_no rfl rfl ?_
          refine s_no rfl rfl ?_
          refine s_no rfl rfl ?_
          refine s_no rfl rfl ?_
          refine s_no rfl rfl ?_
          refine s_no rfl rfl ?_
          refine s_no rfl rfl ?_
          refine s_no rfl rfl ?_
          refine s_val rfl rfl (r_pickT rfl rfl rfl) ?_
          refine s_nil ?_
          refine q_then ?_
          refine c_env [(0, .pointer (some ⟨r, 0, none⟩)), (6, .string (kindsS op)), (7, .slice A1 (stk.length - ((kindsS op).size)) c2), (8, .slice (cutA A1 c2 (stk.length - ((kindsS op).size)) 3) (stk.length - (stk.length - ((kindsS op).size))) (c2 - (stk.length - ((kindsS op).size)))), (48, .slice (cutA A1 c2 (stk.length - ((kindsS op).size)) 3) (stk.length - (stk.length - ((kindsS op).size))) (c2 - (stk.length - ((kindsS op).size)))), (49, .int .i64 ((stk.length - (stk.length - ((kindsS op).size)) : Nat) : Int)), (50, .int .i64 ((i : Nat) : Int)), (73, .bool true)] ⟨rfl, rfl, rfl, rfl, rfl, rfl, rfl, rfl, trivial⟩ ?_
          refine c_yes rfl ?_
          refine c_seq ?_
          refine c_reg ?_
          refine s_val rfl rfl (r_as rfl rfl) ?_
          refine s_val rfl rfl (r_as rfl rfl) ?_
          refine s_nil ?_
          refine q_then ?_
          refine c_env [(0, .pointer (some ⟨r, 0, none⟩)), (4, .slice none 0 0), (5, .int .i64 2), (6, .string (kindsS op)), (7, .slice A1 (stk.length - ((kindsS op).size)) c2), (8, .slice (cutA A1 c2 (stk.length - ((kindsS op).size)) 3) (stk.length - (stk.length - ((kindsS op).size))) (c2 - (stk.length - ((kindsS op).size)))), (48, .slice (cutA A1 c2 (stk.length - ((kindsS op).size)) 3) (stk.length - (stk.length - ((kindsS op).size))) (c2 - (stk.length - ((kindsS op).size)))), (49, .int .i64 ((stk.length - (stk.length - ((kindsS op).size)) : Nat) : Int)), (50, .int .i64 ((i : Nat) : Int))] ⟨rfl, rfl, rfl, rfl, rfl, rfl, rfl, rfl, rfl, trivial⟩ ?_
          refine c_ret ?_
          refine q_blockR ?_
          refine q_thenR ?_
          refine q_thenR ?_
          refine q_blockR ?_
          refine q_thenR ?_
          refine q_ret2 rfl rfl rfl ?_
          have hfit : fitB c12 x8 = false := by rw [fitB_eq]; simp_all
          have e := needs_type (op := op) (stk := stk) (by omega) (hf.symm.trans (fits_no (bytes_get hb13) hx9 hfit))
          replace H := H.pick 2 rfl
          replace H := H.pick 2 rfl
          replace H := H.keep 2
          replace H := H.newnil kVal
          replace H := H.pick 2 rfl
          replace H := H.pick 2 rfl
          replace H := H.pick 2 rfl
          replace H := H.pick 2 rfl
          replace H := H.pick 2 rfl
          replace H : Hd _ _ _ [blk r (runC pv key vv fuel pos steps halted (.slice A1 stk.length c2) g tv mv) 108, osl kVal (.slice A1 stk.length c2) stk, osl kVal (.slice none 0 0) []] [] := H
          exact fin ⟨_, _, by rw [e], by rw [e]⟩ H
        · skip
          refine s_val rfl rfl (r_mv rfl rfl) ?_
          refine s_val rfl rfl (r_mv rfl rfl) ?_
          refine s_val rfl rfl (r_idxS rfl un9 rfl rfl (by omega) hb13) ?_
          refine s_val rfl rfl (r_eq rfl rfl rfl) ?_
          refine s_val rfl rfl (r_mv rfl rfl) ?_
          refine s_dec (d := 68) (p := ((c12).toNat : Int) = 98) rfl (fun h16 => ?_) (fun h16 => ?_)
          · skip
            refine s_val rfl rfl (r_fa rfl fo104_0 rfl) ?_
            refine s_val rfl rfl (r_ld rfl ty4 rfl (H.cellI 0 rfl rfl)) ?_
            refine s_val rfl rfl (r_not rfl rfl rfl) ?_
            refine s_val rfl rfl (r_pickT rfl rfl rfl) ?_
            refine s_val rfl rfl (r_pickF rfl rfl rfl) ?_
            refine s_nil ?_
            refine q_then ?_
            refine c_env [(0, .pointer (some ⟨r, 0, none⟩)), (6, .string (kindsS op)), (7, .slice A1 (stk.length - ((kindsS op).size)) c2), (8, .slice (cutA A1 c2 (stk.length - ((kindsS op).size)) 3) (stk.length - (stk.length - ((kindsS op).size))) (c2 - (stk.length - ((kindsS op).size)))), (48, .slice (cutA A1 c2 (stk.length - ((kindsS op).size)) 3) (stk.length - (stk.length - ((kindsS op).size))) (c2 - (stk.length - ((kindsS op).size)))), (49, .int .i64 ((stk.length - (stk.length - ((kindsS op).size)) : Nat) : Int)), (50, .int .i64 ((i : Nat) : Int)), (73, .bool (!x8.t))] ⟨rfl, rfl, rfl, rfl, rfl, rfl, rfl, rfl, trivial⟩ ?_
            refine c_cond (b := !x8.t) rfl (fun h17 => ?_) (fun h17 => ?_)
            · skip
              refine c_seq ?_
              refine c_reg ?_
              refine s_val rfl rfl (r_as rfl rfl) ?_
              refine s_val rfl rfl (r_as rfl rfl) ?_
              refine s_nil ?_
              refine q_then ?_
              refine c_env [(0, .pointer (some ⟨r, 0, none⟩)), (4, .slice none 0 0), (5, .int .i64 2), (6, .string (kindsS op)), (7, .slice A1 (stk.length - ((kindsS op).size)) c2), (8, .slice (cutA A1 c2 (stk.length - ((kindsS op).size)) 3) (stk.length - (stk.length - ((kindsS op).size))) (c2 - (stk.length - ((kindsS op).size)))), (48, .slice (cutA A1 c2 (stk.length - ((kindsS op).size)) 3) (stk.length - (stk.length - ((kindsS op).size))) (c2 - (stk.length - ((kindsS op).size)))), (49, .int .i64 ((stk.length - (stk.length - ((kindsS op).size)) : Nat) : Int)), (50, .int .i64 ((i : Nat) : Int))] ⟨rfl, rfl, rfl, rfl, rfl, rfl, rfl, rfl, rfl, trivial⟩ ?_
              refine c_ret ?_
              refine q_blockR ?_
              refine q_thenR ?_
              refine q_thenR ?_
              refine q_blockR ?_
              refine q_thenR ?_
              refine q_ret2 rfl rfl rfl ?_
              have hfit : fitB c12 x8 = false := by rw [fitB_eq]; simp_all
              have e := needs_type (op := op) (stk := stk) (by omega) (hf.symm.trans (fits_no (bytes_get hb13) hx9 hfit))
              replace H := H.pick 2 rfl
              replace H := H.pick 2 rfl
              replace H := H.keep 2
              replace H := H.newnil kVal
              replace H := H.pick 2 rfl
              replace H := H.pick 2 rfl
              replace H := H.pick 2 rfl
              replace H := H.pick 2 rfl
              replace H := H.pick 2 rfl
              replace H : Hd _ _ _ [blk r (runC pv key vv fuel pos steps halted (.slice A1 stk.length c2) g tv mv) 108, osl kVal (.slice A1 stk.length c2) stk, osl kVal (.slice none 0 0) []] [] := H
              exact fin ⟨_, _, by rw [e], by rw [e]⟩ H
            · skip
              refine c_skip ?_
              refine q_blockN ?_
              refine q_then ?_
              refine c_env [(0, .pointer (some ⟨r, 0, none⟩)), (6, .string (kindsS op)), (7, .slice A1 (stk.length - ((kindsS op).size)) c2), (8, .slice (cutA A1 c2 (stk.length - ((kindsS op).size)) 3) (stk.length - (stk.length - ((kindsS op).size))) (c2 - (stk.length - ((kindsS op).size)))), (48, .slice (cutA A1 c2 (stk.length - ((kindsS op).size)) 3) (stk.length - (stk.length - ((kindsS op).size))) (c2 - (stk.length - ((kindsS op).size)))), (49, .int .i64 ((stk.length - (stk.length - ((kindsS op).size)) : Nat) : Int)), (50, .int .i64 ((i : Nat) : Int))] ⟨rfl, rfl, rfl, rfl, rfl, rfl, rfl, trivial⟩ ?_
              refine c_reg ?_
              refine s_val rfl rfl (r_add (z := ((i + 1 : Nat) : Int)) rfl rfl rfl (by rw [w64 (by omega) (by omega)]; omega)) ?_
              refine s_val rfl rfl (r_mv rfl rfl) ?_
              refine s_nil ?_
              have hfit : fitB c12 x8 = true := by rw [fitB_eq]; simp_all
              have hf2 := (fits_go (bytes_get hb13) hx9 hfit).trans hf
              replace H := H.pick 2 rfl
              replace H := H.pick 2 rfl
              replace H := H.keep 2
              exact q_round (s := i) (i + 1) ⟨rfl, rfl, rfl, rfl, rfl, rfl, rfl, trivial⟩ ⟨H, by (try dsimp only); omega, hf2⟩ (by (try dsimp only); omega)
          · skip
            refine s_no rfl rfl ?_
            refine s_no rfl rfl ?_
            refine s_no rfl rfl ?_
            refine s_val rfl rfl (r_pickF rfl rfl rfl) ?_
            refine s_val rfl rfl (r_pickF rfl rfl rfl) ?_
            refine s_nil ?_
            refine q_then ?_
            refine c_env [(0, .pointer (some ⟨r, 0, none⟩)), (6, .string (kindsS op)), (7, .slice A1 (stk.length - ((kindsS op).size)) c2), (8, .slice (cutA A1 c2 (stk.length - ((kindsS op).size)) 3) (stk.length - (stk.length - ((kindsS op).size))) (c2 - (stk.length - ((kindsS op).size)))), (48, .slice (cutA A1 c2 (stk.length - ((kindsS op).size)) 3) (stk.length - (stk.length - ((kindsS op).size))) (c2 - (stk.length - ((kindsS op).size)))), (49, .int .i64 ((stk.length - (stk.length - ((kindsS op).size)) : Nat) : Int)), (50, .int .i64 ((i : Nat) : Int)), (73, .bool false)] ⟨rfl, rfl, rfl, rfl, rfl, rfl, rfl, rfl, trivial⟩ ?_
            refine c_no rfl ?_
            refine c_skip ?_
            refine q_blockN ?_
            refine q_then ?_
            refine c_env [(0, .pointer (some ⟨r, 0, none⟩)), (6, .string (kindsS op)), (7, .slice A1 (stk.length - ((kindsS op).size)) c2), (8, .slice (cutA A1 c2 (stk.length - ((kindsS op).size)) 3) (stk.length - (stk.length - ((kindsS op).size))) (c2 - (stk.length - ((kindsS op).size)))), (48, .slice (cutA A1 c2 (stk.length - ((kindsS op).size)) 3) (stk.length - (stk.length - ((kindsS op).size))) (c2 - (stk.length - ((kindsS op).size)))), (49, .int .i64 ((stk.length - (stk.length - ((kindsS op).size)) : Nat) : Int)), (50, .int .i64 ((i : Nat) : Int))] ⟨rfl, rfl, rfl, rfl, rfl, rfl, rfl, trivial⟩ ?_
            refine c_reg ?_
            refine s_val rfl rfl (r_add (z := ((i + 1 : Nat) : Int)) rfl rfl rfl (by rw [w64 (by omega) (by omega)]; omega)) ?_
            refine s_val rfl rfl (r_mv rfl rfl) ?_
            refine s_nil ?_
            have hfit : fitB c12 x8 = true := by rw [fitB_eq]; simp_all
            have hf2 := (fits_go (bytes_get hb13) hx9 hfit).trans hf
            replace H := H.pick 2 rfl
            replace H := H.pick 2 rfl
            replace H := H.keep 2
            exact q_round (s := i) (i + 1) ⟨rfl, rfl, rfl, rfl, rfl, rfl, rfl, trivial⟩ ⟨H, by (try dsimp only); omega, hf2⟩ (by (try dsimp only); omega)
      · skip
        refine s_no rfl rfl ?_
        refine s_no rfl rfl ?_
        refine s_val rfl rfl (r_pickF rfl rfl rfl) ?_
        refine s_val rfl rfl (r_mv rfl rfl) ?_
        refine s_val rfl rfl (r_mv rfl rfl) ?_
        refine s_val rfl rfl (r_mv rfl rfl) ?_
        refine s_val rfl rfl (r_idxS rfl un9 rfl rfl (by omega) hb13) ?_
        refine s_val rfl rfl (r_eq rfl rfl rfl) ?_
        refine s_val rfl rfl (r_mv rfl rfl) ?_
        refine s_dec (d := 68) (p := ((c12).toNat : Int) = 98) rfl (fun h18 => ?_) (fun h18 => ?_)
        · skip
          refine s_val rfl rfl (r_fa rfl fo104_0 rfl) ?_
          refine s_val rfl rfl (r_ld rfl ty4 rfl (H.cellI 0 rfl rfl)) ?_
          refine s_val rfl rfl (r_not rfl rfl rfl) ?_
          refine s_val rfl rfl (r_pickT rfl rfl rfl) ?_
          refine s_val rfl rfl (r_pickF rfl rfl rfl) ?_
          refine s_nil ?_
          refine q_then ?_
          refine c_env [(0, .pointer (some ⟨r, 0, none⟩)), (6, .string (kindsS op)), (7, .slice A1 (stk.length - ((kindsS op).size)) c2), (8, .slice (cutA A1 c2 (stk.length - ((kindsS op).size)) 3) (stk.length - (stk.length - ((kindsS op).size))) (c2 - (stk.length - ((kindsS op).size)))), (48, .slice (cutA A1 c2 (stk.length - ((kindsS op).size)) 3) (stk.length - (stk.length - ((kindsS op).size))) (c2 - (stk.length - ((kindsS op).size)))), (49, .int .i64 ((stk.length - (stk.length - ((kindsS op).size)) : Nat) : Int)), (50, .int .i64 ((i : Nat) : Int)), (73, .bool (!x8.t))] ⟨rfl, rfl, rfl, rfl, rfl, rfl, rfl, rfl, trivial⟩ ?_
          refine c_cond (b := !x8.t) rfl (fun h19 => ?_) (fun h19 => ?_)
          · skip
            refine c_seq ?_
            refine c_reg ?_
            refine s_val rfl rfl (r_as rfl rfl) ?_
            refine s_val rfl rfl (r_as rfl rfl) ?_
            refine s_nil ?_
            refine q_then ?_
            refine c_env [(0, .pointer (some ⟨r, 0, none⟩)), (4, .slice none 0 0), (5, .int .i64 2), (6, .string (kindsS op)), (7, .slice A1 (stk.length - ((kindsS op).size)) c2), (8, .slice (cutA A1 c2 (stk.length - ((kindsS op).size)) 3) (stk.length - (stk.length - ((kindsS op).size))) (c2 - (stk.length - ((kindsS op).size)))), (48, .slice (cutA A1 c2 (stk.length - ((kindsS op).size)) 3) (stk.length - (stk.length - ((kindsS op).size))) (c2 - (stk.length - ((kindsS op).size)))), (49, .int .i64 ((stk.length - (stk.length - ((kindsS op).size)) : Nat) : Int)), (50, .int .i64 ((i : Nat) : Int))] ⟨rfl, rfl, rfl, rfl, rfl, rfl, rfl, rfl, rfl, trivial⟩ ?_
            refine c_ret ?_
            refine q_blockR ?_
            refine q_thenR ?_
            refine q_thenR ?_
            refine q_blockR ?_
            refine q_thenR ?_
            refine q_ret2 rfl rfl rfl ?_
            have hfit : fitB c12 x8 = false := by rw [fitB_eq]; simp_all
            have e := needs_type (op := op) (stk := stk) (by omega) (hf.symm.trans (fits_no (bytes_get hb13) hx9 hfit))
            replace H := H.pick 2 rfl
            replace H := H.pick 2 rfl
            replace H := H.keep 2
            replace H := H.newnil kVal
            replace H := H.pick 2 rfl
            replace H := H.pick 2 rfl
            replace H := H.pick 2 rfl
            replace H := H.pick 2 rfl
            replace H := H.pick 2 rfl
            replace H : Hd _ _ _ [blk r (runC pv key vv fuel pos steps halted (.slice A1 stk.length c2) g tv mv) 108, osl kVal (.slice A1 stk.length c2) stk, osl kVal (.slice none 0 0) []] [] := H
            exact fin ⟨_, _, by rw [e], by rw [e]⟩ H
          · skip
            refine c_skip ?_
            refine q_blockN ?_
            refine q_then ?_
            refine c_env [(0, .pointer (some ⟨r, 0, none⟩)), (6, .string (kindsS op)), (7, .slice A1 (stk.length - ((kindsS op).size)) c2), (8, .slice (cutA A1 c2 (stk.length - ((kindsS op).size)) 3) (stk.length - (stk.length - ((kindsS op).size))) (c2 - (stk.length - ((kindsS op).size)))), (48, .slice (cutA A1 c2 (stk.length - ((kindsS op).size)) 3) (stk.length - (stk.length - ((kindsS op).size))) (c2 - (stk.length - ((kindsS op).size)))), (49, .int .i64 ((stk.length - (stk.length - ((kindsS op).size)) : Nat) : Int)), (50, .int .i64 ((i : Nat) : Int))] ⟨rfl, rfl, rfl, rfl, rfl, rfl, rfl, trivial⟩ ?_
            refine c_reg ?_
            refine s_val rfl rfl (r_add (z := ((i + 1 : Nat) : Int)) rfl rfl rfl (by rw [w64 (by omega) (by omega)]; omega)) ?_
            refine s_val rfl rfl (r_mv rfl rfl) ?_
            refine s_nil ?_
            have hfit : fitB c12 x8 = true := by rw [fitB_eq]; simp_all
            have hf2 := (fits_go (bytes_get hb13) hx9 hfit).trans hf
            replace H := H.pick 2 rfl
            replace H := H.pick 2 rfl
            replace H := H.keep 2
            exact q_round (s := i) (i + 1) ⟨rfl, rfl, rfl, rfl, rfl, rfl, rfl, trivial⟩ ⟨H, by (try dsimp only); omega, hf2⟩ (by (try dsimp only); omega)
        · skip
          refine s_no rfl rfl ?_
          refine s_no rfl rfl ?_
          refine s_no rfl rfl ?_
          refine s_val rfl rfl (r_pickF rfl rfl rfl) ?_
          refine s_val rfl rfl (r_pickF rfl rfl rfl) ?_
          refine s_nil ?_
          refine q_then ?_
          refine c_env [(0, .pointer (some ⟨r, 0, none⟩)), (6, .string (kindsS op)), (7, .slice A1 (stk.length - ((kindsS op).size)) c2), (8, .slice (cutA A1 c2 (stk.length - ((kindsS op).size)) 3) (stk.length - (stk.length - ((kindsS op).size))) (c2 - (stk.length - ((kindsS op).size)))), (48, .slice (cutA A1 c2 (stk.length - ((kindsS op).size)) 3) (stk.length - (stk.length - ((kindsS op).size))) (c2 - (stk.length - ((kindsS op).size)))), (49, .int .i64 ((stk.length - (stk.length - ((kindsS op).size)) : Nat) : Int)), (50, .int .i64 ((i : Nat) : Int)), (73, .bool false)] ⟨rfl, rfl, rfl, rfl, rfl, rfl, rfl, rfl, trivial⟩ ?_
          refine c_no rfl ?_
          refine c_skip ?_
          refine q_blockN ?_
          refine q_then ?_
          refine c_env [(0, .pointer (some ⟨r, 0, none⟩)), (6, .string (kindsS op)), (7, .slice A1 (stk.length - ((kindsS op).size)) c2), (8, .slice (cutA A1 c2 (stk.length - ((kindsS op).size)) 3) (stk.length - (stk.length - ((kindsS op).size))) (c2 - (stk.length - ((kindsS op).size)))), (48, .slice (cutA A1 c2 (stk.length - ((kindsS op).size)) 3) (stk.length - (stk.length - ((kindsS op).size))) (c2 - (stk.length - ((kindsS op).size)))), (49, .int .i64 ((stk.length - (stk.length - ((kindsS op).size)) : Nat) : Int)), (50, .int .i64 ((i : Nat) : Int))] ⟨rfl, rfl, rfl, rfl, rfl, rfl, rfl, trivial⟩ ?_
          refine c_reg ?_
          refine s_val rfl rfl (r_add (z := ((i + 1 : Nat) : Int)) rfl rfl rfl (by rw [w64 (by omega) (by omega)]; omega)) ?_
          refine s_val rfl rfl (r_mv rfl rfl) ?_
          refine s_nil ?_
          have hfit : fitB c12 x8 = true := by rw [fitB_eq]; simp_all
          have hf2 := (fits_go (bytes_get hb13) hx9 hfit).trans hf
          replace H := H.pick 2 rfl
          replace H := H.pick 2 rfl
          replace H := H.keep 2
          exact q_round (s := i) (i + 1) ⟨rfl, rfl, rfl, rfl, rfl, rfl, rfl, trivial⟩ ⟨H, by (try dsimp only); omega, hf2⟩ (by (try dsimp only); omega)
    · skip
      refine c_exit ?_
      refine q_thenE ?_
      refine q_thenE ?_
      refine q_blockE ?_
      refine q_then ?_
      refine c_env [(0, .pointer (some ⟨r, 0, none⟩)), (7, .slice A1 (stk.length - ((kindsS op).size)) c2), (8, .slice (cutA A1 c2 (stk.length - ((kindsS op).size)) 3) (stk.length - (stk.length - ((kindsS op).size))) (c2 - (stk.length - ((kindsS op).size))))] ⟨rfl, rfl, rfl, trivial⟩ ?_
      refine c_seq ?_
      refine c_reg ?_
      refine s_val rfl rfl (r_mv rfl rfl) ?_
      replace H := H.newnil kVal
      refine s_appF (xs := []) (ys := stk.drop (stk.length - ((kindsS op).size))) rfl rfl rfl sl102 zr104 rfl (by decide) rfl rfl H (by simp only [List.length_nil]; omega) (fun F hA hR => rsl_suf (own_rd F (hA _ (List.mem_of_getElem? (i := 1) rfl))) (i := stk.length - ((kindsS op).size)) (by omega)) (fun v20 w H => ?_)
      refine s_val rfl rfl (r_as rfl rfl) ?_
      refine s_nil ?_
      refine q_then ?_
      replace H : Hd _ _ _ [osl kVal v20 ([] ++ (stk.drop (stk.length - ((kindsS op).size)))), blk r (runC pv key vv fuel pos steps halted (.slice A1 stk.length c2) g tv mv) 108, osl kVal (.slice A1 stk.length c2) stk] [] := H
      refine c_env [(0, .pointer (some ⟨r, 0, none⟩)), (7, .slice A1 (stk.length - ((kindsS op).size)) c2), (11, v20)] ⟨rfl, rfl, rfl, trivial⟩ ?_
      refine c_seq ?_
      refine c_reg ?_
      refine s_val rfl rfl (r_mv rfl rfl) ?_
      refine s_val rfl rfl (r_mv rfl rfl) ?_
      refine s_val rfl rfl (r_nilP rfl rfl) ?_
      refine s_val rfl rfl (r_fa rfl fo108_7 rfl) ?_
      replace H := H.pick 1 rfl
      refine s_st rfl rfl rfl ty102 rfl rfl H rfl (Nat.le_of_ble_eq_true rfl) (fun u hu => by simp [Value.cells] at hu; subst hu; rfl) (fun w H => ?_)
      replace H : Hd _ _ _ [blk r (runC pv key vv fuel pos steps halted (.slice A1 (stk.length - ((kindsS op).size)) c2) g tv mv) 108, osl kVal v20 ([] ++ (stk.drop (stk.length - ((kindsS op).size)))), osl kVal (.slice A1 stk.length c2) stk] [] := H
      refine s_nil ?_
      refine q_then ?_
      refine c_env [(11, v20)] ⟨rfl, trivial⟩ ?_
      refine c_seq ?_
      replace H := H.pick 2 rfl
      replace H := H.preO (stk.length - (kindsS op).size) (by omega)
      replace H : Hd _ _ _ [osl kVal (.slice A1 (stk.length - ((kindsS op).size)) c2) (stk.take (stk.length - (kindsS op).size)), blk r (runC pv key vv fuel pos steps halted (.slice A1 (stk.length - ((kindsS op).size)) c2) g tv mv) 108, osl kVal v20 ([] ++ (stk.drop (stk.length - ((kindsS op).size))))] [] := H
      refine c_reg ?_
      refine s_val rfl rfl (r_mv rfl rfl) ?_
      refine s_val rfl rfl (r_as rfl rfl) ?_
      refine s_val rfl rfl (r_as rfl rfl) ?_
      refine s_nil ?_
      refine q_then ?_
      refine c_env [(4, v20), (5, .int .i64 0)] ⟨rfl, rfl, trivial⟩ ?_
      refine c_ret ?_
      refine q_ret2 rfl rfl rfl ?_
      replace H := H.pick 2 rfl
      replace H := H.pick 1 rfl
      replace H := H.pick 2 rfl
      replace H : Hd w0 F0 w [blk r (runC pv key vv fuel pos steps halted (.slice A1 (stk.length - ((kindsS op).size)) c2) g tv mv) 108, osl kVal (.slice A1 (stk.length - ((kindsS op).size)) c2) (stk.take (stk.length - (kindsS op).size)), osl kVal v20 (stk.drop (stk.length - (kindsS op).size))] [] := H
      have e := needs_fine (op := op) (stk := stk) (by omega) (hf.symm.trans (fits_end (by simp only [List.length_drop]; omega)))
      replace H := H.pick 2 rfl
      replace H := H.pick 2 rfl
      replace H := H.pick 2 rfl
      replace H : Hd _ _ _ [blk r (runC pv key vv fuel pos steps halted (.slice A1 (stk.length - ((kindsS op).size)) c2) g tv mv) 108, osl kVal (.slice A1 (stk.length - ((kindsS op).size)) c2) (stk.take (stk.length - (kindsS op).size)), osl kVal v20 (stk.drop (stk.length - (kindsS op).size))] [] := H
      exact fin ⟨_, _, by rw [e], by rw [e]⟩ H

set_option maxHeartbeats 1000000 in
theorem push_ok (r : Nat) (pv : Value) (key : ByteArray) (vv : Value) (fuel pos steps : Int) (halted : Bool) (sv : Value) (g : Nat → Val) (tv mv : Value) (stk : List Val) (vvs : Value) (vs : List Val) (hst : stk.length ≤ 16) (hvs : vs.length ≤ 16) :
    Cn Tryz.prog 104 [.pointer (some ⟨r, 0, none⟩), vvs] [blk r (runC pv key vv fuel pos steps halted sv g tv mv) 108, osl kVal sv stk] [rsl kVal vvs vs] (fun v Bs => ∃ sv2, v = .int .i64 (pushM stk vs).1 ∧ Bs = [blk r (runC pv key vv fuel pos steps halted sv2 g tv mv) 108, osl kVal sv2 (pushM stk vs).2]) := by
  intro w0 F0 H
  obtain ⟨A1, c2, rfl, hc3, hm4, hp5⟩ := H.fR 0 rfl
  refine enter (args := [.pointer (some ⟨r, 0, none⟩), .slice A1 vs.length c2]) Tryz.func104 rfl rfl (Nat.le_of_ble_eq_true rfl) ?_
  refine c_seq ?_
  refine c_reg ?_
  refine s_val rfl rfl (r_as rfl rfl) ?_
  refine s_nil ?_
  refine q_then ?_
  replace H : Hd _ _ _ [blk r (runC pv key vv fuel pos steps halted sv g tv mv) 108, osl kVal sv stk] [rsl kVal (.slice A1 vs.length c2) vs] := H
  refine c_env [(0, .pointer (some ⟨r, 0, none⟩)), (1, .slice A1 vs.length c2), (4, .int .i64 0)] ⟨rfl, rfl, rfl, trivial⟩ ?_
  refine c_seq ?_
  refine c_seq ?_
  refine c_reg ?_
  refine s_val rfl rfl (r_mv rfl rfl) ?_
  refine s_val rfl rfl (r_lenL rfl un102 rfl) ?_
  refine s_val rfl rfl (r_mv rfl rfl) ?_
  refine s_nil ?_
  refine q_then ?_
  refine c_env [(0, .pointer (some ⟨r, 0, none⟩)), (1, .slice A1 vs.length c2), (4, .int .i64 0), (7, .slice A1 vs.length c2), (8, .int .i64 ((vs.length : Nat) : Int)), (9, .int .i64 0)] ⟨rfl, rfl, rfl, rfl, rfl, rfl, trivial⟩ ?_
  refine c_block ?_
  replace H := H.pick 1 rfl
  replace H := H.pick 1 rfl
  refine c_loop (σ := Nat) (fun k => [(0, .pointer (some ⟨r, 0, none⟩)), (1, .slice A1 vs.length c2), (7, .slice A1 vs.length c2), (8, .int .i64 ((vs.length : Nat) : Int)), (9, .int .i64 ((k : Nat) : Int))]) (fun k w => (Hd w0 F0 w [blk r (runC pv key vv fuel pos steps halted sv g tv mv) 108, osl kVal sv stk] [rsl kVal (.slice A1 vs.length c2) vs]) ∧ (k ≤ vs.length) ∧ (∀ y ∈ vs.take k, bigV y = false)) (fun k => vs.length - k) 0 ⟨rfl, rfl, rfl, rfl, rfl, trivial⟩ ⟨H, Nat.zero_le _, by (try dsimp only); simp⟩ ?_
  rintro k w ⟨H, hk, hn⟩
  refine c_seq ?_
  refine c_reg ?_
  refine s_val rfl rfl (r_lt rfl rfl rfl) ?_
  refine s_nil ?_
  refine q_then ?_
  refine c_env [(0, .pointer (some ⟨r, 0, none⟩)), (1, .slice A1 vs.length c2), (7, .slice A1 vs.length c2), (8, .int .i64 ((vs.length : Nat) : Int)), (9, .int .i64 ((k : Nat) : Int)), (10, .bool (decide (((k : Nat) : Int) < ((vs.length : Nat) : Int))))] ⟨rfl, rfl, rfl, rfl, rfl, rfl, trivial⟩ ?_
  refine c_seq ?_
  refine c_dec (p := ((k : Nat) : Int) < ((vs.length : Nat) : Int)) rfl (fun h6 => ?_) (fun h6 => ?_)
  · skip
    refine c_skip ?_
    refine q_then ?_
    refine c_env [(0, .pointer (some ⟨r, 0, none⟩)), (1, .slice A1 vs.length c2), (7, .slice A1 vs.length c2), (8, .int .i64 ((vs.length : Nat) : Int)), (9, .int .i64 ((k : Nat) : Int))] ⟨rfl, rfl, rfl, rfl, rfl, trivial⟩ ?_
    refine c_seq ?_
    refine c_block ?_
    refine c_seq ?_
    refine c_reg ?_
    obtain ⟨x7, hx8⟩ : ∃ z9, vs[k]? = some z9 := ⟨_, List.getElem?_eq_getElem (show k < vs.length by omega)⟩
    have th9 := H.thR 0 rfl hx8
    refine s_val rfl rfl (r_iaE (p := oOf A1 + k * 3) rfl sl102 rfl rfl (by omega) (by omega) th9 rfl) ?_
    refine s_val rfl rfl (r_ldA (cs := [.bool x7.t, .int .i64 x7.n, .string x7.b]) rfl ty104 rfl rfl (H.elsR 0 rfl hx8 rfl)) ?_
    refine s_alloc rfl rfl rfl zr104 H (fun b10 w H => ?_)
    refine s_st rfl rfl rfl ty104 rfl rfl H rfl (Nat.le_of_ble_eq_true rfl) (fun u hu => by simp [Value.cells] at hu; rcases hu with rfl | rfl | rfl <;> rfl) (fun w H => ?_)
    replace H : Hd _ _ _ [blk b10 [.bool x7.t, .int .i64 x7.n, .string x7.b] 104, blk r (runC pv key vv fuel pos steps halted sv g tv mv) 108, osl kVal sv stk] [rsl kVal (.slice A1 vs.length c2) vs] := H
    refine s_nil ?_
    refine q_then ?_
    refine c_env [(0, .pointer (some ⟨r, 0, none⟩)), (1, .slice A1 vs.length c2), (6, .pointer (some ⟨b10, 0, none⟩)), (7, .slice A1 vs.length c2), (8, .int .i64 ((vs.length : Nat) : Int)), (9, .int .i64 ((k : Nat) : Int))] ⟨rfl, rfl, rfl, rfl, rfl, rfl, trivial⟩ ?_
    refine c_seq ?_
    refine c_reg ?_
    refine s_val rfl rfl (r_fa rfl fo104_0 rfl) ?_
    refine s_val rfl rfl (r_ld rfl ty4 rfl (H.cellI 0 rfl rfl)) ?_
    refine s_val rfl rfl (r_mv rfl rfl) ?_
    refine s_boo (d := 15) (b := x7.t) rfl (fun h11 => ?_) (fun h11 => ?_)
    · skip
      refine s_val rfl rfl (r_fa rfl fo104_2 rfl) ?_
      refine s_val rfl rfl (r_ld rfl ty9 rfl (H.cellI 0 rfl rfl)) ?_
      refine s_val rfl rfl (r_lenS rfl un9 rfl) ?_
      refine s_val rfl rfl (r_gt rfl rfl rfl) ?_
      refine s_val rfl rfl (r_pickT rfl rfl rfl) ?_
      refine s_nil ?_
      refine q_then ?_
      refine c_env [(0, .pointer (some ⟨r, 0, none⟩)), (1, .slice A1 vs.length c2), (7, .slice A1 vs.length c2), (8, .int .i64 ((vs.length : Nat) : Int)), (9, .int .i64 ((k : Nat) : Int)), (20, .bool (decide ((64 : Int) < ((x7.b.size : Nat) : Int))))] ⟨rfl, rfl, rfl, rfl, rfl, rfl, trivial⟩ ?_
      refine c_dec (p := (64 : Int) < ((x7.b.size : Nat) : Int)) rfl (fun h12 => ?_) (fun h12 => ?_)
      · skip
        refine c_seq ?_
        refine c_reg ?_
        refine s_val rfl rfl (r_as rfl rfl) ?_
        refine s_nil ?_
        refine q_then ?_
        refine c_env [(0, .pointer (some ⟨r, 0, none⟩)), (1, .slice A1 vs.length c2), (4, .int .i64 4), (7, .slice A1 vs.length c2), (8, .int .i64 ((vs.length : Nat) : Int)), (9, .int .i64 ((k : Nat) : Int))] ⟨rfl, rfl, rfl, rfl, rfl, rfl, trivial⟩ ?_
        refine c_ret ?_
        refine q_blockR ?_
        refine q_thenR ?_
        refine q_thenR ?_
        refine q_blockR ?_
        refine q_thenR ?_
        refine q_ret1 rfl rfl ?_
        have e := push_big (stk := stk) hx8 (big_yes h11 h12)
        replace H := H.pick 2 rfl
        replace H := H.pick 2 rfl
        replace H := H.keep 2
        replace H := H.pick 1 rfl
        replace H := H.pick 1 rfl
        replace H : Hd _ _ _ [blk r (runC pv key vv fuel pos steps halted sv g tv mv) 108, osl kVal sv stk] [rsl kVal (.slice A1 vs.length c2) vs] := H
        exact fin ⟨_, by rw [e], by rw [e]⟩ H
      · skip
        refine c_skip ?_
        refine q_blockN ?_
        refine q_then ?_
        refine c_env [(0, .pointer (some ⟨r, 0, none⟩)), (1, .slice A1 vs.length c2), (7, .slice A1 vs.length c2), (8, .int .i64 ((vs.length : Nat) : Int)), (9, .int .i64 ((k : Nat) : Int))] ⟨rfl, rfl, rfl, rfl, rfl, trivial⟩ ?_
        refine c_reg ?_
        refine s_val rfl rfl (r_add (z := ((k + 1 : Nat) : Int)) rfl rfl rfl (by rw [w64 (by omega) (by omega)]; omega)) ?_
        refine s_val rfl rfl (r_mv rfl rfl) ?_
        refine s_nil ?_
        replace H := H.pick 2 rfl
        replace H := H.pick 2 rfl
        replace H := H.keep 2
        exact q_round (s := k) (k + 1) ⟨rfl, rfl, rfl, rfl, rfl, trivial⟩ ⟨H, by (try dsimp only); omega, take_prop hn hx8 (big_no (.inr h12))⟩ (by (try dsimp only); omega)
    · skip
      refine s_no rfl rfl ?_
      refine s_no rfl rfl ?_
      refine s_no rfl rfl ?_
      refine s_no rfl rfl ?_
      refine s_val rfl rfl (r_pickF rfl rfl rfl) ?_
      refine s_nil ?_
      refine q_then ?_
      refine c_env [(0, .pointer (some ⟨r, 0, none⟩)), (1, .slice A1 vs.length c2), (7, .slice A1 vs.length c2), (8, .int .i64 ((vs.length : Nat) : Int)), (9, .int .i64 ((k : Nat) : Int)), (20, .bool false)] ⟨rfl, rfl, rfl, rfl, rfl, rfl, trivial⟩ ?_
      refine c_no rfl ?_
      refine c_skip ?_
      refine q_blockN ?_
      refine q_then ?_
      refine c_env [(0, .pointer (some ⟨r, 0, none⟩)), (1, .slice A1 vs.length c2), (7, .slice A1 vs.length c2), (8, .int .i64 ((vs.length : Nat) : Int)), (9, .int .i64 ((k : Nat) : Int))] ⟨rfl, rfl, rfl, rfl, rfl, trivial⟩ ?_
      refine c_reg ?_
      refine s_val rfl rfl (r_add (z := ((k + 1 : Nat) : Int)) rfl rfl rfl (by rw [w64 (by omega) (by omega)]; omega)) ?_
      refine s_val rfl rfl (r_mv rfl rfl) ?_
      refine s_nil ?_
      replace H := H.pick 2 rfl
      replace H := H.pick 2 rfl
      replace H := H.keep 2
      exact q_round (s := k) (k + 1) ⟨rfl, rfl, rfl, rfl, rfl, trivial⟩ ⟨H, by (try dsimp only); omega, take_prop hn hx8 (big_no (.inl h11))⟩ (by (try dsimp only); omega)
  · skip
    refine c_exit ?_
    refine q_thenE ?_
    refine q_thenE ?_
    refine q_blockE ?_
    refine q_then ?_
    refine c_env [(0, .pointer (some ⟨r, 0, none⟩)), (1, .slice A1 vs.length c2)] ⟨rfl, rfl, trivial⟩ ?_
    refine c_seq ?_
    refine c_seq ?_
    refine c_reg ?_
    refine s_val rfl rfl (r_mv rfl rfl) ?_
    refine s_val rfl rfl (r_nilP rfl rfl) ?_
    refine s_val rfl rfl (r_fa rfl fo108_7 rfl) ?_
    refine s_val rfl rfl (r_ld rfl ty102 rfl (H.cellI 0 rfl rfl)) ?_
    obtain ⟨A13, c14, rfl, hc15, hm16, hp17⟩ := H.fA 1 rfl
    refine s_val rfl rfl (r_lenL rfl un102 rfl) ?_
    refine s_val rfl rfl (r_mv rfl rfl) ?_
    refine s_val rfl rfl (r_lenL rfl un102 rfl) ?_
    refine s_val rfl rfl (r_add (z := ((stk.length + vs.length : Nat) : Int)) rfl rfl rfl (by rw [w64 (by omega) (by omega)]; omega)) ?_
    refine s_val rfl rfl (r_gt rfl rfl rfl) ?_
    refine s_nil ?_
    refine q_then ?_
    replace H : Hd _ _ _ [blk r (runC pv key vv fuel pos steps halted (.slice A13 stk.length c14) g tv mv) 108, osl kVal (.slice A13 stk.length c14) stk] [rsl kVal (.slice A1 vs.length c2) vs] := H
    refine c_env [(0, .pointer (some ⟨r, 0, none⟩)), (1, .slice A1 vs.length c2), (30, .bool (decide ((16 : Int) < ((stk.length + vs.length : Nat) : Int))))] ⟨rfl, rfl, rfl, trivial⟩ ?_
    refine c_dec (p := (16 : Int) < ((stk.length + vs.length : Nat) : Int)) rfl (fun h18 => ?_) (fun h18 => ?_)
    · skip
      refine c_seq ?_
      refine c_reg ?_
      refine s_val rfl rfl (r_as rfl rfl) ?_
      refine s_nil ?_
      refine q_then ?_
      refine c_env [(0, .pointer (some ⟨r, 0, none⟩)), (1, .slice A1 vs.length c2), (4, .int .i64 1)] ⟨rfl, rfl, rfl, trivial⟩ ?_
      refine c_ret ?_
      refine q_thenR ?_
      refine q_ret1 rfl rfl ?_
      have e := push_full (stk := stk) (vs := vs) (by rw [List.take_of_length_le (by omega)] at hn; exact hn) (by omega)
      replace H := H.pick 1 rfl
      replace H := H.pick 1 rfl
      replace H := H.pick 1 rfl
      replace H := H.pick 1 rfl
      replace H : Hd _ _ _ [blk r (runC pv key vv fuel pos steps halted (.slice A13 stk.length c14) g tv mv) 108, osl kVal (.slice A13 stk.length c14) stk] [rsl kVal (.slice A1 vs.length c2) vs] := H
      exact fin ⟨_, by rw [e], by rw [e]⟩ H
    · skip
      refine c_skip ?_
      refine q_then ?_
      refine c_env [(0, .pointer (some ⟨r, 0, none⟩)), (1, .slice A1 vs.length c2)] ⟨rfl, rfl, trivial⟩ ?_
      refine c_seq ?_
      refine c_reg ?_
      refine s_val rfl rfl (r_mv rfl rfl) ?_
      refine s_val rfl rfl (r_mv rfl rfl) ?_
      refine s_val rfl rfl (r_nilP rfl rfl) ?_
      refine s_val rfl rfl (r_fa rfl fo108_7 rfl) ?_
      refine s_val rfl rfl (r_ld rfl ty102 rfl (H.cellI 0 rfl rfl)) ?_
      refine s_val rfl rfl (r_mv rfl rfl) ?_
      replace H := H.pick 1 rfl
      refine s_appF (xs := stk) (ys := vs) rfl rfl rfl sl102 zr104 rfl (by decide) rfl rfl H (by omega) (fun F hA hR => hR _ (List.mem_of_getElem? (i := 0) rfl)) (fun v19 w H => ?_)
      refine s_val rfl rfl (r_nilP rfl rfl) ?_
      refine s_val rfl rfl (r_fa rfl fo108_7 rfl) ?_
      obtain ⟨A20, c21, rfl, hc22, hm23, hp24⟩ := H.fA 0 rfl
      replace H := H.pick 1 rfl
      refine s_st rfl rfl rfl ty102 rfl rfl H rfl (Nat.le_of_ble_eq_true rfl) (fun u hu => by simp [Value.cells] at hu; subst hu; rfl) (fun w H => ?_)
      replace H : Hd _ _ _ [blk r (runC pv key vv fuel pos steps halted (.slice A20 ((stk ++ vs).length) c21) g tv mv) 108, osl kVal (.slice A20 ((stk ++ vs).length) c21) (stk ++ vs)] [rsl kVal (.slice A1 vs.length c2) vs] := H
      refine s_nil ?_
      refine q_then ?_
      refine c_env [] trivial ?_
      refine c_seq ?_
      refine c_reg ?_
      refine s_val rfl rfl (r_as rfl rfl) ?_
      refine s_nil ?_
      refine q_then ?_
      refine c_env [(4, .int .i64 0)] ⟨rfl, trivial⟩ ?_
      refine c_ret ?_
      refine q_ret1 rfl rfl ?_
      have e := push_fine (stk := stk) (vs := vs) (by rw [List.take_of_length_le (by omega)] at hn; exact hn) (by omega)
      replace H := H.pick 1 rfl
      replace H := H.pick 1 rfl
      replace H := H.pick 1 rfl
      replace H := H.pick 1 rfl
      replace H : Hd _ _ _ [blk r (runC pv key vv fuel pos steps halted (.slice A20 ((stk ++ vs).length) c21) g tv mv) 108, osl kVal (.slice A20 ((stk ++ vs).length) c21) (stk ++ vs)] [rsl kVal (.slice A1 vs.length c2) vs] := H
      exact fin ⟨_, by rw [e], by rw [e]⟩ H

end Go.Proofs.YtlpgdkbokakniaaGreatDoor.X
