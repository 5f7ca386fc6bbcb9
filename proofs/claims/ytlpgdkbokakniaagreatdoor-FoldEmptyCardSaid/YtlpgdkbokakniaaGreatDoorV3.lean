/- The machine: the next value; a pair told. -/
import Derived.Test.YtlpgdkbokakniaaGreatDoorV2
set_option linter.unusedVariables false
set_option linter.unusedSimpArgs false
namespace Go.Proofs.YtlpgdkbokakniaaGreatDoor.X
open Go
set_option maxHeartbeats 1000000 in
theorem next_ok (r : Nat) (pv : Value) (key : ByteArray) (vv : Value) (fuel pos steps : Int) (halted : Bool) (sv : Value) (g : Nat → Val) (tv mv : Value) (stk : List Val) (vals : List ByteArray) (hst : stk.length ≤ 16) :
    Cn Tryz.prog 107 [.pointer (some ⟨r, 0, none⟩)] [blk r (runC pv key vv fuel pos steps halted sv g tv mv) 108, osl kVal sv stk] [rsl kStr vv vals] (fun v Bs => ∃ sv2 vv2, v = .int .i64 (nextS stk vals).1 ∧ Suf kStr vv vals vv2 (nextS stk vals).2.2 ∧ Bs = [blk r (runC pv key vv2 fuel pos steps halted sv2 g tv mv) 108, osl kVal sv2 (nextS stk vals).2.1]) := by
  intro w0 F0 H
  obtain ⟨A1, c2, rfl, hc3, hm4, hp5⟩ := H.fR 0 rfl
  refine enter (args := [.pointer (some ⟨r, 0, none⟩)]) Tryz.func107 rfl rfl (Nat.le_of_ble_eq_true rfl) ?_
  refine c_seq ?_
  refine c_reg ?_
  refine s_val rfl rfl (r_as rfl rfl) ?_
  refine s_nil ?_
  refine q_then ?_
  replace H : Hd _ _ _ [blk r (runC pv key (.slice A1 vals.length c2) fuel pos steps halted sv g tv mv) 108, osl kVal sv stk] [rsl kStr (.slice A1 vals.length c2) vals] := H
  refine c_env [(0, .pointer (some ⟨r, 0, none⟩)), (2, .int .i64 0)] ⟨rfl, rfl, trivial⟩ ?_
  refine c_seq ?_
  refine c_seq ?_
  refine c_reg ?_
  refine s_val rfl rfl (r_mv rfl rfl) ?_
  refine s_val rfl rfl (r_nilP rfl rfl) ?_
  refine s_val rfl rfl (r_fa rfl fo108_2 rfl) ?_
  refine s_val rfl rfl (r_ld rfl ty75 rfl (H.cellI 0 rfl rfl)) ?_
  refine s_val rfl rfl (r_lenL rfl un75 rfl) ?_
  refine s_val rfl rfl (r_eq rfl rfl rfl) ?_
  refine s_nil ?_
  refine q_then ?_
  refine c_env [(0, .pointer (some ⟨r, 0, none⟩)), (2, .int .i64 0), (9, .bool (decide (((vals.length : Nat) : Int) = 0)))] ⟨rfl, rfl, rfl, trivial⟩ ?_
  refine c_dec (p := ((vals.length : Nat) : Int) = 0) rfl (fun h6 => ?_) (fun h6 => ?_)
  · skip
    refine c_seq ?_
    have hv0 : vals = [] := List.eq_nil_of_length_eq_zero (by omega)
    refine c_reg ?_
    refine s_val rfl rfl (r_mv rfl rfl) ?_
    refine sc (vInt_ok 0) H l0 rfl rfl (e_fn kn105 rfl rfl) ?_
    rintro _ _ w ⟨rfl, rfl⟩ H
    refine s_bsl (parts := [(0, .tmp 11)]) (vs := [.agg #[.bool false, .int .i64 0, .string ⟨#[]⟩]]) (cs := [.bool false, .int .i64 0, .string ⟨#[]⟩]) rfl rfl rfl sl102 zr104 rfl (by decide) (by decide) rfl rfl H (fun b7 w H => ?_)
    replace H := H.pick 2 rfl
    replace H := H.pick 2 rfl
    replace H : Hd _ _ _ [blk r (runC pv key (.slice A1 vals.length c2) fuel pos steps halted sv g tv mv) 108, osl kVal sv stk, blk b7 [.bool false, .int .i64 0, .string ⟨#[]⟩] 104] [rsl kStr (.slice A1 vals.length c2) vals] := H
    refine sc (push_ok r pv key (.slice A1 vals.length c2) fuel pos steps halted sv g tv mv stk (.slice (some ⟨b7, 0, none⟩) 1 1) [(⟨false, 0, ⟨#[]⟩⟩ : Val)] (by omega) (Nat.le_of_ble_eq_true rfl)) H (lA 0 rfl (fun F h => blk_rsl h rfl (by decide) (RepsR.flat_eq.2 rfl)) l0) rfl rfl (e_fn kn104 rfl rfl) ?_
    rintro _ _ w ⟨s8, rfl, rfl⟩ H
    refine s_val rfl rfl (r_as rfl rfl) ?_
    refine s_nil ?_
    refine q_then ?_
    replace H : Hd _ _ _ [blk r (runC pv key (.slice A1 vals.length c2) fuel pos steps halted s8 g tv mv) 108, osl kVal s8 ((pushM stk [(⟨false, 0, ⟨#[]⟩⟩ : Val)]).2), blk b7 [.bool false, .int .i64 0, .string ⟨#[]⟩] 104] [rsl kStr (.slice A1 vals.length c2) vals] := H
    refine c_env [(0, .pointer (some ⟨r, 0, none⟩)), (2, .int .i64 ((pushM stk [(⟨false, 0, ⟨#[]⟩⟩ : Val)]).1))] ⟨rfl, rfl, trivial⟩ ?_
    refine c_ret ?_
    refine q_thenR ?_
    refine q_ret1 rfl rfl ?_
    replace H := H.pick 1 rfl
    replace H := H.pick 1 rfl
    replace H := H.keep 2
    have e : nextS stk vals = ((pushM stk [vint 0]).1, (pushM stk [vint 0]).2, []) := by rw [hv0]; rfl
    replace H := H.pick 1 rfl
    replace H := H.pick 1 rfl
    replace H : Hd _ _ _ [blk r (runC pv key (.slice A1 vals.length c2) fuel pos steps halted s8 g tv mv) 108, osl kVal s8 ((pushM stk [(⟨false, 0, ⟨#[]⟩⟩ : Val)]).2)] [rsl kStr (.slice A1 vals.length c2) vals] := H
    exact fin ⟨s8, .slice A1 vals.length c2, by rw [e] <;> rfl, by rw [e, hv0] <;> exact Suf.refl _ _ _, by rw [e] <;> rfl⟩ H
  · skip
    refine c_skip ?_
    refine q_then ?_
    refine c_env [(0, .pointer (some ⟨r, 0, none⟩)), (2, .int .i64 0)] ⟨rfl, rfl, trivial⟩ ?_
    refine c_seq ?_
    refine c_reg ?_
    refine s_val rfl rfl (r_mv rfl rfl) ?_
    refine s_val rfl rfl (r_nilP rfl rfl) ?_
    refine s_val rfl rfl (r_fa rfl fo108_2 rfl) ?_
    refine s_val rfl rfl (r_ld rfl ty75 rfl (H.cellI 0 rfl rfl)) ?_
    obtain ⟨x9, hx10⟩ : ∃ z9, vals[0]? = some z9 := ⟨_, List.getElem?_eq_getElem (show 0 < vals.length by omega)⟩
    have th11 := H.thR 0 rfl hx10
    refine s_val rfl rfl (r_iaE (p := oOf A1 + 0 * 1) rfl sl75 rfl rfl (by omega) (by omega) th11 (by omega)) ?_
    refine s_val rfl rfl (r_ld rfl ty9 rfl (H.elR 0 rfl hx10 (q := 0) rfl rfl)) ?_
    refine s_val rfl rfl (r_as rfl rfl) ?_
    refine s_nil ?_
    refine q_then ?_
    refine c_env [(0, .pointer (some ⟨r, 0, none⟩)), (2, .int .i64 0), (3, .string x9)] ⟨rfl, rfl, rfl, trivial⟩ ?_
    refine c_seq ?_
    refine c_reg ?_
    refine s_val rfl rfl (r_mv rfl rfl) ?_
    refine s_val rfl rfl (r_mv rfl rfl) ?_
    refine s_val rfl rfl (r_nilP rfl rfl) ?_
    refine s_val rfl rfl (r_fa rfl fo108_2 rfl) ?_
    refine s_val rfl rfl (r_ld rfl ty75 rfl (H.cellI 0 rfl rfl)) ?_
    refine s_val rfl rfl (r_cutS rfl sl75 rfl rfl (by omega) (by omega) rfl) ?_
    refine s_val rfl rfl (r_nilP rfl rfl) ?_
    refine s_val rfl rfl (r_fa rfl fo108_2 rfl) ?_
    refine s_st rfl rfl rfl ty75 rfl rfl H rfl (Nat.le_of_ble_eq_true rfl) (fun u hu => by simp [Value.cells] at hu; subst hu; rfl) (fun w H => ?_)
    replace H : Hd _ _ _ [blk r (runC pv key (.slice (cutA A1 c2 1 1) (vals.length - 1) (c2 - 1)) fuel pos steps halted sv g tv mv) 108, osl kVal sv stk] [rsl kStr (.slice A1 vals.length c2) vals] := H
    refine s_nil ?_
    refine q_then ?_
    refine c_env [(0, .pointer (some ⟨r, 0, none⟩)), (2, .int .i64 0), (3, .string x9)] ⟨rfl, rfl, rfl, trivial⟩ ?_
    refine c_seq ?_
    refine c_reg ?_
    refine s_val rfl rfl (r_mv rfl rfl) ?_
    refine s_val rfl rfl (r_mv rfl rfl) ?_
    refine sc (vBytes_ok x9) H l0 rfl rfl (e_fn kn106 rfl rfl) ?_
    rintro _ _ w ⟨rfl, rfl⟩ H
    refine sc (vInt_ok 1) H l0 rfl rfl (e_fn kn105 rfl rfl) ?_
    rintro _ _ w ⟨rfl, rfl⟩ H
    refine s_bsl (parts := [(0, .tmp 30), (1, .tmp 31)]) (vs := [.agg #[.bool true, .int .i64 0, .string x9], .agg #[.bool false, .int .i64 1, .string ⟨#[]⟩]]) (cs := [.bool true, .int .i64 0, .string x9, .bool false, .int .i64 1, .string ⟨#[]⟩]) rfl rfl rfl sl102 zr104 rfl (by decide) (by decide) rfl rfl H (fun b12 w H => ?_)
    replace H := H.pick 2 rfl
    replace H := H.pick 2 rfl
    replace H : Hd _ _ _ [blk r (runC pv key (.slice (cutA A1 c2 1 1) (vals.length - 1) (c2 - 1)) fuel pos steps halted sv g tv mv) 108, osl kVal sv stk, blk b12 [.bool true, .int .i64 0, .string x9, .bool false, .int .i64 1, .string ⟨#[]⟩] 104] [rsl kStr (.slice A1 vals.length c2) vals] := H
    refine sc (push_ok r pv key (.slice (cutA A1 c2 1 1) (vals.length - 1) (c2 - 1)) fuel pos steps halted sv g tv mv stk (.slice (some ⟨b12, 0, none⟩) 2 2) [(⟨true, 0, x9⟩ : Val), (⟨false, 1, ⟨#[]⟩⟩ : Val)] (by omega) (Nat.le_of_ble_eq_true rfl)) H (lA 0 rfl (fun F h => blk_rsl h rfl (by decide) (RepsR.flat_eq.2 rfl)) l0) rfl rfl (e_fn kn104 rfl rfl) ?_
    rintro _ _ w ⟨s13, rfl, rfl⟩ H
    refine s_val rfl rfl (r_as rfl rfl) ?_
    refine s_nil ?_
    refine q_then ?_
    replace H : Hd _ _ _ [blk r (runC pv key (.slice (cutA A1 c2 1 1) (vals.length - 1) (c2 - 1)) fuel pos steps halted s13 g tv mv) 108, osl kVal s13 ((pushM stk [(⟨true, 0, x9⟩ : Val), (⟨false, 1, ⟨#[]⟩⟩ : Val)]).2), blk b12 [.bool true, .int .i64 0, .string x9, .bool false, .int .i64 1, .string ⟨#[]⟩] 104] [rsl kStr (.slice A1 vals.length c2) vals] := H
    refine c_env [(2, .int .i64 ((pushM stk [(⟨true, 0, x9⟩ : Val), (⟨false, 1, ⟨#[]⟩⟩ : Val)]).1))] ⟨rfl, trivial⟩ ?_
    refine c_ret ?_
    refine q_ret1 rfl rfl ?_
    replace H := H.pick 1 rfl
    replace H := H.pick 1 rfl
    replace H := H.keep 2
    have e := next_cons (stk := stk) hx10
    replace H := H.pick 1 rfl
    replace H := H.pick 1 rfl
    replace H : Hd _ _ _ [blk r (runC pv key (.slice (cutA A1 c2 1 1) (vals.length - 1) (c2 - 1)) fuel pos steps halted s13 g tv mv) 108, osl kVal s13 ((pushM stk [(⟨true, 0, x9⟩ : Val), (⟨false, 1, ⟨#[]⟩⟩ : Val)]).2)] [rsl kStr (.slice A1 vals.length c2) vals] := H
    exact fin ⟨s13, .slice (cutA A1 c2 1 1) (vals.length - 1) (c2 - 1), by rw [e] <;> rfl, by rw [e]; exact fun w F h => rsl_suf h (by omega), by rw [e] <;> rfl⟩ H

set_option maxHeartbeats 1000000 in
theorem emit_ok (r : Nat) (pv : Value) (key : ByteArray) (vv : Value) (fuel pos steps : Int) (halted : Bool) (sv : Value) (g : Nat → Val) (tv mv : Value) (told : List Pair) (ek ew : ByteArray) (hto : told.length ≤ 40) :
    Cn Tryz.prog 115 [.pointer (some ⟨r, 0, none⟩), .string ek, .string ew] [blk r (runC pv key vv fuel pos steps halted sv g tv mv) 108, osl kPair tv told] [] (fun v Bs => ∃ tv2, v = .int .i64 (emitM told ek ew).1 ∧ Bs = [blk r (runC pv key vv fuel pos steps halted sv g tv2 mv) 108, osl kPair tv2 (emitM told ek ew).2]) := by
  intro w0 F0 H
  obtain ⟨A1, c2, rfl, hc3, hm4, hp5⟩ := H.fA 1 rfl
  refine enter (args := [.pointer (some ⟨r, 0, none⟩), .string ek, .string ew]) Tryz.func115 rfl rfl (Nat.le_of_ble_eq_true rfl) ?_
  refine c_seq ?_
  refine c_reg ?_
  refine s_val rfl rfl (r_as rfl rfl) ?_
  refine s_nil ?_
  refine q_then ?_
  replace H : Hd _ _ _ [blk r (runC pv key vv fuel pos steps halted sv g (.slice A1 told.length c2) mv) 108, osl kPair (.slice A1 told.length c2) told] [] := H
  refine c_env [(0, .pointer (some ⟨r, 0, none⟩)), (1, .string ek), (2, .string ew), (6, .int .i64 0)] ⟨rfl, rfl, rfl, rfl, trivial⟩ ?_
  refine c_seq ?_
  refine c_block ?_
  refine c_seq ?_
  refine c_reg ?_
  refine s_val rfl rfl (r_mv rfl rfl) ?_
  refine s_val rfl rfl (r_lenS rfl un9 rfl) ?_
  refine s_val rfl rfl (r_gt rfl rfl rfl) ?_
  refine s_val rfl rfl (r_as rfl rfl) ?_
  refine s_nil ?_
  refine q_then ?_
  refine c_env [(0, .pointer (some ⟨r, 0, none⟩)), (1, .string ek), (2, .string ew), (6, .int .i64 0), (7, .bool (decide ((16 : Int) < ((ek.size : Nat) : Int))))] ⟨rfl, rfl, rfl, rfl, rfl, trivial⟩ ?_
  refine c_dec (p := (16 : Int) < ((ek.size : Nat) : Int)) rfl (fun h6 => ?_) (fun h6 => ?_)
  · skip
    refine c_seq ?_
    refine c_reg ?_
    refine s_val rfl rfl (r_as rfl rfl) ?_
    refine s_nil ?_
    refine q_then ?_
    refine c_env [(0, .pointer (some ⟨r, 0, none⟩)), (1, .string ek), (2, .string ew), (6, .int .i64 4)] ⟨rfl, rfl, rfl, rfl, trivial⟩ ?_
    refine c_ret ?_
    refine q_blockR ?_
    refine q_thenR ?_
    refine q_ret1 rfl rfl ?_
    replace H := H.pick 1 rfl
    replace H := H.pick 1 rfl
    have e := emit_big (told := told) (k := ek) (v := ew) h6
    replace H := H.pick 1 rfl
    replace H := H.pick 1 rfl
    replace H : Hd _ _ _ [blk r (runC pv key vv fuel pos steps halted sv g (.slice A1 told.length c2) mv) 108, osl kPair (.slice A1 told.length c2) told] [] := H
    exact fin ⟨_, by rw [e] <;> rfl, by rw [e] <;> rfl⟩ H
  · skip
    refine c_seq ?_
    refine c_reg ?_
    refine s_val rfl rfl (r_mv rfl rfl) ?_
    refine s_val rfl rfl (r_nilP rfl rfl) ?_
    refine s_val rfl rfl (r_fa rfl fo108_9 rfl) ?_
    refine s_val rfl rfl (r_ld rfl ty23 rfl (H.cellI 0 rfl rfl)) ?_
    refine s_val rfl rfl (r_lenL rfl un23 rfl) ?_
    refine s_val rfl rfl (r_ge rfl rfl rfl) ?_
    refine s_val rfl rfl (r_as rfl rfl) ?_
    refine s_nil ?_
    refine q_then ?_
    refine c_env [(0, .pointer (some ⟨r, 0, none⟩)), (1, .string ek), (2, .string ew), (6, .int .i64 0), (11, .bool (decide ((40 : Int) ≤ ((told.length : Nat) : Int))))] ⟨rfl, rfl, rfl, rfl, rfl, trivial⟩ ?_
    refine c_dec (p := (40 : Int) ≤ ((told.length : Nat) : Int)) rfl (fun h7 => ?_) (fun h7 => ?_)
    · skip
      refine c_seq ?_
      refine c_reg ?_
      refine s_val rfl rfl (r_as rfl rfl) ?_
      refine s_nil ?_
      refine q_then ?_
      refine c_env [(0, .pointer (some ⟨r, 0, none⟩)), (1, .string ek), (2, .string ew), (6, .int .i64 5)] ⟨rfl, rfl, rfl, rfl, trivial⟩ ?_
      refine c_ret ?_
      refine q_blockR ?_
      refine q_thenR ?_
      refine q_ret1 rfl rfl ?_
      replace H := H.pick 1 rfl
      replace H := H.pick 1 rfl
      have e := emit_many (told := told) (k := ek) (v := ew) h6 (by omega)
      replace H := H.pick 1 rfl
      replace H := H.pick 1 rfl
      replace H : Hd _ _ _ [blk r (runC pv key vv fuel pos steps halted sv g (.slice A1 told.length c2) mv) 108, osl kPair (.slice A1 told.length c2) told] [] := H
      exact fin ⟨_, by rw [e] <;> rfl, by rw [e] <;> rfl⟩ H
    · skip
      refine c_skip ?_
      refine q_blockN ?_
      refine q_then ?_
      refine c_env [(0, .pointer (some ⟨r, 0, none⟩)), (1, .string ek), (2, .string ew), (6, .int .i64 0)] ⟨rfl, rfl, rfl, rfl, trivial⟩ ?_
      refine c_seq ?_
      refine c_reg ?_
      refine s_val rfl rfl (r_mv rfl rfl) ?_
      refine s_val rfl rfl (r_mv rfl rfl) ?_
      refine s_val rfl rfl (r_nilP rfl rfl) ?_
      refine s_val rfl rfl (r_fa rfl fo108_9 rfl) ?_
      refine s_val rfl rfl (r_ld rfl ty23 rfl (H.cellI 0 rfl rfl)) ?_
      refine s_val rfl rfl (r_mv rfl rfl) ?_
      refine s_val rfl rfl (r_mv rfl rfl) ?_
      refine s_val rfl rfl (r_bd (parts := [(0, .tmp 23), (1, .tmp 24)]) (vs := [.string ek, .string ew]) (cs := [.string ek, .string ew]) rfl bd56 rfl rfl) ?_
      refine s_bsl (parts := [(0, .tmp 25)]) (vs := [.agg #[.string ek, .string ew]]) (cs := [.string ek, .string ew]) rfl rfl rfl sl23 zr56 rfl (by decide) (by decide) rfl rfl H (fun b8 w H => ?_)
      replace H := H.pick 2 rfl
      refine s_appF (xs := told) (ys := [(⟨ek, ew⟩ : Pair)]) rfl rfl rfl sl23 zr56 rfl (by decide) rfl rfl H (by first | omega | (simp only [List.length_cons, List.length_nil]; omega)) (fun F hA hR => blk_rsl (hA _ (List.mem_of_getElem? (i := 0) rfl)) rfl (by decide) (RepsR.flat_eq.2 rfl)) (fun v9 w H => ?_)
      refine s_val rfl rfl (r_nilP rfl rfl) ?_
      refine s_val rfl rfl (r_fa rfl fo108_9 rfl) ?_
      obtain ⟨A10, c11, rfl, hc12, hm13, hp14⟩ := H.fA 0 rfl
      replace H := H.pick 2 rfl
      refine s_st rfl rfl rfl ty23 rfl rfl H rfl (Nat.le_of_ble_eq_true rfl) (fun u hu => by simp [Value.cells] at hu; subst hu; rfl) (fun w H => ?_)
      replace H : Hd _ _ _ [blk r (runC pv key vv fuel pos steps halted sv g (.slice A10 ((told ++ [(⟨ek, ew⟩ : Pair)]).length) c11) mv) 108, osl kPair (.slice A10 ((told ++ [(⟨ek, ew⟩ : Pair)]).length) c11) (told ++ [(⟨ek, ew⟩ : Pair)]), blk b8 [.string ek, .string ew] 56] [] := H
      refine s_nil ?_
      refine q_then ?_
      refine c_env [(6, .int .i64 0)] ⟨rfl, trivial⟩ ?_
      refine c_seq ?_
      refine c_reg ?_
      refine s_val rfl rfl (r_as rfl rfl) ?_
      refine s_nil ?_
      refine q_then ?_
      refine c_env [(6, .int .i64 0)] ⟨rfl, trivial⟩ ?_
      refine c_ret ?_
      refine q_ret1 rfl rfl ?_
      replace H := H.pick 1 rfl
      replace H := H.pick 1 rfl
      replace H := H.keep 2
      have e := emit_fine (told := told) (k := ek) (v := ew) h6 (by omega)
      replace H := H.pick 1 rfl
      replace H := H.pick 1 rfl
      replace H : Hd _ _ _ [blk r (runC pv key vv fuel pos steps halted sv g (.slice A10 ((told ++ [(⟨ek, ew⟩ : Pair)]).length) c11) mv) 108, osl kPair (.slice A10 ((told ++ [(⟨ek, ew⟩ : Pair)]).length) c11) (told ++ [(⟨ek, ew⟩ : Pair)])] [] := H
      exact fin ⟨_, by rw [e] <;> rfl, by rw [e] <;> rfl⟩ H

end Go.Proofs.YtlpgdkbokakniaaGreatDoor.X
