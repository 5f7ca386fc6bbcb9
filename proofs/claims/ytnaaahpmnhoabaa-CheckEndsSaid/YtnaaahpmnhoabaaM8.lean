/- Which programs may be. -/
import Derived.Test.YtnaaahpmnhoabaaM7
import Derived.Test.YtnaaahpmnhoabaaXProg
import Derived.Test.YtnaaahpmnhoabaaXC
set_option linter.unusedVariables false
set_option linter.unusedSimpArgs false
namespace Go.Proofs.Ytnaaahpmnhoabaa.X
open Go
set_option maxHeartbeats 1000000 in
theorem sameCode_ok (v1 v2 : Value) (xs ys : List Ins) :
    Cn Try.prog 97 [v1, v2] [] [rsl kIns v1 xs, rsl kIns v2 ys] (fun v Bs => v = .bool (decide (xs = ys)) ∧ Bs = []) := by
  intro w0 F0 H
  obtain ⟨A1, c2, rfl, hc3, hm4, hp5⟩ := H.fR 0 rfl
  obtain ⟨A6, c7, rfl, hc8, hm9, hp10⟩ := H.fR 1 rfl
  refine enter (args := [.slice A1 xs.length c2, .slice A6 ys.length c7]) Try.func97 rfl rfl (Nat.le_of_ble_eq_true rfl) ?_
  refine c_seq ?_
  refine c_reg ?_
  refine s_val rfl rfl (r_as rfl rfl) ?_
  refine s_nil ?_
  refine q_then ?_
  replace H : Hd _ _ _ [] [rsl kIns (.slice A1 xs.length c2) xs, rsl kIns (.slice A6 ys.length c7) ys] := H
  refine c_env [(0, .slice A1 xs.length c2), (1, .slice A6 ys.length c7), (4, .bool false)] ⟨rfl, rfl, rfl, trivial⟩ ?_
  refine c_seq ?_
  refine c_seq ?_
  refine c_reg ?_
  refine s_val rfl rfl (r_mv rfl rfl) ?_
  refine s_val rfl rfl (r_lenL rfl un79 rfl) ?_
  refine s_val rfl rfl (r_mv rfl rfl) ?_
  refine s_val rfl rfl (r_lenL rfl un79 rfl) ?_
  refine s_val rfl rfl (r_ne rfl rfl rfl) ?_
  refine s_nil ?_
  refine q_then ?_
  refine c_env [(0, .slice A1 xs.length c2), (1, .slice A6 ys.length c7), (4, .bool false), (10, .bool (decide (((xs.length : Nat) : Int) ≠ ((ys.length : Nat) : Int))))] ⟨rfl, rfl, rfl, rfl, trivial⟩ ?_
  refine c_dec (p := ((xs.length : Nat) : Int) ≠ ((ys.length : Nat) : Int)) rfl (fun h11 => ?_) (fun h11 => ?_)
  · skip
    refine c_seq ?_
    refine c_reg ?_
    refine s_val rfl rfl (r_as rfl rfl) ?_
    refine s_nil ?_
    refine q_then ?_
    refine c_env [(0, .slice A1 xs.length c2), (1, .slice A6 ys.length c7), (4, .bool false)] ⟨rfl, rfl, rfl, trivial⟩ ?_
    refine c_ret ?_
    refine q_thenR ?_
    refine q_ret1 rfl rfl ?_
    have e : ¬ xs = ys := fun e => h11 (by rw [e])
    exact fin ⟨by rw [decide_eq_false e], rfl⟩ H
  · skip
    refine c_skip ?_
    refine q_then ?_
    refine c_env [(0, .slice A1 xs.length c2), (1, .slice A6 ys.length c7), (4, .bool false)] ⟨rfl, rfl, rfl, trivial⟩ ?_
    refine c_seq ?_
    refine c_seq ?_
    refine c_reg ?_
    refine s_val rfl rfl (r_as rfl rfl) ?_
    refine s_nil ?_
    refine q_then ?_
    refine c_env [(0, .slice A1 xs.length c2), (1, .slice A6 ys.length c7), (4, .bool false), (5, .int .i64 0)] ⟨rfl, rfl, rfl, rfl, trivial⟩ ?_
    refine c_block ?_
    have hle : xs.length = ys.length := by omega
    refine c_loop (σ := Nat) (fun k => [(0, .slice A1 xs.length c2), (1, .slice A6 ys.length c7), (5, .int .i64 ((k : Nat) : Int))]) (fun k w => (Hd w0 F0 w [] [rsl kIns (.slice A1 xs.length c2) xs, rsl kIns (.slice A6 ys.length c7) ys]) ∧ (k ≤ xs.length) ∧ (xs.length = ys.length) ∧ (xs.take k = ys.take k)) (fun k => xs.length - k) 0 ⟨rfl, rfl, rfl, trivial⟩ ⟨H, by omega, hle, rfl⟩ ?_
    rintro k w ⟨H, hk, hle, ht⟩
    refine c_seq ?_
    refine c_seq ?_
    refine c_reg ?_
    refine s_val rfl rfl (r_mv rfl rfl) ?_
    refine s_val rfl rfl (r_mv rfl rfl) ?_
    refine s_val rfl rfl (r_lenL rfl un79 rfl) ?_
    refine s_val rfl rfl (r_lt rfl rfl rfl) ?_
    refine s_nil ?_
    refine q_then ?_
    refine c_env [(0, .slice A1 xs.length c2), (1, .slice A6 ys.length c7), (5, .int .i64 ((k : Nat) : Int)), (14, .bool (decide (((k : Nat) : Int) < ((xs.length : Nat) : Int))))] ⟨rfl, rfl, rfl, rfl, trivial⟩ ?_
    refine c_dec (p := ((k : Nat) : Int) < ((xs.length : Nat) : Int)) rfl (fun h12 => ?_) (fun h12 => ?_)
    · skip
      refine c_skip ?_
      refine q_then ?_
      refine c_env [(0, .slice A1 xs.length c2), (1, .slice A6 ys.length c7), (5, .int .i64 ((k : Nat) : Int))] ⟨rfl, rfl, rfl, trivial⟩ ?_
      refine c_seq ?_
      refine c_block ?_
      refine c_seq ?_
      refine c_draw mo (by kernel_rfl) H ?_
      refine u_val rfl rfl (fun w H => r_mv rfl rfl) ?_
      refine u_val rfl rfl (fun w H => r_mv rfl rfl) ?_
      obtain ⟨x13, hx14⟩ : ∃ z9, xs[k]? = some z9 := ⟨_, List.getElem?_eq_getElem (show k < xs.length by omega)⟩
      have th15 := H.thR 0 rfl hx14
      refine u_val rfl rfl (fun w H => r_iaE (p := oOf A1 + k * 3) rfl sl79 rfl rfl (by omega) (by omega) th15 rfl) ?_
      refine u_val rfl rfl (fun w H => r_ldA (cs := [.int .i64 x13.op, .int .i64 x13.a, .string x13.s]) rfl ty86 rfl rfl (H.elsR 0 rfl hx14 rfl)) ?_
      refine u_val rfl rfl (fun w H => r_mv rfl rfl) ?_
      refine u_val rfl rfl (fun w H => r_mv rfl rfl) ?_
      obtain ⟨x16, hx17⟩ : ∃ z9, ys[k]? = some z9 := ⟨_, List.getElem?_eq_getElem (show k < ys.length by omega)⟩
      have th18 := H.thR 1 rfl hx17
      refine u_val rfl rfl (fun w H => r_iaE (p := oOf A6 + k * 3) rfl sl79 rfl rfl (by omega) (by omega) th18 rfl) ?_
      refine u_val rfl rfl (fun w H => r_ldA (cs := [.int .i64 x16.op, .int .i64 x16.a, .string x16.s]) rfl ty86 rfl rfl (H.elsR 1 rfl hx17 rfl)) ?_
      refine u_val rfl rfl (fun w H => r_neIns (p := x13) (q := x16) rfl eqz86 rfl rfl) ?_
      refine u_end (fun w H => ?_)
      refine q_then ?_
      refine c_env [(0, .slice A1 xs.length c2), (1, .slice A6 ys.length c7), (5, .int .i64 ((k : Nat) : Int)), (25, .bool (decide (x13 ≠ x16)))] ⟨rfl, rfl, rfl, rfl, trivial⟩ ?_
      refine c_dec (p := x13 ≠ x16) rfl (fun h19 => ?_) (fun h19 => ?_)
      · skip
        refine c_seq ?_
        refine c_reg ?_
        refine s_val rfl rfl (r_as rfl rfl) ?_
        refine s_nil ?_
        refine q_then ?_
        refine c_env [(0, .slice A1 xs.length c2), (1, .slice A6 ys.length c7), (4, .bool false), (5, .int .i64 ((k : Nat) : Int))] ⟨rfl, rfl, rfl, rfl, trivial⟩ ?_
        refine c_ret ?_
        refine q_blockR ?_
        refine q_thenR ?_
        refine q_thenR ?_
        refine q_blockR ?_
        refine q_thenR ?_
        refine q_ret1 rfl rfl ?_
        have e : ¬ xs = ys := fun e => h19 (by rw [e, hx17] at hx14; exact (Option.some.inj hx14).symm)
        exact fin ⟨by rw [decide_eq_false e], rfl⟩ H
      · skip
        refine c_skip ?_
        refine q_blockN ?_
        refine q_then ?_
        refine c_env [(0, .slice A1 xs.length c2), (1, .slice A6 ys.length c7), (5, .int .i64 ((k : Nat) : Int))] ⟨rfl, rfl, rfl, trivial⟩ ?_
        refine c_reg ?_
        refine s_val rfl rfl (r_mv rfl rfl) ?_
        refine s_val rfl rfl (r_add (z := ((k + 1 : Nat) : Int)) rfl rfl rfl (by rw [w64 (by omega) (by omega)]; omega)) ?_
        refine s_val rfl rfl (r_as rfl rfl) ?_
        refine s_nil ?_
        have e : x13 = x16 := Classical.not_not.1 h19
        subst e
        exact q_round (s := k) (k + 1) ⟨rfl, rfl, rfl, trivial⟩ ⟨H, by omega, hle, take_more hx14 hx17 ht⟩ (by (try dsimp only); omega)
    · skip
      refine c_exit ?_
      refine q_thenE ?_
      refine q_thenE ?_
      refine q_blockE ?_
      refine q_then ?_
      refine c_env [] trivial ?_
      refine c_seq ?_
      refine c_reg ?_
      refine s_val rfl rfl (r_as rfl rfl) ?_
      refine s_nil ?_
      refine q_then ?_
      refine c_env [(4, .bool true)] ⟨rfl, trivial⟩ ?_
      refine c_ret ?_
      refine q_ret1 rfl rfl ?_
      have e : xs = ys := by rw [← take_all (xs := xs) (k := k) (by omega), ← take_all (xs := ys) (k := k) (by omega)]; exact ht
      exact fin ⟨by rw [decide_eq_true e], rfl⟩ H

set_option maxHeartbeats 1000000 in
theorem lendCode_ok (v : Value) (xs : List Ins) (hb : xs.length ≤ 1000000) :
    Cn Try.prog 67 [v] [] [rsl kIns v xs] (fun v Bs => ∃ b, v = .slice (some ⟨b, 0, none⟩) xs.length (xs.length + 3) ∧ Bs = [rowF encIns b 86 (xs ++ List.replicate 3 (⟨-7, 0, ⟨#[]⟩⟩ : Ins))]) := by
  intro w0 F0 H
  obtain ⟨A1, c2, rfl, hc3, hm4, hp5⟩ := H.fR 0 rfl
  refine enter (args := [.slice A1 xs.length c2]) Try.func67 rfl rfl (Nat.le_of_ble_eq_true rfl) ?_
  refine c_seq ?_
  refine c_reg ?_
  refine s_val rfl rfl (r_as rfl rfl) ?_
  refine s_nil ?_
  refine q_then ?_
  replace H : Hd _ _ _ [] [rsl kIns (.slice A1 xs.length c2) xs] := H
  refine c_env [(0, .slice A1 xs.length c2), (2, .slice none 0 0)] ⟨rfl, rfl, trivial⟩ ?_
  refine c_seq ?_
  refine c_reg ?_
  refine s_val rfl rfl (r_mv rfl rfl) ?_
  refine s_val rfl rfl (r_lenL rfl un79 rfl) ?_
  refine s_val rfl rfl (r_add (z := ((xs.length + 3 : Nat) : Int)) rfl rfl rfl (by rw [w64 (by omega) (by omega)]; omega)) ?_
  refine s_mkF (m := 0) (c := xs.length + 3) (a0 := (⟨0, 0, ⟨#[]⟩⟩ : Ins)) (enc := encIns) rfl rfl rfl sl79 zr86 rfl (by decide) hlIns rfl rfl (by omega) (by omega) (by omega) H (fun b6 w H => ?_)
  refine s_val rfl rfl (r_as rfl rfl) ?_
  refine s_nil ?_
  refine q_then ?_
  replace H : Hd _ _ _ [rowF encIns b6 86 (List.replicate (xs.length + 3) (⟨0, 0, ⟨#[]⟩⟩ : Ins))] [rsl kIns (.slice A1 xs.length c2) xs] := H
  refine c_env [(0, .slice A1 xs.length c2), (2, .slice none 0 0), (3, .slice (some ⟨b6, 0, none⟩) 0 (xs.length + 3))] ⟨rfl, rfl, rfl, trivial⟩ ?_
  refine c_seq ?_
  refine c_reg ?_
  refine s_val rfl rfl (r_mv rfl rfl) ?_
  refine s_val rfl rfl (r_mv rfl rfl) ?_
  refine s_appIn (ys := xs) (k := xs.length) rfl rfl rfl sl79 rfl rfl H (by simp) (by omega) (by omega) (fun F hA hR => hR _ (List.mem_of_getElem? (i := 0) rfl)) (fun w H => ?_)
  refine s_val rfl rfl (r_as rfl rfl) ?_
  refine s_nil ?_
  refine q_then ?_
  replace H : Hd _ _ _ [rowF encIns b6 86 ((List.replicate (xs.length + 3) (⟨0, 0, ⟨#[]⟩⟩ : Ins)).take 0 ++ xs ++ (List.replicate (xs.length + 3) (⟨0, 0, ⟨#[]⟩⟩ : Ins)).drop xs.length)] [rsl kIns (.slice A1 xs.length c2) xs] := H
  refine c_env [(0, .slice A1 xs.length c2), (2, .slice none 0 0), (3, .slice (some ⟨b6, 0, none⟩) xs.length (xs.length + 3))] ⟨rfl, rfl, rfl, trivial⟩ ?_
  refine c_seq ?_
  refine c_reg ?_
  refine s_val rfl rfl (r_mv rfl rfl) ?_
  refine s_val rfl rfl (r_mv rfl rfl) ?_
  refine s_val rfl rfl (r_lenL rfl un79 rfl) ?_
  refine s_val rfl rfl (r_mv rfl rfl) ?_
  refine s_val rfl rfl (r_lenL rfl un79 rfl) ?_
  refine s_val rfl rfl (r_add (z := ((xs.length + 3 : Nat) : Int)) rfl rfl rfl (by rw [w64 (by omega) (by omega)]; omega)) ?_
  refine s_val rfl rfl (r_cut2 (p := xs.length * 3) (m' := 3) (c' := 3) rfl sl79 rfl rfl rfl (by omega) (by omega) (by omega) (by (repeat' split); all_goals omega) (by omega) (by omega)) ?_
  refine s_val rfl rfl (r_as rfl rfl) ?_
  refine s_nil ?_
  refine q_then ?_
  refine c_env [(2, .slice none 0 0), (3, .slice (some ⟨b6, 0, none⟩) xs.length (xs.length + 3)), (4, .slice (some ⟨b6, xs.length * 3, none⟩) 3 3)] ⟨rfl, rfl, rfl, trivial⟩ ?_
  refine c_seq ?_
  refine c_seq ?_
  refine c_reg ?_
  refine s_val rfl rfl (r_as rfl rfl) ?_
  refine s_nil ?_
  refine q_then ?_
  refine c_env [(2, .slice none 0 0), (3, .slice (some ⟨b6, 0, none⟩) xs.length (xs.length + 3)), (4, .slice (some ⟨b6, xs.length * 3, none⟩) 3 3), (5, .int .i64 0)] ⟨rfl, rfl, rfl, rfl, trivial⟩ ?_
  refine c_block ?_
  rw [lend_start] at H
  replace H : Hd _ _ _ [rowF encIns b6 86 (xs ++ List.replicate 0 (⟨-7, 0, ⟨#[]⟩⟩ : Ins) ++ List.replicate (3 - 0) (⟨0, 0, ⟨#[]⟩⟩ : Ins))] [rsl kIns (.slice A1 xs.length c2) xs] := H
  refine c_loop (σ := Nat) (fun k => [(3, .slice (some ⟨b6, 0, none⟩) xs.length (xs.length + 3)), (4, .slice (some ⟨b6, xs.length * 3, none⟩) 3 3), (5, .int .i64 ((k : Nat) : Int))]) (fun k w => (Hd w0 F0 w [rowF encIns b6 86 (xs ++ List.replicate k (⟨-7, 0, ⟨#[]⟩⟩ : Ins) ++ List.replicate (3 - k) (⟨0, 0, ⟨#[]⟩⟩ : Ins))] [rsl kIns (.slice A1 xs.length c2) xs]) ∧ (k ≤ 3)) (fun k => 3 - k) 0 ⟨rfl, rfl, rfl, trivial⟩ ⟨H, by omega⟩ ?_
  rintro k w ⟨H, hk⟩
  refine c_seq ?_
  refine c_seq ?_
  refine c_reg ?_
  refine s_val rfl rfl (r_mv rfl rfl) ?_
  refine s_val rfl rfl (r_lt rfl rfl rfl) ?_
  refine s_nil ?_
  refine q_then ?_
  refine c_env [(3, .slice (some ⟨b6, 0, none⟩) xs.length (xs.length + 3)), (4, .slice (some ⟨b6, xs.length * 3, none⟩) 3 3), (5, .int .i64 ((k : Nat) : Int)), (21, .bool (decide (((k : Nat) : Int) < 3)))] ⟨rfl, rfl, rfl, rfl, trivial⟩ ?_
  refine c_dec (p := ((k : Nat) : Int) < 3) rfl (fun h7 => ?_) (fun h7 => ?_)
  · skip
    refine c_skip ?_
    refine q_then ?_
    refine c_env [(3, .slice (some ⟨b6, 0, none⟩) xs.length (xs.length + 3)), (4, .slice (some ⟨b6, xs.length * 3, none⟩) 3 3), (5, .int .i64 ((k : Nat) : Int))] ⟨rfl, rfl, rfl, trivial⟩ ?_
    refine c_seq ?_
    refine c_block ?_
    refine c_reg ?_
    refine s_val rfl rfl (r_mv rfl rfl) ?_
    refine s_val rfl rfl (r_mv rfl rfl) ?_
    refine s_val rfl rfl (r_bd (parts := [(0, .const (.int .i64 (-7)))]) (vs := [.int .i64 (-7)]) (cs := [.int .i64 (-7), .int .i64 0, .string ⟨#[]⟩]) rfl bd86 rfl rfl) ?_
    refine s_val rfl rfl (r_ia (p := (xs.length + k) * 3) rfl sl79 rfl rfl (by omega) (by omega) (by omega)) ?_
    refine s_stF (i := xs.length + k) (a := (⟨-7, 0, ⟨#[]⟩⟩ : Ins)) hlIns h1Ins rfl rfl rfl ty86 rfl rfl rfl H (by simp; omega) rfl (fun w H => ?_)
    refine s_nil ?_
    refine q_blockN ?_
    refine q_then ?_
    replace H : Hd _ _ _ [rowF encIns b6 86 ((xs ++ List.replicate k (⟨-7, 0, ⟨#[]⟩⟩ : Ins) ++ List.replicate (3 - k) (⟨0, 0, ⟨#[]⟩⟩ : Ins)).set (xs.length + k) (⟨-7, 0, ⟨#[]⟩⟩ : Ins))] [rsl kIns (.slice A1 xs.length c2) xs] := H
    refine c_env [(3, .slice (some ⟨b6, 0, none⟩) xs.length (xs.length + 3)), (4, .slice (some ⟨b6, xs.length * 3, none⟩) 3 3), (5, .int .i64 ((k : Nat) : Int))] ⟨rfl, rfl, rfl, trivial⟩ ?_
    refine c_reg ?_
    refine s_val rfl rfl (r_mv rfl rfl) ?_
    refine s_val rfl rfl (r_add (z := ((k + 1 : Nat) : Int)) rfl rfl rfl (by rw [w64 (by omega) (by omega)]; omega)) ?_
    refine s_val rfl rfl (r_as rfl rfl) ?_
    refine s_nil ?_
    rw [lend_set xs (⟨-7, 0, ⟨#[]⟩⟩ : Ins) (⟨0, 0, ⟨#[]⟩⟩ : Ins) k (by omega)] at H
    exact q_round (s := k) (k + 1) ⟨rfl, rfl, rfl, trivial⟩ ⟨H, by omega⟩ (by (try dsimp only); omega)
  · skip
    refine c_exit ?_
    refine q_thenE ?_
    refine q_thenE ?_
    refine q_blockE ?_
    refine q_then ?_
    refine c_env [(3, .slice (some ⟨b6, 0, none⟩) xs.length (xs.length + 3))] ⟨rfl, trivial⟩ ?_
    refine c_seq ?_
    refine c_reg ?_
    refine s_val rfl rfl (r_mv rfl rfl) ?_
    refine s_val rfl rfl (r_as rfl rfl) ?_
    refine s_nil ?_
    refine q_then ?_
    refine c_env [(2, .slice (some ⟨b6, 0, none⟩) xs.length (xs.length + 3))] ⟨rfl, trivial⟩ ?_
    refine c_ret ?_
    refine q_ret1 rfl rfl ?_
    obtain rfl : k = 3 := by omega
    replace H : Hd w0 F0 w [rowF encIns b6 86 (xs ++ List.replicate 3 (⟨-7, 0, ⟨#[]⟩⟩ : Ins))] [rsl kIns (.slice A1 xs.length c2) xs] := by have H2 := H; simp only [Nat.sub_self, List.replicate_zero, List.append_nil] at H2; exact H2
    exact fin ⟨_, rfl, rfl⟩ H

set_option maxHeartbeats 1000000 in
theorem keptCode_ok (b : Nat) (xs : List Ins) (v : Value) (ys : List Ins) (hb : xs.length ≤ 1000000) :
    Cn Try.prog 73 [.slice (some ⟨b, 0, none⟩) xs.length (xs.length + 3), v] [] [rowF encIns b 86 (xs ++ List.replicate 3 (⟨-7, 0, ⟨#[]⟩⟩ : Ins)), rsl kIns v ys] (fun v Bs => v = .bool (decide (xs = ys)) ∧ Bs = []) := by
  intro w0 F0 H
  refine enter (args := [.slice (some ⟨b, 0, none⟩) xs.length (xs.length + 3), v]) Try.func73 rfl rfl (Nat.le_of_ble_eq_true rfl) ?_
  refine c_seq ?_
  refine c_reg ?_
  refine s_val rfl rfl (r_as rfl rfl) ?_
  refine s_nil ?_
  refine q_then ?_
  refine c_env [(0, .slice (some ⟨b, 0, none⟩) xs.length (xs.length + 3)), (1, v), (4, .bool false)] ⟨rfl, rfl, rfl, trivial⟩ ?_
  refine c_seq ?_
  refine c_reg ?_
  refine s_val rfl rfl (r_mv rfl rfl) ?_
  refine s_val rfl rfl (r_mv rfl rfl) ?_
  refine s_val rfl rfl (r_lenL rfl un79 rfl) ?_
  refine s_val rfl rfl (r_mv rfl rfl) ?_
  refine s_val rfl rfl (r_lenL rfl un79 rfl) ?_
  refine s_val rfl rfl (r_add (z := ((xs.length + 3 : Nat) : Int)) rfl rfl rfl (by rw [w64 (by omega) (by omega)]; omega)) ?_
  refine s_val rfl rfl (r_cut2 (p := xs.length * 3) (m' := 3) (c' := 3) rfl sl79 rfl rfl rfl (by omega) (by omega) (by omega) (by (repeat' split); all_goals omega) (by omega) (by omega)) ?_
  refine s_val rfl rfl (r_as rfl rfl) ?_
  refine s_nil ?_
  refine q_then ?_
  refine c_env [(0, .slice (some ⟨b, 0, none⟩) xs.length (xs.length + 3)), (1, v), (4, .bool false), (5, .slice (some ⟨b, xs.length * 3, none⟩) 3 3)] ⟨rfl, rfl, rfl, rfl, trivial⟩ ?_
  refine c_seq ?_
  refine c_seq ?_
  refine c_reg ?_
  refine s_val rfl rfl (r_as rfl rfl) ?_
  refine s_nil ?_
  refine q_then ?_
  refine c_env [(0, .slice (some ⟨b, 0, none⟩) xs.length (xs.length + 3)), (1, v), (4, .bool false), (5, .slice (some ⟨b, xs.length * 3, none⟩) 3 3), (6, .int .i64 0)] ⟨rfl, rfl, rfl, rfl, rfl, trivial⟩ ?_
  refine c_block ?_
  refine c_loop (σ := Nat) (fun k => [(0, .slice (some ⟨b, 0, none⟩) xs.length (xs.length + 3)), (1, v), (5, .slice (some ⟨b, xs.length * 3, none⟩) 3 3), (6, .int .i64 ((k : Nat) : Int))]) (fun k w => (Hd w0 F0 w [] [rowF encIns b 86 (xs ++ List.replicate 3 (⟨-7, 0, ⟨#[]⟩⟩ : Ins)), rsl kIns v ys]) ∧ (k ≤ 3)) (fun k => 3 - k) 0 ⟨rfl, rfl, rfl, rfl, trivial⟩ ⟨H, by omega⟩ ?_
  rintro k w ⟨H, hk⟩
  refine c_seq ?_
  refine c_seq ?_
  refine c_reg ?_
  refine s_val rfl rfl (r_mv rfl rfl) ?_
  refine s_val rfl rfl (r_lt rfl rfl rfl) ?_
  refine s_nil ?_
  refine q_then ?_
  refine c_env [(0, .slice (some ⟨b, 0, none⟩) xs.length (xs.length + 3)), (1, v), (5, .slice (some ⟨b, xs.length * 3, none⟩) 3 3), (6, .int .i64 ((k : Nat) : Int)), (15, .bool (decide (((k : Nat) : Int) < 3)))] ⟨rfl, rfl, rfl, rfl, rfl, trivial⟩ ?_
  refine c_dec (p := ((k : Nat) : Int) < 3) rfl (fun h1 => ?_) (fun h1 => ?_)
  · skip
    refine c_skip ?_
    refine q_then ?_
    refine c_env [(0, .slice (some ⟨b, 0, none⟩) xs.length (xs.length + 3)), (1, v), (5, .slice (some ⟨b, xs.length * 3, none⟩) 3 3), (6, .int .i64 ((k : Nat) : Int))] ⟨rfl, rfl, rfl, rfl, trivial⟩ ?_
    refine c_seq ?_
    refine c_block ?_
    refine c_seq ?_
    refine c_reg ?_
    refine s_val rfl rfl (r_mv rfl rfl) ?_
    refine s_val rfl rfl (r_mv rfl rfl) ?_
    refine s_val rfl rfl (r_ia (p := (xs.length + k) * 3) rfl sl79 rfl rfl (by omega) (by omega) (by omega)) ?_
    refine s_val rfl rfl (r_ldA (cs := [.int .i64 ((⟨-7, 0, ⟨#[]⟩⟩ : Ins).op), .int .i64 ((⟨-7, 0, ⟨#[]⟩⟩ : Ins).a), .string ((⟨-7, 0, ⟨#[]⟩⟩ : Ins).s)]) rfl ty86 rfl rfl (H.rowsR 0 rfl hlIns (lend_get xs (⟨-7, 0, ⟨#[]⟩⟩ : Ins) k (by omega)) rfl)) ?_
    refine s_val rfl rfl (r_bd (parts := [(0, .const (.int .i64 (-7)))]) (vs := [.int .i64 (-7)]) (cs := [.int .i64 (-7), .int .i64 0, .string ⟨#[]⟩]) rfl bd86 rfl rfl) ?_
    refine s_val rfl rfl (r_neIns (p := (⟨(⟨-7, 0, ⟨#[]⟩⟩ : Ins).op, (⟨-7, 0, ⟨#[]⟩⟩ : Ins).a, (⟨-7, 0, ⟨#[]⟩⟩ : Ins).s⟩ : Ins)) (q := (⟨-7, 0, ⟨#[]⟩⟩ : Ins)) rfl eqz86 rfl rfl) ?_
    refine s_nil ?_
    refine q_then ?_
    refine c_env [(0, .slice (some ⟨b, 0, none⟩) xs.length (xs.length + 3)), (1, v), (5, .slice (some ⟨b, xs.length * 3, none⟩) 3 3), (6, .int .i64 ((k : Nat) : Int)), (23, .bool (decide ((⟨(⟨-7, 0, ⟨#[]⟩⟩ : Ins).op, (⟨-7, 0, ⟨#[]⟩⟩ : Ins).a, (⟨-7, 0, ⟨#[]⟩⟩ : Ins).s⟩ : Ins) ≠ (⟨-7, 0, ⟨#[]⟩⟩ : Ins))))] ⟨rfl, rfl, rfl, rfl, rfl, trivial⟩ ?_
    refine c_dec (p := (⟨(⟨-7, 0, ⟨#[]⟩⟩ : Ins).op, (⟨-7, 0, ⟨#[]⟩⟩ : Ins).a, (⟨-7, 0, ⟨#[]⟩⟩ : Ins).s⟩ : Ins) ≠ (⟨-7, 0, ⟨#[]⟩⟩ : Ins)) rfl (fun h2 => ?_) (fun h2 => ?_)
    · exact absurd rfl h2
    · skip
      refine c_skip ?_
      refine q_blockN ?_
      refine q_then ?_
      refine c_env [(0, .slice (some ⟨b, 0, none⟩) xs.length (xs.length + 3)), (1, v), (5, .slice (some ⟨b, xs.length * 3, none⟩) 3 3), (6, .int .i64 ((k : Nat) : Int))] ⟨rfl, rfl, rfl, rfl, trivial⟩ ?_
      refine c_reg ?_
      refine s_val rfl rfl (r_mv rfl rfl) ?_
      refine s_val rfl rfl (r_add (z := ((k + 1 : Nat) : Int)) rfl rfl rfl (by rw [w64 (by omega) (by omega)]; omega)) ?_
      refine s_val rfl rfl (r_as rfl rfl) ?_
      refine s_nil ?_
      exact q_round (s := k) (k + 1) ⟨rfl, rfl, rfl, rfl, trivial⟩ ⟨H, by omega⟩ (by (try dsimp only); omega)
  · skip
    refine c_exit ?_
    refine q_thenE ?_
    refine q_thenE ?_
    refine q_blockE ?_
    refine q_then ?_
    refine c_env [(0, .slice (some ⟨b, 0, none⟩) xs.length (xs.length + 3)), (1, v)] ⟨rfl, rfl, trivial⟩ ?_
    refine c_seq ?_
    refine c_reg ?_
    refine s_val rfl rfl (r_mv rfl rfl) ?_
    refine s_val rfl rfl (r_mv rfl rfl) ?_
    refine sc (sameCode_ok (.slice (some ⟨b, 0, none⟩) xs.length (xs.length + 3)) v xs ys) H (lX (fun F hA hR => (fun h => rowF_rsl (i := 0) h (by first | (simp; done) | exact List.take_of_length_le (by simp)) (by simp) (by simp) (by omega) (by simp)) (hR _ (List.mem_of_getElem? (i := 0) rfl))) (lR 1 rfl l0)) rfl rfl (e_fn kn97 rfl rfl) ?_
    rintro _ _ w ⟨rfl, rfl⟩ H
    refine s_val rfl rfl (r_as rfl rfl) ?_
    refine s_nil ?_
    refine q_then ?_
    refine c_env [(4, .bool (decide (xs = ys)))] ⟨rfl, trivial⟩ ?_
    refine c_ret ?_
    refine q_ret1 rfl rfl ?_
    exact fin ⟨rfl, rfl⟩ H

set_option maxHeartbeats 1000000 in
theorem pmay_ok (p : Ins) (n : Int) :
    Cn Try.prog 95 [.agg #[.int .i64 p.op, .int .i64 p.a, .string p.s], .int .i64 n] [] [] (fun v Bs => v = .bool (decide (goodI p n)) ∧ Bs = []) := by
  intro w0 F0 H
  refine enter (args := [.agg #[.int .i64 p.op, .int .i64 p.a, .string p.s], .int .i64 n]) Try.func95 rfl rfl (Nat.le_of_ble_eq_true rfl) ?_
  refine c_seq ?_
  refine c_reg ?_
  refine s_box rfl rfl rfl rfl H (fun b1 w H => ?_)
  refine s_val rfl rfl (r_as rfl rfl) ?_
  refine s_nil ?_
  refine q_then ?_
  replace H : Hd _ _ _ [blk b1 [.int .i64 p.op, .int .i64 p.a, .string p.s] 86] [] := H
  refine c_env [(1, .int .i64 n), (2, .pointer (some ⟨b1, 0, none⟩)), (4, .bool false)] ⟨rfl, rfl, rfl, trivial⟩ ?_
  refine c_seq ?_
  refine c_reg ?_
  refine s_val rfl rfl (r_as rfl rfl) ?_
  refine s_val rfl rfl (r_as rfl rfl) ?_
  refine s_val rfl rfl (r_as rfl rfl) ?_
  refine s_nil ?_
  refine q_then ?_
  refine c_env [(1, .int .i64 n), (2, .pointer (some ⟨b1, 0, none⟩)), (4, .bool false), (5, .int .i64 0), (6, .int .i64 0), (7, .int .i64 0)] ⟨rfl, rfl, rfl, rfl, rfl, rfl, trivial⟩ ?_
  refine c_seq ?_
  refine c_seq ?_
  refine c_reg ?_
  refine s_val rfl rfl (r_fa rfl fo86_0 rfl) ?_
  refine s_val rfl rfl (r_ld rfl ty3 rfl (H.cellI 0 rfl rfl)) ?_
  refine s_nil ?_
  refine q_then ?_
  refine c_env [(1, .int .i64 n), (2, .pointer (some ⟨b1, 0, none⟩)), (4, .bool false), (5, .int .i64 0), (6, .int .i64 0), (7, .int .i64 0), (9, .int .i64 p.op)] ⟨rfl, rfl, rfl, rfl, rfl, rfl, rfl, trivial⟩ ?_
  refine c_block ?_
  refine c_seq ?_
  refine c_reg ?_
  refine s_val rfl rfl (r_eq rfl rfl rfl) ?_
  refine s_val rfl rfl (r_as rfl rfl) ?_
  refine s_nil ?_
  refine q_then ?_
  refine c_env [(1, .int .i64 n), (2, .pointer (some ⟨b1, 0, none⟩)), (4, .bool false), (5, .int .i64 0), (6, .int .i64 0), (7, .int .i64 0), (9, .int .i64 p.op), (10, .bool (decide (p.op = 1)))] ⟨rfl, rfl, rfl, rfl, rfl, rfl, rfl, rfl, trivial⟩ ?_
  refine c_dec (p := p.op = 1) rfl (fun h2 => ?_) (fun h2 => ?_)
  · skip
    refine c_seq ?_
    refine c_reg ?_
    refine s_val rfl rfl (r_fa rfl fo86_2 rfl) ?_
    refine s_val rfl rfl (r_ld rfl ty9 rfl (H.cellI 0 rfl rfl)) ?_
    refine s_val rfl rfl (r_eqS rfl rfl rfl) ?_
    refine s_val rfl rfl (r_as rfl rfl) ?_
    refine s_nil ?_
    refine q_then ?_
    refine c_env [(2, .pointer (some ⟨b1, 0, none⟩)), (4, .bool (decide (p.s = (⟨#[]⟩ : ByteArray)))), (5, .int .i64 0), (6, .int .i64 0), (7, .int .i64 0)] ⟨rfl, rfl, rfl, rfl, rfl, trivial⟩ ?_
    refine c_ret ?_
    refine q_blockR ?_
    refine q_thenR ?_
    refine q_ret1 rfl rfl ?_
    replace H := H.keep 0
    exact fin ⟨congrArg Value.bool (decide_eq_decide.2 (by rw [nil_size]; unfold goodI; omega)), rfl⟩ H
  · skip
    refine c_seq ?_
    refine c_reg ?_
    refine s_val rfl rfl (r_eq rfl rfl rfl) ?_
    refine s_val rfl rfl (r_as rfl rfl) ?_
    refine s_nil ?_
    refine q_then ?_
    refine c_env [(1, .int .i64 n), (2, .pointer (some ⟨b1, 0, none⟩)), (4, .bool false), (5, .int .i64 0), (6, .int .i64 0), (7, .int .i64 0), (9, .int .i64 p.op), (15, .bool (decide (p.op = 2)))] ⟨rfl, rfl, rfl, rfl, rfl, rfl, rfl, rfl, trivial⟩ ?_
    refine c_dec (p := p.op = 2) rfl (fun h3 => ?_) (fun h3 => ?_)
    · skip
      refine c_reg ?_
      refine s_val rfl rfl (r_as rfl rfl) ?_
      refine s_nil ?_
      refine q_blockN ?_
      refine q_then ?_
      refine c_env [(2, .pointer (some ⟨b1, 0, none⟩)), (4, .bool false), (5, .int .i64 0), (6, .int .i64 0), (7, .int .i64 64)] ⟨rfl, rfl, rfl, rfl, rfl, trivial⟩ ?_
      refine c_seq ?_
      refine c_reg ?_
      refine s_val rfl rfl (r_fa rfl fo86_0 rfl) ?_
      refine s_val rfl rfl (r_ld rfl ty3 rfl (H.cellI 0 rfl rfl)) ?_
      refine s_val rfl rfl (r_ge rfl rfl rfl) ?_
      refine s_val rfl rfl (r_mv rfl rfl) ?_
      refine s_dec (d := 27) (p := (0 : Int) ≤ p.op) rfl (fun h4 => ?_) (fun h4 => ?_)
      · skip
        refine s_val rfl rfl (r_fa rfl fo86_0 rfl) ?_
        refine s_val rfl rfl (r_ld rfl ty3 rfl (H.cellI 0 rfl rfl)) ?_
        refine s_val rfl rfl (r_le rfl rfl rfl) ?_
        refine s_val rfl rfl (r_pickT rfl rfl rfl) ?_
        refine s_val rfl rfl (r_mv rfl rfl) ?_
        refine s_dec (d := 32) (p := p.op ≤ 23) rfl (fun h5 => ?_) (fun h5 => ?_)
        · skip
          refine s_val rfl rfl (r_fa rfl fo86_1 rfl) ?_
          refine s_val rfl rfl (r_ld rfl ty3 rfl (H.cellI 0 rfl rfl)) ?_
          refine s_val rfl rfl (r_mv rfl rfl) ?_
          refine s_val rfl rfl (r_ge rfl rfl rfl) ?_
          refine s_val rfl rfl (r_pickT rfl rfl rfl) ?_
          refine s_val rfl rfl (r_mv rfl rfl) ?_
          refine s_dec (d := 38) (p := (0 : Int) ≤ p.a) rfl (fun h6 => ?_) (fun h6 => ?_)
          · skip
            refine s_val rfl rfl (r_fa rfl fo86_1 rfl) ?_
            refine s_val rfl rfl (r_ld rfl ty3 rfl (H.cellI 0 rfl rfl)) ?_
            refine s_val rfl rfl (r_mv rfl rfl) ?_
            refine s_val rfl rfl (r_le rfl rfl rfl) ?_
            refine s_val rfl rfl (r_pickT rfl rfl rfl) ?_
            refine s_val rfl rfl (r_mv rfl rfl) ?_
            refine s_dec (d := 44) (p := p.a ≤ 0) rfl (fun h7 => ?_) (fun h7 => ?_)
            · skip
              refine s_val rfl rfl (r_fa rfl fo86_2 rfl) ?_
              refine s_val rfl rfl (r_ld rfl ty9 rfl (H.cellI 0 rfl rfl)) ?_
              refine s_val rfl rfl (r_lenS rfl un9 rfl) ?_
              refine s_val rfl rfl (r_mv rfl rfl) ?_
              refine s_val rfl rfl (r_le rfl rfl rfl) ?_
              refine s_val rfl rfl (r_pickT rfl rfl rfl) ?_
              refine s_val rfl rfl (r_as rfl rfl) ?_
              refine s_nil ?_
              refine q_then ?_
              refine c_env [(4, .bool (decide (((p.s.size : Nat) : Int) ≤ 64)))] ⟨rfl, trivial⟩ ?_
              refine c_ret ?_
              refine q_ret1 rfl rfl ?_
              replace H := H.keep 0
              exact fin ⟨congrArg Value.bool (decide_eq_decide.2 (by unfold goodI; omega)), rfl⟩ H
            · skip
              refine s_no rfl rfl ?_
              refine s_no rfl rfl ?_
              refine s_no rfl rfl ?_
              refine s_no rfl rfl ?_
              refine s_no rfl rfl ?_
              refine s_val rfl rfl (r_pickF rfl rfl rfl) ?_
              refine s_val rfl rfl (r_as rfl rfl) ?_
              refine s_nil ?_
              refine q_then ?_
              refine c_env [(4, .bool false)] ⟨rfl, trivial⟩ ?_
              refine c_ret ?_
              refine q_ret1 rfl rfl ?_
              replace H := H.keep 0
              exact fin ⟨congrArg Value.bool (decide_eq_false (by unfold goodI; omega)).symm, rfl⟩ H
          · skip
            refine s_no rfl rfl ?_
            refine s_no rfl rfl ?_
            refine s_no rfl rfl ?_
            refine s_no rfl rfl ?_
            refine s_val rfl rfl (r_pickF rfl rfl rfl) ?_
            refine s_val rfl rfl (r_mv rfl rfl) ?_
            refine s_no rfl rfl ?_
            refine s_no rfl rfl ?_
            refine s_no rfl rfl ?_
            refine s_no rfl rfl ?_
            refine s_no rfl rfl ?_
            refine s_val rfl rfl (r_pickF rfl rfl rfl) ?_
            refine s_val rfl rfl (r_as rfl rfl) ?_
            refine s_nil ?_
            refine q_then ?_
            refine c_env [(4, .bool false)] ⟨rfl, trivial⟩ ?_
            refine c_ret ?_
            refine q_ret1 rfl rfl ?_
            replace H := H.keep 0
            exact fin ⟨congrArg Value.bool (decide_eq_false (by unfold goodI; omega)).symm, rfl⟩ H
        · skip
          refine s_no rfl rfl ?_
          refine s_no rfl rfl ?_
          refine s_no rfl rfl ?_
          refine s_no rfl rfl ?_
          refine s_val rfl rfl (r_pickF rfl rfl rfl) ?_
          refine s_val rfl rfl (r_mv rfl rfl) ?_
          refine s_no rfl rfl ?_
          refine s_no rfl rfl ?_
          refine s_no rfl rfl ?_
          refine s_no rfl rfl ?_
          refine s_val rfl rfl (r_pickF rfl rfl rfl) ?_
          refine s_val rfl rfl (r_mv rfl rfl) ?_
          refine s_no rfl rfl ?_
          refine s_no rfl rfl ?_
          refine s_no rfl rfl ?_
          refine s_no rfl rfl ?_
          refine s_no rfl rfl ?_
          refine s_val rfl rfl (r_pickF rfl rfl rfl) ?_
          refine s_val rfl rfl (r_as rfl rfl) ?_
          refine s_nil ?_
          refine q_then ?_
          refine c_env [(4, .bool false)] ⟨rfl, trivial⟩ ?_
          refine c_ret ?_
          refine q_ret1 rfl rfl ?_
          replace H := H.keep 0
          exact fin ⟨congrArg Value.bool (decide_eq_false (by unfold goodI; omega)).symm, rfl⟩ H
      · skip
        refine s_no rfl rfl ?_
        refine s_no rfl rfl ?_
        refine s_no rfl rfl ?_
        refine s_val rfl rfl (r_pickF rfl rfl rfl) ?_
        refine s_val rfl rfl (r_mv rfl rfl) ?_
        refine s_no rfl rfl ?_
        refine s_no rfl rfl ?_
        refine s_no rfl rfl ?_
        refine s_no rfl rfl ?_
        refine s_val rfl rfl (r_pickF rfl rfl rfl) ?_
        refine s_val rfl rfl (r_mv rfl rfl) ?_
        refine s_no rfl rfl ?_
        refine s_no rfl rfl ?_
        refine s_no rfl rfl ?_
        refine s_no rfl rfl ?_
        refine s_val rfl rfl (r_pickF rfl rfl rfl) ?_
        refine s_val rfl rfl (r_mv rfl rfl) ?_
        refine s_no rfl rfl ?_
        refine s_no rfl rfl ?_
        refine s_no rfl rfl ?_
        refine s_no rfl rfl ?_
        refine s_no rfl rfl ?_
        refine s_val rfl rfl (r_pickF rfl rfl rfl) ?_
        refine s_val rfl rfl (r_as rfl rfl) ?_
        refine s_nil ?_
        refine q_then ?_
        refine c_env [(4, .bool false)] ⟨rfl, trivial⟩ ?_
        refine c_ret ?_
        refine q_ret1 rfl rfl ?_
        replace H := H.keep 0
        exact fin ⟨congrArg Value.bool (decide_eq_false (by unfold goodI; omega)).symm, rfl⟩ H
    · skip
      refine c_seq ?_
      refine c_seq ?_
      refine c_reg ?_
      refine s_val rfl rfl (r_eq rfl rfl rfl) ?_
      refine s_val rfl rfl (r_as rfl rfl) ?_
      refine s_nil ?_
      refine q_then ?_
      refine c_env [(1, .int .i64 n), (2, .pointer (some ⟨b1, 0, none⟩)), (4, .bool false), (5, .int .i64 0), (6, .int .i64 0), (7, .int .i64 0), (9, .int .i64 p.op), (17, .bool (decide (p.op = 19)))] ⟨rfl, rfl, rfl, rfl, rfl, rfl, rfl, rfl, trivial⟩ ?_
      refine c_dec (p := p.op = 19) rfl (fun h8 => ?_) (fun h8 => ?_)
      · skip
        refine c_skip ?_
        refine q_then ?_
        refine c_env [(1, .int .i64 n), (2, .pointer (some ⟨b1, 0, none⟩)), (4, .bool false), (5, .int .i64 0), (6, .int .i64 0), (7, .int .i64 0), (9, .int .i64 p.op), (17, .bool (decide (p.op = 19)))] ⟨rfl, rfl, rfl, rfl, rfl, rfl, rfl, rfl, trivial⟩ ?_
        refine c_dec (p := p.op = 19) rfl (fun h9 => ?_) (fun h9 => ?_)
        · skip
          refine c_reg ?_
          refine s_val rfl rfl (r_mv rfl rfl) ?_
          refine s_val rfl rfl (r_as rfl rfl) ?_
          refine s_nil ?_
          refine q_blockN ?_
          refine q_then ?_
          refine c_env [(2, .pointer (some ⟨b1, 0, none⟩)), (4, .bool false), (5, .int .i64 0), (6, .int .i64 n), (7, .int .i64 0)] ⟨rfl, rfl, rfl, rfl, rfl, trivial⟩ ?_
          refine c_seq ?_
          refine c_reg ?_
          refine s_val rfl rfl (r_fa rfl fo86_0 rfl) ?_
          refine s_val rfl rfl (r_ld rfl ty3 rfl (H.cellI 0 rfl rfl)) ?_
          refine s_val rfl rfl (r_ge rfl rfl rfl) ?_
          refine s_val rfl rfl (r_mv rfl rfl) ?_
          refine s_dec (d := 27) (p := (0 : Int) ≤ p.op) rfl (fun h10 => ?_) (fun h10 => ?_)
          · skip
            refine s_val rfl rfl (r_fa rfl fo86_0 rfl) ?_
            refine s_val rfl rfl (r_ld rfl ty3 rfl (H.cellI 0 rfl rfl)) ?_
            refine s_val rfl rfl (r_le rfl rfl rfl) ?_
            refine s_val rfl rfl (r_pickT rfl rfl rfl) ?_
            refine s_val rfl rfl (r_mv rfl rfl) ?_
            refine s_dec (d := 32) (p := p.op ≤ 23) rfl (fun h11 => ?_) (fun h11 => ?_)
            · skip
              refine s_val rfl rfl (r_fa rfl fo86_1 rfl) ?_
              refine s_val rfl rfl (r_ld rfl ty3 rfl (H.cellI 0 rfl rfl)) ?_
              refine s_val rfl rfl (r_mv rfl rfl) ?_
              refine s_val rfl rfl (r_ge rfl rfl rfl) ?_
              refine s_val rfl rfl (r_pickT rfl rfl rfl) ?_
              refine s_val rfl rfl (r_mv rfl rfl) ?_
              refine s_dec (d := 38) (p := (0 : Int) ≤ p.a) rfl (fun h12 => ?_) (fun h12 => ?_)
              · skip
                refine s_val rfl rfl (r_fa rfl fo86_1 rfl) ?_
                refine s_val rfl rfl (r_ld rfl ty3 rfl (H.cellI 0 rfl rfl)) ?_
                refine s_val rfl rfl (r_mv rfl rfl) ?_
                refine s_val rfl rfl (r_le rfl rfl rfl) ?_
                refine s_val rfl rfl (r_pickT rfl rfl rfl) ?_
                refine s_val rfl rfl (r_mv rfl rfl) ?_
                refine s_dec (d := 44) (p := p.a ≤ n) rfl (fun h13 => ?_) (fun h13 => ?_)
                · skip
                  refine s_val rfl rfl (r_fa rfl fo86_2 rfl) ?_
                  refine s_val rfl rfl (r_ld rfl ty9 rfl (H.cellI 0 rfl rfl)) ?_
                  refine s_val rfl rfl (r_lenS rfl un9 rfl) ?_
                  refine s_val rfl rfl (r_mv rfl rfl) ?_
                  refine s_val rfl rfl (r_le rfl rfl rfl) ?_
                  refine s_val rfl rfl (r_pickT rfl rfl rfl) ?_
                  refine s_val rfl rfl (r_as rfl rfl) ?_
                  refine s_nil ?_
                  refine q_then ?_
                  refine c_env [(4, .bool (decide (((p.s.size : Nat) : Int) ≤ 0)))] ⟨rfl, trivial⟩ ?_
                  refine c_ret ?_
                  refine q_ret1 rfl rfl ?_
                  replace H := H.keep 0
                  exact fin ⟨congrArg Value.bool (decide_eq_decide.2 (by unfold goodI; omega)), rfl⟩ H
                · skip
                  refine s_no rfl rfl ?_
                  refine s_no rfl rfl ?_
                  refine s_no rfl rfl ?_
                  refine s_no rfl rfl ?_
                  refine s_no rfl rfl ?_
                  refine s_val rfl rfl (r_pickF rfl rfl rfl) ?_
                  refine s_val rfl rfl (r_as rfl rfl) ?_
                  refine s_nil ?_
                  refine q_then ?_
                  refine c_env [(4, .bool false)] ⟨rfl, trivial⟩ ?_
                  refine c_ret ?_
                  refine q_ret1 rfl rfl ?_
                  replace H := H.keep 0
                  exact fin ⟨congrArg Value.bool (decide_eq_false (by unfold goodI; omega)).symm, rfl⟩ H
              · skip
                refine s_no rfl rfl ?_
                refine s_no rfl rfl ?_
                refine s_no rfl rfl ?_
                refine s_no rfl rfl ?_
                refine s_val rfl rfl (r_pickF rfl rfl rfl) ?_
                refine s_val rfl rfl (r_mv rfl rfl) ?_
                refine s_no rfl rfl ?_
                refine s_no rfl rfl ?_
                refine s_no rfl rfl ?_
                refine s_no rfl rfl ?_
                refine s_no rfl rfl ?_
                refine s_val rfl rfl (r_pickF rfl rfl rfl) ?_
                refine s_val rfl rfl (r_as rfl rfl) ?_
                refine s_nil ?_
                refine q_then ?_
                refine c_env [(4, .bool false)] ⟨rfl, trivial⟩ ?_
                refine c_ret ?_
                refine q_ret1 rfl rfl ?_
                replace H := H.keep 0
                exact fin ⟨congrArg Value.bool (decide_eq_false (by unfold goodI; omega)).symm, rfl⟩ H
            · skip
              refine s_no rfl rfl ?_
              refine s_no rfl rfl ?_
              refine s_no rfl rfl ?_
              refine s_no rfl rfl ?_
              refine s_val rfl rfl (r_pickF rfl rfl rfl) ?_
              refine s_val rfl rfl (r_mv rfl rfl) ?_
              refine s_no rfl rfl ?_
              refine s_no rfl rfl ?_
              refine s_no rfl rfl ?_
              refine s_no rfl rfl ?_
              refine s_val rfl rfl (r_pickF rfl rfl rfl) ?_
              refine s_val rfl rfl (r_mv rfl rfl) ?_
              refine s_no rfl rfl ?_
              refine s_no rfl rfl ?_
              refine s_no rfl rfl ?_
              refine s_no rfl rfl ?_
              refine s_no rfl rfl ?_
              refine s_val rfl rfl (r_pickF rfl rfl rfl) ?_
              refine s_val rfl rfl (r_as rfl rfl) ?_
              refine s_nil ?_
              refine q_then ?_
              refine c_env [(4, .bool false)] ⟨rfl, trivial⟩ ?_
              refine c_ret ?_
              refine q_ret1 rfl rfl ?_
              replace H := H.keep 0
              exact fin ⟨congrArg Value.bool (decide_eq_false (by unfold goodI; omega)).symm, rfl⟩ H
          · skip
            refine s_no rfl rfl ?_
            refine s_no rfl rfl ?_
            refine s_no rfl rfl ?_
            refine s_val rfl rfl (r_pickF rfl rfl rfl) ?_
            refine s_val rfl rfl (r_mv rfl rfl) ?_
            refine s_no rfl rfl ?_
            refine s_no rfl rfl ?_
            refine s_no rfl rfl ?_
            refine s_no rfl rfl ?_
            refine s_val rfl rfl (r_pickF rfl rfl rfl) ?_
            refine s_val rfl rfl (r_mv rfl rfl) ?_
            refine s_no rfl rfl ?_
            refine s_no rfl rfl ?_
            refine s_no rfl rfl ?_
            refine s_no rfl rfl ?_
            refine s_val rfl rfl (r_pickF rfl rfl rfl) ?_
            refine s_val rfl rfl (r_mv rfl rfl) ?_
            refine s_no rfl rfl ?_
            refine s_no rfl rfl ?_
            refine s_no rfl rfl ?_
            refine s_no rfl rfl ?_
            refine s_no rfl rfl ?_
            refine s_val rfl rfl (r_pickF rfl rfl rfl) ?_
            refine s_val rfl rfl (r_as rfl rfl) ?_
            refine s_nil ?_
            refine q_then ?_
            refine c_env [(4, .bool false)] ⟨rfl, trivial⟩ ?_
            refine c_ret ?_
            refine q_ret1 rfl rfl ?_
            replace H := H.keep 0
            exact fin ⟨congrArg Value.bool (decide_eq_false (by unfold goodI; omega)).symm, rfl⟩ H
        · skip
          refine c_seq ?_
          refine c_seq ?_
          refine c_reg ?_
          refine s_val rfl rfl (r_eq rfl rfl rfl) ?_
          refine s_val rfl rfl (r_as rfl rfl) ?_
          refine s_nil ?_
          refine q_then ?_
          refine c_env [(2, .pointer (some ⟨b1, 0, none⟩)), (4, .bool false), (5, .int .i64 0), (6, .int .i64 0), (7, .int .i64 0), (9, .int .i64 p.op), (21, .bool (decide (p.op = 21)))] ⟨rfl, rfl, rfl, rfl, rfl, rfl, rfl, trivial⟩ ?_
          refine c_dec (p := p.op = 21) rfl (fun h14 => ?_) (fun h14 => ?_)
          · skip
            refine c_skip ?_
            refine q_then ?_
            refine c_env [(2, .pointer (some ⟨b1, 0, none⟩)), (4, .bool false), (5, .int .i64 0), (6, .int .i64 0), (7, .int .i64 0), (21, .bool (decide (p.op = 21)))] ⟨rfl, rfl, rfl, rfl, rfl, rfl, trivial⟩ ?_
            refine c_dec (p := p.op = 21) rfl (fun h15 => ?_) (fun h15 => ?_)
            · skip
              refine c_reg ?_
              refine s_val rfl rfl (r_as rfl rfl) ?_
              refine s_nil ?_
              refine q_blockN ?_
              refine q_then ?_
              refine c_env [(2, .pointer (some ⟨b1, 0, none⟩)), (4, .bool false), (5, .int .i64 0), (6, .int .i64 7), (7, .int .i64 0)] ⟨rfl, rfl, rfl, rfl, rfl, trivial⟩ ?_
              refine c_seq ?_
              refine c_reg ?_
              refine s_val rfl rfl (r_fa rfl fo86_0 rfl) ?_
              refine s_val rfl rfl (r_ld rfl ty3 rfl (H.cellI 0 rfl rfl)) ?_
              refine s_val rfl rfl (r_ge rfl rfl rfl) ?_
              refine s_val rfl rfl (r_mv rfl rfl) ?_
              refine s_dec (d := 27) (p := (0 : Int) ≤ p.op) rfl (fun h16 => ?_) (fun h16 => ?_)
              · skip
                refine s_val rfl rfl (r_fa rfl fo86_0 rfl) ?_
                refine s_val rfl rfl (r_ld rfl ty3 rfl (H.cellI 0 rfl rfl)) ?_
                refine s_val rfl rfl (r_le rfl rfl rfl) ?_
                refine s_val rfl rfl (r_pickT rfl rfl rfl) ?_
                refine s_val rfl rfl (r_mv rfl rfl) ?_
                refine s_dec (d := 32) (p := p.op ≤ 23) rfl (fun h17 => ?_) (fun h17 => ?_)
                · skip
                  refine s_val rfl rfl (r_fa rfl fo86_1 rfl) ?_
                  refine s_val rfl rfl (r_ld rfl ty3 rfl (H.cellI 0 rfl rfl)) ?_
                  refine s_val rfl rfl (r_mv rfl rfl) ?_
                  refine s_val rfl rfl (r_ge rfl rfl rfl) ?_
                  refine s_val rfl rfl (r_pickT rfl rfl rfl) ?_
                  refine s_val rfl rfl (r_mv rfl rfl) ?_
                  refine s_dec (d := 38) (p := (0 : Int) ≤ p.a) rfl (fun h18 => ?_) (fun h18 => ?_)
                  · skip
                    refine s_val rfl rfl (r_fa rfl fo86_1 rfl) ?_
                    refine s_val rfl rfl (r_ld rfl ty3 rfl (H.cellI 0 rfl rfl)) ?_
                    refine s_val rfl rfl (r_mv rfl rfl) ?_
                    refine s_val rfl rfl (r_le rfl rfl rfl) ?_
                    refine s_val rfl rfl (r_pickT rfl rfl rfl) ?_
                    refine s_val rfl rfl (r_mv rfl rfl) ?_
                    refine s_dec (d := 44) (p := p.a ≤ 7) rfl (fun h19 => ?_) (fun h19 => ?_)
                    · skip
                      refine s_val rfl rfl (r_fa rfl fo86_2 rfl) ?_
                      refine s_val rfl rfl (r_ld rfl ty9 rfl (H.cellI 0 rfl rfl)) ?_
                      refine s_val rfl rfl (r_lenS rfl un9 rfl) ?_
                      refine s_val rfl rfl (r_mv rfl rfl) ?_
                      refine s_val rfl rfl (r_le rfl rfl rfl) ?_
                      refine s_val rfl rfl (r_pickT rfl rfl rfl) ?_
                      refine s_val rfl rfl (r_as rfl rfl) ?_
                      refine s_nil ?_
                      refine q_then ?_
                      refine c_env [(4, .bool (decide (((p.s.size : Nat) : Int) ≤ 0)))] ⟨rfl, trivial⟩ ?_
                      refine c_ret ?_
                      refine q_ret1 rfl rfl ?_
                      replace H := H.keep 0
                      exact fin ⟨congrArg Value.bool (decide_eq_decide.2 (by unfold goodI; omega)), rfl⟩ H
                    · skip
                      refine s_no rfl rfl ?_
                      refine s_no rfl rfl ?_
                      refine s_no rfl rfl ?_
                      refine s_no rfl rfl ?_
                      refine s_no rfl rfl ?_
                      refine s_val rfl rfl (r_pickF rfl rfl rfl) ?_
                      refine s_val rfl rfl (r_as rfl rfl) ?_
                      refine s_nil ?_
                      refine q_then ?_
                      refine c_env [(4, .bool false)] ⟨rfl, trivial⟩ ?_
                      refine c_ret ?_
                      refine q_ret1 rfl rfl ?_
                      replace H := H.keep 0
                      exact fin ⟨congrArg Value.bool (decide_eq_false (by unfold goodI; omega)).symm, rfl⟩ H
                  · skip
                    refine s_no rfl rfl ?_
                    refine s_no rfl rfl ?_
                    refine s_no rfl rfl ?_
                    refine s_no rfl rfl ?_
                    refine s_val rfl rfl (r_pickF rfl rfl rfl) ?_
                    refine s_val rfl rfl (r_mv rfl rfl) ?_
                    refine s_no rfl rfl ?_
                    refine s_no rfl rfl ?_
                    refine s_no rfl rfl ?_
                    refine s_no rfl rfl ?_
                    refine s_no rfl rfl ?_
                    refine s_val rfl rfl (r_pickF rfl rfl rfl) ?_
                    refine s_val rfl rfl (r_as rfl rfl) ?_
                    refine s_nil ?_
                    refine q_then ?_
                    refine c_env [(4, .bool false)] ⟨rfl, trivial⟩ ?_
                    refine c_ret ?_
                    refine q_ret1 rfl rfl ?_
                    replace H := H.keep 0
                    exact fin ⟨congrArg Value.bool (decide_eq_false (by unfold goodI; omega)).symm, rfl⟩ H
                · skip
                  refine s_no rfl rfl ?_
                  refine s_no rfl rfl ?_
                  refine s_no rfl rfl ?_
                  refine s_no rfl rfl ?_
                  refine s_val rfl rfl (r_pickF rfl rfl rfl) ?_
                  refine s_val rfl rfl (r_mv rfl rfl) ?_
                  refine s_no rfl rfl ?_
                  refine s_no rfl rfl ?_
                  refine s_no rfl rfl ?_
                  refine s_no rfl rfl ?_
                  refine s_val rfl rfl (r_pickF rfl rfl rfl) ?_
                  refine s_val rfl rfl (r_mv rfl rfl) ?_
                  refine s_no rfl rfl ?_
                  refine s_no rfl rfl ?_
                  refine s_no rfl rfl ?_
                  refine s_no rfl rfl ?_
                  refine s_no rfl rfl ?_
                  refine s_val rfl rfl (r_pickF rfl rfl rfl) ?_
                  refine s_val rfl rfl (r_as rfl rfl) ?_
                  refine s_nil ?_
                  refine q_then ?_
                  refine c_env [(4, .bool false)] ⟨rfl, trivial⟩ ?_
                  refine c_ret ?_
                  refine q_ret1 rfl rfl ?_
                  replace H := H.keep 0
                  exact fin ⟨congrArg Value.bool (decide_eq_false (by unfold goodI; omega)).symm, rfl⟩ H
              · skip
                refine s_no rfl rfl ?_
                refine s_no rfl rfl ?_
                refine s_no rfl rfl ?_
                refine s_val rfl rfl (r_pickF rfl rfl rfl) ?_
                refine s_val rfl rfl (r_mv rfl rfl) ?_
                refine s_no rfl rfl ?_
                refine s_no rfl rfl ?_
                refine s_no rfl rfl ?_
                refine s_no rfl rfl ?_
                refine s_val rfl rfl (r_pickF rfl rfl rfl) ?_
                refine s_val rfl rfl (r_mv rfl rfl) ?_
                refine s_no rfl rfl ?_
                refine s_no rfl rfl ?_
                refine s_no rfl rfl ?_
                refine s_no rfl rfl ?_
                refine s_val rfl rfl (r_pickF rfl rfl rfl) ?_
                refine s_val rfl rfl (r_mv rfl rfl) ?_
                refine s_no rfl rfl ?_
                refine s_no rfl rfl ?_
                refine s_no rfl rfl ?_
                refine s_no rfl rfl ?_
                refine s_no rfl rfl ?_
                refine s_val rfl rfl (r_pickF rfl rfl rfl) ?_
                refine s_val rfl rfl (r_as rfl rfl) ?_
                refine s_nil ?_
                refine q_then ?_
                refine c_env [(4, .bool false)] ⟨rfl, trivial⟩ ?_
                refine c_ret ?_
                refine q_ret1 rfl rfl ?_
                replace H := H.keep 0
                exact fin ⟨congrArg Value.bool (decide_eq_false (by unfold goodI; omega)).symm, rfl⟩ H
            · skip
              refine c_skip ?_
              refine q_blockN ?_
              refine q_then ?_
              refine c_env [(2, .pointer (some ⟨b1, 0, none⟩)), (4, .bool false), (5, .int .i64 0), (6, .int .i64 0), (7, .int .i64 0)] ⟨rfl, rfl, rfl, rfl, rfl, trivial⟩ ?_
              refine c_seq ?_
              refine c_reg ?_
              refine s_val rfl rfl (r_fa rfl fo86_0 rfl) ?_
              refine s_val rfl rfl (r_ld rfl ty3 rfl (H.cellI 0 rfl rfl)) ?_
              refine s_val rfl rfl (r_ge rfl rfl rfl) ?_
              refine s_val rfl rfl (r_mv rfl rfl) ?_
              refine s_dec (d := 27) (p := (0 : Int) ≤ p.op) rfl (fun h20 => ?_) (fun h20 => ?_)
              · skip
                refine s_val rfl rfl (r_fa rfl fo86_0 rfl) ?_
                refine s_val rfl rfl (r_ld rfl ty3 rfl (H.cellI 0 rfl rfl)) ?_
                refine s_val rfl rfl (r_le rfl rfl rfl) ?_
                refine s_val rfl rfl (r_pickT rfl rfl rfl) ?_
                refine s_val rfl rfl (r_mv rfl rfl) ?_
                refine s_dec (d := 32) (p := p.op ≤ 23) rfl (fun h21 => ?_) (fun h21 => ?_)
                · skip
                  refine s_val rfl rfl (r_fa rfl fo86_1 rfl) ?_
                  refine s_val rfl rfl (r_ld rfl ty3 rfl (H.cellI 0 rfl rfl)) ?_
                  refine s_val rfl rfl (r_mv rfl rfl) ?_
                  refine s_val rfl rfl (r_ge rfl rfl rfl) ?_
                  refine s_val rfl rfl (r_pickT rfl rfl rfl) ?_
                  refine s_val rfl rfl (r_mv rfl rfl) ?_
                  refine s_dec (d := 38) (p := (0 : Int) ≤ p.a) rfl (fun h22 => ?_) (fun h22 => ?_)
                  · skip
                    refine s_val rfl rfl (r_fa rfl fo86_1 rfl) ?_
                    refine s_val rfl rfl (r_ld rfl ty3 rfl (H.cellI 0 rfl rfl)) ?_
                    refine s_val rfl rfl (r_mv rfl rfl) ?_
                    refine s_val rfl rfl (r_le rfl rfl rfl) ?_
                    refine s_val rfl rfl (r_pickT rfl rfl rfl) ?_
                    refine s_val rfl rfl (r_mv rfl rfl) ?_
                    refine s_dec (d := 44) (p := p.a ≤ 0) rfl (fun h23 => ?_) (fun h23 => ?_)
                    · skip
                      refine s_val rfl rfl (r_fa rfl fo86_2 rfl) ?_
                      refine s_val rfl rfl (r_ld rfl ty9 rfl (H.cellI 0 rfl rfl)) ?_
                      refine s_val rfl rfl (r_lenS rfl un9 rfl) ?_
                      refine s_val rfl rfl (r_mv rfl rfl) ?_
                      refine s_val rfl rfl (r_le rfl rfl rfl) ?_
                      refine s_val rfl rfl (r_pickT rfl rfl rfl) ?_
                      refine s_val rfl rfl (r_as rfl rfl) ?_
                      refine s_nil ?_
                      refine q_then ?_
                      refine c_env [(4, .bool (decide (((p.s.size : Nat) : Int) ≤ 0)))] ⟨rfl, trivial⟩ ?_
                      refine c_ret ?_
                      refine q_ret1 rfl rfl ?_
                      replace H := H.keep 0
                      exact fin ⟨congrArg Value.bool (decide_eq_decide.2 (by unfold goodI; omega)), rfl⟩ H
                    · skip
                      refine s_no rfl rfl ?_
                      refine s_no rfl rfl ?_
                      refine s_no rfl rfl ?_
                      refine s_no rfl rfl ?_
                      refine s_no rfl rfl ?_
                      refine s_val rfl rfl (r_pickF rfl rfl rfl) ?_
                      refine s_val rfl rfl (r_as rfl rfl) ?_
                      refine s_nil ?_
                      refine q_then ?_
                      refine c_env [(4, .bool false)] ⟨rfl, trivial⟩ ?_
                      refine c_ret ?_
                      refine q_ret1 rfl rfl ?_
                      replace H := H.keep 0
                      exact fin ⟨congrArg Value.bool (decide_eq_false (by unfold goodI; omega)).symm, rfl⟩ H
                  · skip
                    refine s_no rfl rfl ?_
                    refine s_no rfl rfl ?_
                    refine s_no rfl rfl ?_
                    refine s_no rfl rfl ?_
                    refine s_val rfl rfl (r_pickF rfl rfl rfl) ?_
                    refine s_val rfl rfl (r_mv rfl rfl) ?_
                    refine s_no rfl rfl ?_
                    refine s_no rfl rfl ?_
                    refine s_no rfl rfl ?_
                    refine s_no rfl rfl ?_
                    refine s_no rfl rfl ?_
                    refine s_val rfl rfl (r_pickF rfl rfl rfl) ?_
                    refine s_val rfl rfl (r_as rfl rfl) ?_
                    refine s_nil ?_
                    refine q_then ?_
                    refine c_env [(4, .bool false)] ⟨rfl, trivial⟩ ?_
                    refine c_ret ?_
                    refine q_ret1 rfl rfl ?_
                    replace H := H.keep 0
                    exact fin ⟨congrArg Value.bool (decide_eq_false (by unfold goodI; omega)).symm, rfl⟩ H
                · skip
                  refine s_no rfl rfl ?_
                  refine s_no rfl rfl ?_
                  refine s_no rfl rfl ?_
                  refine s_no rfl rfl ?_
                  refine s_val rfl rfl (r_pickF rfl rfl rfl) ?_
                  refine s_val rfl rfl (r_mv rfl rfl) ?_
                  refine s_no rfl rfl ?_
                  refine s_no rfl rfl ?_
                  refine s_no rfl rfl ?_
                  refine s_no rfl rfl ?_
                  refine s_val rfl rfl (r_pickF rfl rfl rfl) ?_
                  refine s_val rfl rfl (r_mv rfl rfl) ?_
                  refine s_no rfl rfl ?_
                  refine s_no rfl rfl ?_
                  refine s_no rfl rfl ?_
                  refine s_no rfl rfl ?_
                  refine s_no rfl rfl ?_
                  refine s_val rfl rfl (r_pickF rfl rfl rfl) ?_
                  refine s_val rfl rfl (r_as rfl rfl) ?_
                  refine s_nil ?_
                  refine q_then ?_
                  refine c_env [(4, .bool false)] ⟨rfl, trivial⟩ ?_
                  refine c_ret ?_
                  refine q_ret1 rfl rfl ?_
                  replace H := H.keep 0
                  exact fin ⟨congrArg Value.bool (decide_eq_false (by unfold goodI; omega)).symm, rfl⟩ H
              · skip
                refine s_no rfl rfl ?_
                refine s_no rfl rfl ?_
                refine s_no rfl rfl ?_
                refine s_val rfl rfl (r_pickF rfl rfl rfl) ?_
                refine s_val rfl rfl (r_mv rfl rfl) ?_
                refine s_no rfl rfl ?_
                refine s_no rfl rfl ?_
                refine s_no rfl rfl ?_
                refine s_no rfl rfl ?_
                refine s_val rfl rfl (r_pickF rfl rfl rfl) ?_
                refine s_val rfl rfl (r_mv rfl rfl) ?_
                refine s_no rfl rfl ?_
                refine s_no rfl rfl ?_
                refine s_no rfl rfl ?_
                refine s_no rfl rfl ?_
                refine s_val rfl rfl (r_pickF rfl rfl rfl) ?_
                refine s_val rfl rfl (r_mv rfl rfl) ?_
                refine s_no rfl rfl ?_
                refine s_no rfl rfl ?_
                refine s_no rfl rfl ?_
                refine s_no rfl rfl ?_
                refine s_no rfl rfl ?_
                refine s_val rfl rfl (r_pickF rfl rfl rfl) ?_
                refine s_val rfl rfl (r_as rfl rfl) ?_
                refine s_nil ?_
                refine q_then ?_
                refine c_env [(4, .bool false)] ⟨rfl, trivial⟩ ?_
                refine c_ret ?_
                refine q_ret1 rfl rfl ?_
                replace H := H.keep 0
                exact fin ⟨congrArg Value.bool (decide_eq_false (by unfold goodI; omega)).symm, rfl⟩ H
          · skip
            refine c_reg ?_
            refine s_val rfl rfl (r_eq rfl rfl rfl) ?_
            refine s_val rfl rfl (r_as rfl rfl) ?_
            refine s_nil ?_
            refine q_then ?_
            refine c_env [(2, .pointer (some ⟨b1, 0, none⟩)), (4, .bool false), (5, .int .i64 0), (6, .int .i64 0), (7, .int .i64 0), (21, .bool (decide (p.op = 22)))] ⟨rfl, rfl, rfl, rfl, rfl, rfl, trivial⟩ ?_
            refine c_dec (p := p.op = 22) rfl (fun h24 => ?_) (fun h24 => ?_)
            · skip
              refine c_reg ?_
              refine s_val rfl rfl (r_as rfl rfl) ?_
              refine s_nil ?_
              refine q_blockN ?_
              refine q_then ?_
              refine c_env [(2, .pointer (some ⟨b1, 0, none⟩)), (4, .bool false), (5, .int .i64 0), (6, .int .i64 7), (7, .int .i64 0)] ⟨rfl, rfl, rfl, rfl, rfl, trivial⟩ ?_
              refine c_seq ?_
              refine c_reg ?_
              refine s_val rfl rfl (r_fa rfl fo86_0 rfl) ?_
              refine s_val rfl rfl (r_ld rfl ty3 rfl (H.cellI 0 rfl rfl)) ?_
              refine s_val rfl rfl (r_ge rfl rfl rfl) ?_
              refine s_val rfl rfl (r_mv rfl rfl) ?_
              refine s_dec (d := 27) (p := (0 : Int) ≤ p.op) rfl (fun h25 => ?_) (fun h25 => ?_)
              · skip
                refine s_val rfl rfl (r_fa rfl fo86_0 rfl) ?_
                refine s_val rfl rfl (r_ld rfl ty3 rfl (H.cellI 0 rfl rfl)) ?_
                refine s_val rfl rfl (r_le rfl rfl rfl) ?_
                refine s_val rfl rfl (r_pickT rfl rfl rfl) ?_
                refine s_val rfl rfl (r_mv rfl rfl) ?_
                refine s_dec (d := 32) (p := p.op ≤ 23) rfl (fun h26 => ?_) (fun h26 => ?_)
                · skip
                  refine s_val rfl rfl (r_fa rfl fo86_1 rfl) ?_
                  refine s_val rfl rfl (r_ld rfl ty3 rfl (H.cellI 0 rfl rfl)) ?_
                  refine s_val rfl rfl (r_mv rfl rfl) ?_
                  refine s_val rfl rfl (r_ge rfl rfl rfl) ?_
                  refine s_val rfl rfl (r_pickT rfl rfl rfl) ?_
                  refine s_val rfl rfl (r_mv rfl rfl) ?_
                  refine s_dec (d := 38) (p := (0 : Int) ≤ p.a) rfl (fun h27 => ?_) (fun h27 => ?_)
                  · skip
                    refine s_val rfl rfl (r_fa rfl fo86_1 rfl) ?_
                    refine s_val rfl rfl (r_ld rfl ty3 rfl (H.cellI 0 rfl rfl)) ?_
                    refine s_val rfl rfl (r_mv rfl rfl) ?_
                    refine s_val rfl rfl (r_le rfl rfl rfl) ?_
                    refine s_val rfl rfl (r_pickT rfl rfl rfl) ?_
                    refine s_val rfl rfl (r_mv rfl rfl) ?_
                    refine s_dec (d := 44) (p := p.a ≤ 7) rfl (fun h28 => ?_) (fun h28 => ?_)
                    · skip
                      refine s_val rfl rfl (r_fa rfl fo86_2 rfl) ?_
                      refine s_val rfl rfl (r_ld rfl ty9 rfl (H.cellI 0 rfl rfl)) ?_
                      refine s_val rfl rfl (r_lenS rfl un9 rfl) ?_
                      refine s_val rfl rfl (r_mv rfl rfl) ?_
                      refine s_val rfl rfl (r_le rfl rfl rfl) ?_
                      refine s_val rfl rfl (r_pickT rfl rfl rfl) ?_
                      refine s_val rfl rfl (r_as rfl rfl) ?_
                      refine s_nil ?_
                      refine q_then ?_
                      refine c_env [(4, .bool (decide (((p.s.size : Nat) : Int) ≤ 0)))] ⟨rfl, trivial⟩ ?_
                      refine c_ret ?_
                      refine q_ret1 rfl rfl ?_
                      replace H := H.keep 0
                      exact fin ⟨congrArg Value.bool (decide_eq_decide.2 (by unfold goodI; omega)), rfl⟩ H
                    · skip
                      refine s_no rfl rfl ?_
                      refine s_no rfl rfl ?_
                      refine s_no rfl rfl ?_
                      refine s_no rfl rfl ?_
                      refine s_no rfl rfl ?_
                      refine s_val rfl rfl (r_pickF rfl rfl rfl) ?_
                      refine s_val rfl rfl (r_as rfl rfl) ?_
                      refine s_nil ?_
                      refine q_then ?_
                      refine c_env [(4, .bool false)] ⟨rfl, trivial⟩ ?_
                      refine c_ret ?_
                      refine q_ret1 rfl rfl ?_
                      replace H := H.keep 0
                      exact fin ⟨congrArg Value.bool (decide_eq_false (by unfold goodI; omega)).symm, rfl⟩ H
                  · skip
                    refine s_no rfl rfl ?_
                    refine s_no rfl rfl ?_
                    refine s_no rfl rfl ?_
                    refine s_no rfl rfl ?_
                    refine s_val rfl rfl (r_pickF rfl rfl rfl) ?_
                    refine s_val rfl rfl (r_mv rfl rfl) ?_
                    refine s_no rfl rfl ?_
                    refine s_no rfl rfl ?_
                    refine s_no rfl rfl ?_
                    refine s_no rfl rfl ?_
                    refine s_no rfl rfl ?_
                    refine s_val rfl rfl (r_pickF rfl rfl rfl) ?_
                    refine s_val rfl rfl (r_as rfl rfl) ?_
                    refine s_nil ?_
                    refine q_then ?_
                    refine c_env [(4, .bool false)] ⟨rfl, trivial⟩ ?_
                    refine c_ret ?_
                    refine q_ret1 rfl rfl ?_
                    replace H := H.keep 0
                    exact fin ⟨congrArg Value.bool (decide_eq_false (by unfold goodI; omega)).symm, rfl⟩ H
                · skip
                  refine s_no rfl rfl ?_
                  refine s_no rfl rfl ?_
                  refine s_no rfl rfl ?_
                  refine s_no rfl rfl ?_
                  refine s_val rfl rfl (r_pickF rfl rfl rfl) ?_
                  refine s_val rfl rfl (r_mv rfl rfl) ?_
                  refine s_no rfl rfl ?_
                  refine s_no rfl rfl ?_
                  refine s_no rfl rfl ?_
                  refine s_no rfl rfl ?_
                  refine s_val rfl rfl (r_pickF rfl rfl rfl) ?_
                  refine s_val rfl rfl (r_mv rfl rfl) ?_
                  refine s_no rfl rfl ?_
                  refine s_no rfl rfl ?_
                  refine s_no rfl rfl ?_
                  refine s_no rfl rfl ?_
                  refine s_no rfl rfl ?_
                  refine s_val rfl rfl (r_pickF rfl rfl rfl) ?_
                  refine s_val rfl rfl (r_as rfl rfl) ?_
                  refine s_nil ?_
                  refine q_then ?_
                  refine c_env [(4, .bool false)] ⟨rfl, trivial⟩ ?_
                  refine c_ret ?_
                  refine q_ret1 rfl rfl ?_
                  replace H := H.keep 0
                  exact fin ⟨congrArg Value.bool (decide_eq_false (by unfold goodI; omega)).symm, rfl⟩ H
              · skip
                refine s_no rfl rfl ?_
                refine s_no rfl rfl ?_
                refine s_no rfl rfl ?_
                refine s_val rfl rfl (r_pickF rfl rfl rfl) ?_
                refine s_val rfl rfl (r_mv rfl rfl) ?_
                refine s_no rfl rfl ?_
                refine s_no rfl rfl ?_
                refine s_no rfl rfl ?_
                refine s_no rfl rfl ?_
                refine s_val rfl rfl (r_pickF rfl rfl rfl) ?_
                refine s_val rfl rfl (r_mv rfl rfl) ?_
                refine s_no rfl rfl ?_
                refine s_no rfl rfl ?_
                refine s_no rfl rfl ?_
                refine s_no rfl rfl ?_
                refine s_val rfl rfl (r_pickF rfl rfl rfl) ?_
                refine s_val rfl rfl (r_mv rfl rfl) ?_
                refine s_no rfl rfl ?_
                refine s_no rfl rfl ?_
                refine s_no rfl rfl ?_
                refine s_no rfl rfl ?_
                refine s_no rfl rfl ?_
                refine s_val rfl rfl (r_pickF rfl rfl rfl) ?_
                refine s_val rfl rfl (r_as rfl rfl) ?_
                refine s_nil ?_
                refine q_then ?_
                refine c_env [(4, .bool false)] ⟨rfl, trivial⟩ ?_
                refine c_ret ?_
                refine q_ret1 rfl rfl ?_
                replace H := H.keep 0
                exact fin ⟨congrArg Value.bool (decide_eq_false (by unfold goodI; omega)).symm, rfl⟩ H
            · skip
              refine c_skip ?_
              refine q_blockN ?_
              refine q_then ?_
              refine c_env [(2, .pointer (some ⟨b1, 0, none⟩)), (4, .bool false), (5, .int .i64 0), (6, .int .i64 0), (7, .int .i64 0)] ⟨rfl, rfl, rfl, rfl, rfl, trivial⟩ ?_
              refine c_seq ?_
              refine c_reg ?_
              refine s_val rfl rfl (r_fa rfl fo86_0 rfl) ?_
              refine s_val rfl rfl (r_ld rfl ty3 rfl (H.cellI 0 rfl rfl)) ?_
              refine s_val rfl rfl (r_ge rfl rfl rfl) ?_
              refine s_val rfl rfl (r_mv rfl rfl) ?_
              refine s_dec (d := 27) (p := (0 : Int) ≤ p.op) rfl (fun h29 => ?_) (fun h29 => ?_)
              · skip
                refine s_val rfl rfl (r_fa rfl fo86_0 rfl) ?_
                refine s_val rfl rfl (r_ld rfl ty3 rfl (H.cellI 0 rfl rfl)) ?_
                refine s_val rfl rfl (r_le rfl rfl rfl) ?_
                refine s_val rfl rfl (r_pickT rfl rfl rfl) ?_
                refine s_val rfl rfl (r_mv rfl rfl) ?_
                refine s_dec (d := 32) (p := p.op ≤ 23) rfl (fun h30 => ?_) (fun h30 => ?_)
                · skip
                  refine s_val rfl rfl (r_fa rfl fo86_1 rfl) ?_
                  refine s_val rfl rfl (r_ld rfl ty3 rfl (H.cellI 0 rfl rfl)) ?_
                  refine s_val rfl rfl (r_mv rfl rfl) ?_
                  refine s_val rfl rfl (r_ge rfl rfl rfl) ?_
                  refine s_val rfl rfl (r_pickT rfl rfl rfl) ?_
                  refine s_val rfl rfl (r_mv rfl rfl) ?_
                  refine s_dec (d := 38) (p := (0 : Int) ≤ p.a) rfl (fun h31 => ?_) (fun h31 => ?_)
                  · skip
                    refine s_val rfl rfl (r_fa rfl fo86_1 rfl) ?_
                    refine s_val rfl rfl (r_ld rfl ty3 rfl (H.cellI 0 rfl rfl)) ?_
                    refine s_val rfl rfl (r_mv rfl rfl) ?_
                    refine s_val rfl rfl (r_le rfl rfl rfl) ?_
                    refine s_val rfl rfl (r_pickT rfl rfl rfl) ?_
                    refine s_val rfl rfl (r_mv rfl rfl) ?_
                    refine s_dec (d := 44) (p := p.a ≤ 0) rfl (fun h32 => ?_) (fun h32 => ?_)
                    · skip
                      refine s_val rfl rfl (r_fa rfl fo86_2 rfl) ?_
                      refine s_val rfl rfl (r_ld rfl ty9 rfl (H.cellI 0 rfl rfl)) ?_
                      refine s_val rfl rfl (r_lenS rfl un9 rfl) ?_
                      refine s_val rfl rfl (r_mv rfl rfl) ?_
                      refine s_val rfl rfl (r_le rfl rfl rfl) ?_
                      refine s_val rfl rfl (r_pickT rfl rfl rfl) ?_
                      refine s_val rfl rfl (r_as rfl rfl) ?_
                      refine s_nil ?_
                      refine q_then ?_
                      refine c_env [(4, .bool (decide (((p.s.size : Nat) : Int) ≤ 0)))] ⟨rfl, trivial⟩ ?_
                      refine c_ret ?_
                      refine q_ret1 rfl rfl ?_
                      replace H := H.keep 0
                      exact fin ⟨congrArg Value.bool (decide_eq_decide.2 (by unfold goodI; omega)), rfl⟩ H
                    · skip
                      refine s_no rfl rfl ?_
                      refine s_no rfl rfl ?_
                      refine s_no rfl rfl ?_
                      refine s_no rfl rfl ?_
                      refine s_no rfl rfl ?_
                      refine s_val rfl rfl (r_pickF rfl rfl rfl) ?_
                      refine s_val rfl rfl (r_as rfl rfl) ?_
                      refine s_nil ?_
                      refine q_then ?_
                      refine c_env [(4, .bool false)] ⟨rfl, trivial⟩ ?_
                      refine c_ret ?_
                      refine q_ret1 rfl rfl ?_
                      replace H := H.keep 0
                      exact fin ⟨congrArg Value.bool (decide_eq_false (by unfold goodI; omega)).symm, rfl⟩ H
                  · skip
                    refine s_no rfl rfl ?_
                    refine s_no rfl rfl ?_
                    refine s_no rfl rfl ?_
                    refine s_no rfl rfl ?_
                    refine s_val rfl rfl (r_pickF rfl rfl rfl) ?_
                    refine s_val rfl rfl (r_mv rfl rfl) ?_
                    refine s_no rfl rfl ?_
                    refine s_no rfl rfl ?_
                    refine s_no rfl rfl ?_
                    refine s_no rfl rfl ?_
                    refine s_no rfl rfl ?_
                    refine s_val rfl rfl (r_pickF rfl rfl rfl) ?_
                    refine s_val rfl rfl (r_as rfl rfl) ?_
                    refine s_nil ?_
                    refine q_then ?_
                    refine c_env [(4, .bool false)] ⟨rfl, trivial⟩ ?_
                    refine c_ret ?_
                    refine q_ret1 rfl rfl ?_
                    replace H := H.keep 0
                    exact fin ⟨congrArg Value.bool (decide_eq_false (by unfold goodI; omega)).symm, rfl⟩ H
                · skip
                  refine s_no rfl rfl ?_
                  refine s_no rfl rfl ?_
                  refine s_no rfl rfl ?_
                  refine s_no rfl rfl ?_
                  refine s_val rfl rfl (r_pickF rfl rfl rfl) ?_
                  refine s_val rfl rfl (r_mv rfl rfl) ?_
                  refine s_no rfl rfl ?_
                  refine s_no rfl rfl ?_
                  refine s_no rfl rfl ?_
                  refine s_no rfl rfl ?_
                  refine s_val rfl rfl (r_pickF rfl rfl rfl) ?_
                  refine s_val rfl rfl (r_mv rfl rfl) ?_
                  refine s_no rfl rfl ?_
                  refine s_no rfl rfl ?_
                  refine s_no rfl rfl ?_
                  refine s_no rfl rfl ?_
                  refine s_no rfl rfl ?_
                  refine s_val rfl rfl (r_pickF rfl rfl rfl) ?_
                  refine s_val rfl rfl (r_as rfl rfl) ?_
                  refine s_nil ?_
                  refine q_then ?_
                  refine c_env [(4, .bool false)] ⟨rfl, trivial⟩ ?_
                  refine c_ret ?_
                  refine q_ret1 rfl rfl ?_
                  replace H := H.keep 0
                  exact fin ⟨congrArg Value.bool (decide_eq_false (by unfold goodI; omega)).symm, rfl⟩ H
              · skip
                refine s_no rfl rfl ?_
                refine s_no rfl rfl ?_
                refine s_no rfl rfl ?_
                refine s_val rfl rfl (r_pickF rfl rfl rfl) ?_
                refine s_val rfl rfl (r_mv rfl rfl) ?_
                refine s_no rfl rfl ?_
                refine s_no rfl rfl ?_
                refine s_no rfl rfl ?_
                refine s_no rfl rfl ?_
                refine s_val rfl rfl (r_pickF rfl rfl rfl) ?_
                refine s_val rfl rfl (r_mv rfl rfl) ?_
                refine s_no rfl rfl ?_
                refine s_no rfl rfl ?_
                refine s_no rfl rfl ?_
                refine s_no rfl rfl ?_
                refine s_val rfl rfl (r_pickF rfl rfl rfl) ?_
                refine s_val rfl rfl (r_mv rfl rfl) ?_
                refine s_no rfl rfl ?_
                refine s_no rfl rfl ?_
                refine s_no rfl rfl ?_
                refine s_no rfl rfl ?_
                refine s_no rfl rfl ?_
                refine s_val rfl rfl (r_pickF rfl rfl rfl) ?_
                refine s_val rfl rfl (r_as rfl rfl) ?_
                refine s_nil ?_
                refine q_then ?_
                refine c_env [(4, .bool false)] ⟨rfl, trivial⟩ ?_
                refine c_ret ?_
                refine q_ret1 rfl rfl ?_
                replace H := H.keep 0
                exact fin ⟨congrArg Value.bool (decide_eq_false (by unfold goodI; omega)).symm, rfl⟩ H
      · skip
        refine c_reg ?_
        refine s_val rfl rfl (r_eq rfl rfl rfl) ?_
        refine s_val rfl rfl (r_as rfl rfl) ?_
        refine s_nil ?_
        refine q_then ?_
        refine c_env [(1, .int .i64 n), (2, .pointer (some ⟨b1, 0, none⟩)), (4, .bool false), (5, .int .i64 0), (6, .int .i64 0), (7, .int .i64 0), (9, .int .i64 p.op), (17, .bool (decide (p.op = 20)))] ⟨rfl, rfl, rfl, rfl, rfl, rfl, rfl, rfl, trivial⟩ ?_
        refine c_dec (p := p.op = 20) rfl (fun h33 => ?_) (fun h33 => ?_)
        · skip
          refine c_reg ?_
          refine s_val rfl rfl (r_mv rfl rfl) ?_
          refine s_val rfl rfl (r_as rfl rfl) ?_
          refine s_nil ?_
          refine q_blockN ?_
          refine q_then ?_
          refine c_env [(2, .pointer (some ⟨b1, 0, none⟩)), (4, .bool false), (5, .int .i64 0), (6, .int .i64 n), (7, .int .i64 0)] ⟨rfl, rfl, rfl, rfl, rfl, trivial⟩ ?_
          refine c_seq ?_
          refine c_reg ?_
          refine s_val rfl rfl (r_fa rfl fo86_0 rfl) ?_
          refine s_val rfl rfl (r_ld rfl ty3 rfl (H.cellI 0 rfl rfl)) ?_
          refine s_val rfl rfl (r_ge rfl rfl rfl) ?_
          refine s_val rfl rfl (r_mv rfl rfl) ?_
          refine s_dec (d := 27) (p := (0 : Int) ≤ p.op) rfl (fun h34 => ?_) (fun h34 => ?_)
          · skip
            refine s_val rfl rfl (r_fa rfl fo86_0 rfl) ?_
            refine s_val rfl rfl (r_ld rfl ty3 rfl (H.cellI 0 rfl rfl)) ?_
            refine s_val rfl rfl (r_le rfl rfl rfl) ?_
            refine s_val rfl rfl (r_pickT rfl rfl rfl) ?_
            refine s_val rfl rfl (r_mv rfl rfl) ?_
            refine s_dec (d := 32) (p := p.op ≤ 23) rfl (fun h35 => ?_) (fun h35 => ?_)
            · skip
              refine s_val rfl rfl (r_fa rfl fo86_1 rfl) ?_
              refine s_val rfl rfl (r_ld rfl ty3 rfl (H.cellI 0 rfl rfl)) ?_
              refine s_val rfl rfl (r_mv rfl rfl) ?_
              refine s_val rfl rfl (r_ge rfl rfl rfl) ?_
              refine s_val rfl rfl (r_pickT rfl rfl rfl) ?_
              refine s_val rfl rfl (r_mv rfl rfl) ?_
              refine s_dec (d := 38) (p := (0 : Int) ≤ p.a) rfl (fun h36 => ?_) (fun h36 => ?_)
              · skip
                refine s_val rfl rfl (r_fa rfl fo86_1 rfl) ?_
                refine s_val rfl rfl (r_ld rfl ty3 rfl (H.cellI 0 rfl rfl)) ?_
                refine s_val rfl rfl (r_mv rfl rfl) ?_
                refine s_val rfl rfl (r_le rfl rfl rfl) ?_
                refine s_val rfl rfl (r_pickT rfl rfl rfl) ?_
                refine s_val rfl rfl (r_mv rfl rfl) ?_
                refine s_dec (d := 44) (p := p.a ≤ n) rfl (fun h37 => ?_) (fun h37 => ?_)
                · skip
                  refine s_val rfl rfl (r_fa rfl fo86_2 rfl) ?_
                  refine s_val rfl rfl (r_ld rfl ty9 rfl (H.cellI 0 rfl rfl)) ?_
                  refine s_val rfl rfl (r_lenS rfl un9 rfl) ?_
                  refine s_val rfl rfl (r_mv rfl rfl) ?_
                  refine s_val rfl rfl (r_le rfl rfl rfl) ?_
                  refine s_val rfl rfl (r_pickT rfl rfl rfl) ?_
                  refine s_val rfl rfl (r_as rfl rfl) ?_
                  refine s_nil ?_
                  refine q_then ?_
                  refine c_env [(4, .bool (decide (((p.s.size : Nat) : Int) ≤ 0)))] ⟨rfl, trivial⟩ ?_
                  refine c_ret ?_
                  refine q_ret1 rfl rfl ?_
                  replace H := H.keep 0
                  exact fin ⟨congrArg Value.bool (decide_eq_decide.2 (by unfold goodI; omega)), rfl⟩ H
                · skip
                  refine s_no rfl rfl ?_
                  refine s_no rfl rfl ?_
                  refine s_no rfl rfl ?_
                  refine s_no rfl rfl ?_
                  refine s_no rfl rfl ?_
                  refine s_val rfl rfl (r_pickF rfl rfl rfl) ?_
                  refine s_val rfl rfl (r_as rfl rfl) ?_
                  refine s_nil ?_
                  refine q_then ?_
                  refine c_env [(4, .bool false)] ⟨rfl, trivial⟩ ?_
                  refine c_ret ?_
                  refine q_ret1 rfl rfl ?_
                  replace H := H.keep 0
                  exact fin ⟨congrArg Value.bool (decide_eq_false (by unfold goodI; omega)).symm, rfl⟩ H
              · skip
                refine s_no rfl rfl ?_
                refine s_no rfl rfl ?_
                refine s_no rfl rfl ?_
                refine s_no rfl rfl ?_
                refine s_val rfl rfl (r_pickF rfl rfl rfl) ?_
                refine s_val rfl rfl (r_mv rfl rfl) ?_
                refine s_no rfl rfl ?_
                refine s_no rfl rfl ?_
                refine s_no rfl rfl ?_
                refine s_no rfl rfl ?_
                refine s_no rfl rfl ?_
                refine s_val rfl rfl (r_pickF rfl rfl rfl) ?_
                refine s_val rfl rfl (r_as rfl rfl) ?_
                refine s_nil ?_
                refine q_then ?_
                refine c_env [(4, .bool false)] ⟨rfl, trivial⟩ ?_
                refine c_ret ?_
                refine q_ret1 rfl rfl ?_
                replace H := H.keep 0
                exact fin ⟨congrArg Value.bool (decide_eq_false (by unfold goodI; omega)).symm, rfl⟩ H
            · skip
              refine s_no rfl rfl ?_
              refine s_no rfl rfl ?_
              refine s_no rfl rfl ?_
              refine s_no rfl rfl ?_
              refine s_val rfl rfl (r_pickF rfl rfl rfl) ?_
              refine s_val rfl rfl (r_mv rfl rfl) ?_
              refine s_no rfl rfl ?_
              refine s_no rfl rfl ?_
              refine s_no rfl rfl ?_
              refine s_no rfl rfl ?_
              refine s_val rfl rfl (r_pickF rfl rfl rfl) ?_
              refine s_val rfl rfl (r_mv rfl rfl) ?_
              refine s_no rfl rfl ?_
              refine s_no rfl rfl ?_
              refine s_no rfl rfl ?_
              refine s_no rfl rfl ?_
              refine s_no rfl rfl ?_
              refine s_val rfl rfl (r_pickF rfl rfl rfl) ?_
              refine s_val rfl rfl (r_as rfl rfl) ?_
              refine s_nil ?_
              refine q_then ?_
              refine c_env [(4, .bool false)] ⟨rfl, trivial⟩ ?_
              refine c_ret ?_
              refine q_ret1 rfl rfl ?_
              replace H := H.keep 0
              exact fin ⟨congrArg Value.bool (decide_eq_false (by unfold goodI; omega)).symm, rfl⟩ H
          · skip
            refine s_no rfl rfl ?_
            refine s_no rfl rfl ?_
            refine s_no rfl rfl ?_
            refine s_val rfl rfl (r_pickF rfl rfl rfl) ?_
            refine s_val rfl rfl (r_mv rfl rfl) ?_
            refine s_no rfl rfl ?_
            refine s_no rfl rfl ?_
            refine s_no rfl rfl ?_
            refine s_no rfl rfl ?_
            refine s_val rfl rfl (r_pickF rfl rfl rfl) ?_
            refine s_val rfl rfl (r_mv rfl rfl) ?_
            refine s_no rfl rfl ?_
            refine s_no rfl rfl ?_
            refine s_no rfl rfl ?_
            refine s_no rfl rfl ?_
            refine s_val rfl rfl (r_pickF rfl rfl rfl) ?_
            refine s_val rfl rfl (r_mv rfl rfl) ?_
            refine s_no rfl rfl ?_
            refine s_no rfl rfl ?_
            refine s_no rfl rfl ?_
            refine s_no rfl rfl ?_
            refine s_no rfl rfl ?_
            refine s_val rfl rfl (r_pickF rfl rfl rfl) ?_
            refine s_val rfl rfl (r_as rfl rfl) ?_
            refine s_nil ?_
            refine q_then ?_
            refine c_env [(4, .bool false)] ⟨rfl, trivial⟩ ?_
            refine c_ret ?_
            refine q_ret1 rfl rfl ?_
            replace H := H.keep 0
            exact fin ⟨congrArg Value.bool (decide_eq_false (by unfold goodI; omega)).symm, rfl⟩ H
        · skip
          refine c_seq ?_
          refine c_seq ?_
          refine c_reg ?_
          refine s_val rfl rfl (r_eq rfl rfl rfl) ?_
          refine s_val rfl rfl (r_as rfl rfl) ?_
          refine s_nil ?_
          refine q_then ?_
          refine c_env [(2, .pointer (some ⟨b1, 0, none⟩)), (4, .bool false), (5, .int .i64 0), (6, .int .i64 0), (7, .int .i64 0), (9, .int .i64 p.op), (21, .bool (decide (p.op = 21)))] ⟨rfl, rfl, rfl, rfl, rfl, rfl, rfl, trivial⟩ ?_
          refine c_dec (p := p.op = 21) rfl (fun h38 => ?_) (fun h38 => ?_)
          · skip
            refine c_skip ?_
            refine q_then ?_
            refine c_env [(2, .pointer (some ⟨b1, 0, none⟩)), (4, .bool false), (5, .int .i64 0), (6, .int .i64 0), (7, .int .i64 0), (21, .bool (decide (p.op = 21)))] ⟨rfl, rfl, rfl, rfl, rfl, rfl, trivial⟩ ?_
            refine c_dec (p := p.op = 21) rfl (fun h39 => ?_) (fun h39 => ?_)
            · skip
              refine c_reg ?_
              refine s_val rfl rfl (r_as rfl rfl) ?_
              refine s_nil ?_
              refine q_blockN ?_
              refine q_then ?_
              refine c_env [(2, .pointer (some ⟨b1, 0, none⟩)), (4, .bool false), (5, .int .i64 0), (6, .int .i64 7), (7, .int .i64 0)] ⟨rfl, rfl, rfl, rfl, rfl, trivial⟩ ?_
              refine c_seq ?_
              refine c_reg ?_
              refine s_val rfl rfl (r_fa rfl fo86_0 rfl) ?_
              refine s_val rfl rfl (r_ld rfl ty3 rfl (H.cellI 0 rfl rfl)) ?_
              refine s_val rfl rfl (r_ge rfl rfl rfl) ?_
              refine s_val rfl rfl (r_mv rfl rfl) ?_
              refine s_dec (d := 27) (p := (0 : Int) ≤ p.op) rfl (fun h40 => ?_) (fun h40 => ?_)
              · skip
                refine s_val rfl rfl (r_fa rfl fo86_0 rfl) ?_
                refine s_val rfl rfl (r_ld rfl ty3 rfl (H.cellI 0 rfl rfl)) ?_
                refine s_val rfl rfl (r_le rfl rfl rfl) ?_
                refine s_val rfl rfl (r_pickT rfl rfl rfl) ?_
                refine s_val rfl rfl (r_mv rfl rfl) ?_
                refine s_dec (d := 32) (p := p.op ≤ 23) rfl (fun h41 => ?_) (fun h41 => ?_)
                · skip
                  refine s_val rfl rfl (r_fa rfl fo86_1 rfl) ?_
                  refine s_val rfl rfl (r_ld rfl ty3 rfl (H.cellI 0 rfl rfl)) ?_
                  refine s_val rfl rfl (r_mv rfl rfl) ?_
                  refine s_val rfl rfl (r_ge rfl rfl rfl) ?_
                  refine s_val rfl rfl (r_pickT rfl rfl rfl) ?_
                  refine s_val rfl rfl (r_mv rfl rfl) ?_
                  refine s_dec (d := 38) (p := (0 : Int) ≤ p.a) rfl (fun h42 => ?_) (fun h42 => ?_)
                  · skip
                    refine s_val rfl rfl (r_fa rfl fo86_1 rfl) ?_
                    refine s_val rfl rfl (r_ld rfl ty3 rfl (H.cellI 0 rfl rfl)) ?_
                    refine s_val rfl rfl (r_mv rfl rfl) ?_
                    refine s_val rfl rfl (r_le rfl rfl rfl) ?_
                    refine s_val rfl rfl (r_pickT rfl rfl rfl) ?_
                    refine s_val rfl rfl (r_mv rfl rfl) ?_
                    refine s_dec (d := 44) (p := p.a ≤ 7) rfl (fun h43 => ?_) (fun h43 => ?_)
                    · skip
                      refine s_val rfl rfl (r_fa rfl fo86_2 rfl) ?_
                      refine s_val rfl rfl (r_ld rfl ty9 rfl (H.cellI 0 rfl rfl)) ?_
                      refine s_val rfl rfl (r_lenS rfl un9 rfl) ?_
                      refine s_val rfl rfl (r_mv rfl rfl) ?_
                      refine s_val rfl rfl (r_le rfl rfl rfl) ?_
                      refine s_val rfl rfl (r_pickT rfl rfl rfl) ?_
                      refine s_val rfl rfl (r_as rfl rfl) ?_
                      refine s_nil ?_
                      refine q_then ?_
                      refine c_env [(4, .bool (decide (((p.s.size : Nat) : Int) ≤ 0)))] ⟨rfl, trivial⟩ ?_
                      refine c_ret ?_
                      refine q_ret1 rfl rfl ?_
                      replace H := H.keep 0
                      exact fin ⟨congrArg Value.bool (decide_eq_decide.2 (by unfold goodI; omega)), rfl⟩ H
                    · skip
                      refine s_no rfl rfl ?_
                      refine s_no rfl rfl ?_
                      refine s_no rfl rfl ?_
                      refine s_no rfl rfl ?_
                      refine s_no rfl rfl ?_
                      refine s_val rfl rfl (r_pickF rfl rfl rfl) ?_
                      refine s_val rfl rfl (r_as rfl rfl) ?_
                      refine s_nil ?_
                      refine q_then ?_
                      refine c_env [(4, .bool false)] ⟨rfl, trivial⟩ ?_
                      refine c_ret ?_
                      refine q_ret1 rfl rfl ?_
                      replace H := H.keep 0
                      exact fin ⟨congrArg Value.bool (decide_eq_false (by unfold goodI; omega)).symm, rfl⟩ H
                  · skip
                    refine s_no rfl rfl ?_
                    refine s_no rfl rfl ?_
                    refine s_no rfl rfl ?_
                    refine s_no rfl rfl ?_
                    refine s_val rfl rfl (r_pickF rfl rfl rfl) ?_
                    refine s_val rfl rfl (r_mv rfl rfl) ?_
                    refine s_no rfl rfl ?_
                    refine s_no rfl rfl ?_
                    refine s_no rfl rfl ?_
                    refine s_no rfl rfl ?_
                    refine s_no rfl rfl ?_
                    refine s_val rfl rfl (r_pickF rfl rfl rfl) ?_
                    refine s_val rfl rfl (r_as rfl rfl) ?_
                    refine s_nil ?_
                    refine q_then ?_
                    refine c_env [(4, .bool false)] ⟨rfl, trivial⟩ ?_
                    refine c_ret ?_
                    refine q_ret1 rfl rfl ?_
                    replace H := H.keep 0
                    exact fin ⟨congrArg Value.bool (decide_eq_false (by unfold goodI; omega)).symm, rfl⟩ H
                · skip
                  refine s_no rfl rfl ?_
                  refine s_no rfl rfl ?_
                  refine s_no rfl rfl ?_
                  refine s_no rfl rfl ?_
                  refine s_val rfl rfl (r_pickF rfl rfl rfl) ?_
                  refine s_val rfl rfl (r_mv rfl rfl) ?_
                  refine s_no rfl rfl ?_
                  refine s_no rfl rfl ?_
                  refine s_no rfl rfl ?_
                  refine s_no rfl rfl ?_
                  refine s_val rfl rfl (r_pickF rfl rfl rfl) ?_
                  refine s_val rfl rfl (r_mv rfl rfl) ?_
                  refine s_no rfl rfl ?_
                  refine s_no rfl rfl ?_
                  refine s_no rfl rfl ?_
                  refine s_no rfl rfl ?_
                  refine s_no rfl rfl ?_
                  refine s_val rfl rfl (r_pickF rfl rfl rfl) ?_
                  refine s_val rfl rfl (r_as rfl rfl) ?_
                  refine s_nil ?_
                  refine q_then ?_
                  refine c_env [(4, .bool false)] ⟨rfl, trivial⟩ ?_
                  refine c_ret ?_
                  refine q_ret1 rfl rfl ?_
                  replace H := H.keep 0
                  exact fin ⟨congrArg Value.bool (decide_eq_false (by unfold goodI; omega)).symm, rfl⟩ H
              · skip
                refine s_no rfl rfl ?_
                refine s_no rfl rfl ?_
                refine s_no rfl rfl ?_
                refine s_val rfl rfl (r_pickF rfl rfl rfl) ?_
                refine s_val rfl rfl (r_mv rfl rfl) ?_
                refine s_no rfl rfl ?_
                refine s_no rfl rfl ?_
                refine s_no rfl rfl ?_
                refine s_no rfl rfl ?_
                refine s_val rfl rfl (r_pickF rfl rfl rfl) ?_
                refine s_val rfl rfl (r_mv rfl rfl) ?_
                refine s_no rfl rfl ?_
                refine s_no rfl rfl ?_
                refine s_no rfl rfl ?_
                refine s_no rfl rfl ?_
                refine s_val rfl rfl (r_pickF rfl rfl rfl) ?_
                refine s_val rfl rfl (r_mv rfl rfl) ?_
                refine s_no rfl rfl ?_
                refine s_no rfl rfl ?_
                refine s_no rfl rfl ?_
                refine s_no rfl rfl ?_
                refine s_no rfl rfl ?_
                refine s_val rfl rfl (r_pickF rfl rfl rfl) ?_
                refine s_val rfl rfl (r_as rfl rfl) ?_
                refine s_nil ?_
                refine q_then ?_
                refine c_env [(4, .bool false)] ⟨rfl, trivial⟩ ?_
                refine c_ret ?_
                refine q_ret1 rfl rfl ?_
                replace H := H.keep 0
                exact fin ⟨congrArg Value.bool (decide_eq_false (by unfold goodI; omega)).symm, rfl⟩ H
            · skip
              refine c_skip ?_
              refine q_blockN ?_
              refine q_then ?_
              refine c_env [(2, .pointer (some ⟨b1, 0, none⟩)), (4, .bool false), (5, .int .i64 0), (6, .int .i64 0), (7, .int .i64 0)] ⟨rfl, rfl, rfl, rfl, rfl, trivial⟩ ?_
              refine c_seq ?_
              refine c_reg ?_
              refine s_val rfl rfl (r_fa rfl fo86_0 rfl) ?_
              refine s_val rfl rfl (r_ld rfl ty3 rfl (H.cellI 0 rfl rfl)) ?_
              refine s_val rfl rfl (r_ge rfl rfl rfl) ?_
              refine s_val rfl rfl (r_mv rfl rfl) ?_
              refine s_dec (d := 27) (p := (0 : Int) ≤ p.op) rfl (fun h44 => ?_) (fun h44 => ?_)
              · skip
                refine s_val rfl rfl (r_fa rfl fo86_0 rfl) ?_
                refine s_val rfl rfl (r_ld rfl ty3 rfl (H.cellI 0 rfl rfl)) ?_
                refine s_val rfl rfl (r_le rfl rfl rfl) ?_
                refine s_val rfl rfl (r_pickT rfl rfl rfl) ?_
                refine s_val rfl rfl (r_mv rfl rfl) ?_
                refine s_dec (d := 32) (p := p.op ≤ 23) rfl (fun h45 => ?_) (fun h45 => ?_)
                · skip
                  refine s_val rfl rfl (r_fa rfl fo86_1 rfl) ?_
                  refine s_val rfl rfl (r_ld rfl ty3 rfl (H.cellI 0 rfl rfl)) ?_
                  refine s_val rfl rfl (r_mv rfl rfl) ?_
                  refine s_val rfl rfl (r_ge rfl rfl rfl) ?_
                  refine s_val rfl rfl (r_pickT rfl rfl rfl) ?_
                  refine s_val rfl rfl (r_mv rfl rfl) ?_
                  refine s_dec (d := 38) (p := (0 : Int) ≤ p.a) rfl (fun h46 => ?_) (fun h46 => ?_)
                  · skip
                    refine s_val rfl rfl (r_fa rfl fo86_1 rfl) ?_
                    refine s_val rfl rfl (r_ld rfl ty3 rfl (H.cellI 0 rfl rfl)) ?_
                    refine s_val rfl rfl (r_mv rfl rfl) ?_
                    refine s_val rfl rfl (r_le rfl rfl rfl) ?_
                    refine s_val rfl rfl (r_pickT rfl rfl rfl) ?_
                    refine s_val rfl rfl (r_mv rfl rfl) ?_
                    refine s_dec (d := 44) (p := p.a ≤ 0) rfl (fun h47 => ?_) (fun h47 => ?_)
                    · skip
                      refine s_val rfl rfl (r_fa rfl fo86_2 rfl) ?_
                      refine s_val rfl rfl (r_ld rfl ty9 rfl (H.cellI 0 rfl rfl)) ?_
                      refine s_val rfl rfl (r_lenS rfl un9 rfl) ?_
                      refine s_val rfl rfl (r_mv rfl rfl) ?_
                      refine s_val rfl rfl (r_le rfl rfl rfl) ?_
                      refine s_val rfl rfl (r_pickT rfl rfl rfl) ?_
                      refine s_val rfl rfl (r_as rfl rfl) ?_
                      refine s_nil ?_
                      refine q_then ?_
                      refine c_env [(4, .bool (decide (((p.s.size : Nat) : Int) ≤ 0)))] ⟨rfl, trivial⟩ ?_
                      refine c_ret ?_
                      refine q_ret1 rfl rfl ?_
                      replace H := H.keep 0
                      exact fin ⟨congrArg Value.bool (decide_eq_decide.2 (by unfold goodI; omega)), rfl⟩ H
                    · skip
                      refine s_no rfl rfl ?_
                      refine s_no rfl rfl ?_
                      refine s_no rfl rfl ?_
                      refine s_no rfl rfl ?_
                      refine s_no rfl rfl ?_
                      refine s_val rfl rfl (r_pickF rfl rfl rfl) ?_
                      refine s_val rfl rfl (r_as rfl rfl) ?_
                      refine s_nil ?_
                      refine q_then ?_
                      refine c_env [(4, .bool false)] ⟨rfl, trivial⟩ ?_
                      refine c_ret ?_
                      refine q_ret1 rfl rfl ?_
                      replace H := H.keep 0
                      exact fin ⟨congrArg Value.bool (decide_eq_false (by unfold goodI; omega)).symm, rfl⟩ H
                  · skip
                    refine s_no rfl rfl ?_
                    refine s_no rfl rfl ?_
                    refine s_no rfl rfl ?_
                    refine s_no rfl rfl ?_
                    refine s_val rfl rfl (r_pickF rfl rfl rfl) ?_
                    refine s_val rfl rfl (r_mv rfl rfl) ?_
                    refine s_no rfl rfl ?_
                    refine s_no rfl rfl ?_
                    refine s_no rfl rfl ?_
                    refine s_no rfl rfl ?_
                    refine s_no rfl rfl ?_
                    refine s_val rfl rfl (r_pickF rfl rfl rfl) ?_
                    refine s_val rfl rfl (r_as rfl rfl) ?_
                    refine s_nil ?_
                    refine q_then ?_
                    refine c_env [(4, .bool false)] ⟨rfl, trivial⟩ ?_
                    refine c_ret ?_
                    refine q_ret1 rfl rfl ?_
                    replace H := H.keep 0
                    exact fin ⟨congrArg Value.bool (decide_eq_false (by unfold goodI; omega)).symm, rfl⟩ H
                · skip
                  refine s_no rfl rfl ?_
                  refine s_no rfl rfl ?_
                  refine s_no rfl rfl ?_
                  refine s_no rfl rfl ?_
                  refine s_val rfl rfl (r_pickF rfl rfl rfl) ?_
                  refine s_val rfl rfl (r_mv rfl rfl) ?_
                  refine s_no rfl rfl ?_
                  refine s_no rfl rfl ?_
                  refine s_no rfl rfl ?_
                  refine s_no rfl rfl ?_
                  refine s_val rfl rfl (r_pickF rfl rfl rfl) ?_
                  refine s_val rfl rfl (r_mv rfl rfl) ?_
                  refine s_no rfl rfl ?_
                  refine s_no rfl rfl ?_
                  refine s_no rfl rfl ?_
                  refine s_no rfl rfl ?_
                  refine s_no rfl rfl ?_
                  refine s_val rfl rfl (r_pickF rfl rfl rfl) ?_
                  refine s_val rfl rfl (r_as rfl rfl) ?_
                  refine s_nil ?_
                  refine q_then ?_
                  refine c_env [(4, .bool false)] ⟨rfl, trivial⟩ ?_
                  refine c_ret ?_
                  refine q_ret1 rfl rfl ?_
                  replace H := H.keep 0
                  exact fin ⟨congrArg Value.bool (decide_eq_false (by unfold goodI; omega)).symm, rfl⟩ H
              · skip
                refine s_no rfl rfl ?_
                refine s_no rfl rfl ?_
                refine s_no rfl rfl ?_
                refine s_val rfl rfl (r_pickF rfl rfl rfl) ?_
                refine s_val rfl rfl (r_mv rfl rfl) ?_
                refine s_no rfl rfl ?_
                refine s_no rfl rfl ?_
                refine s_no rfl rfl ?_
                refine s_no rfl rfl ?_
                refine s_val rfl rfl (r_pickF rfl rfl rfl) ?_
                refine s_val rfl rfl (r_mv rfl rfl) ?_
                refine s_no rfl rfl ?_
                refine s_no rfl rfl ?_
                refine s_no rfl rfl ?_
                refine s_no rfl rfl ?_
                refine s_val rfl rfl (r_pickF rfl rfl rfl) ?_
                refine s_val rfl rfl (r_mv rfl rfl) ?_
                refine s_no rfl rfl ?_
                refine s_no rfl rfl ?_
                refine s_no rfl rfl ?_
                refine s_no rfl rfl ?_
                refine s_no rfl rfl ?_
                refine s_val rfl rfl (r_pickF rfl rfl rfl) ?_
                refine s_val rfl rfl (r_as rfl rfl) ?_
                refine s_nil ?_
                refine q_then ?_
                refine c_env [(4, .bool false)] ⟨rfl, trivial⟩ ?_
                refine c_ret ?_
                refine q_ret1 rfl rfl ?_
                replace H := H.keep 0
                exact fin ⟨congrArg Value.bool (decide_eq_false (by unfold goodI; omega)).symm, rfl⟩ H
          · skip
            refine c_reg ?_
            refine s_val rfl rfl (r_eq rfl rfl rfl) ?_
            refine s_val rfl rfl (r_as rfl rfl) ?_
            refine s_nil ?_
            refine q_then ?_
            refine c_env [(2, .pointer (some ⟨b1, 0, none⟩)), (4, .bool false), (5, .int .i64 0), (6, .int .i64 0), (7, .int .i64 0), (21, .bool (decide (p.op = 22)))] ⟨rfl, rfl, rfl, rfl, rfl, rfl, trivial⟩ ?_
            refine c_dec (p := p.op = 22) rfl (fun h48 => ?_) (fun h48 => ?_)
            · skip
              refine c_reg ?_
              refine s_val rfl rfl (r_as rfl rfl) ?_
              refine s_nil ?_
              refine q_blockN ?_
              refine q_then ?_
              refine c_env [(2, .pointer (some ⟨b1, 0, none⟩)), (4, .bool false), (5, .int .i64 0), (6, .int .i64 7), (7, .int .i64 0)] ⟨rfl, rfl, rfl, rfl, rfl, trivial⟩ ?_
              refine c_seq ?_
              refine c_reg ?_
              refine s_val rfl rfl (r_fa rfl fo86_0 rfl) ?_
              refine s_val rfl rfl (r_ld rfl ty3 rfl (H.cellI 0 rfl rfl)) ?_
              refine s_val rfl rfl (r_ge rfl rfl rfl) ?_
              refine s_val rfl rfl (r_mv rfl rfl) ?_
              refine s_dec (d := 27) (p := (0 : Int) ≤ p.op) rfl (fun h49 => ?_) (fun h49 => ?_)
              · skip
                refine s_val rfl rfl (r_fa rfl fo86_0 rfl) ?_
                refine s_val rfl rfl (r_ld rfl ty3 rfl (H.cellI 0 rfl rfl)) ?_
                refine s_val rfl rfl (r_le rfl rfl rfl) ?_
                refine s_val rfl rfl (r_pickT rfl rfl rfl) ?_
                refine s_val rfl rfl (r_mv rfl rfl) ?_
                refine s_dec (d := 32) (p := p.op ≤ 23) rfl (fun h50 => ?_) (fun h50 => ?_)
                · skip
                  refine s_val rfl rfl (r_fa rfl fo86_1 rfl) ?_
                  refine s_val rfl rfl (r_ld rfl ty3 rfl (H.cellI 0 rfl rfl)) ?_
                  refine s_val rfl rfl (r_mv rfl rfl) ?_
                  refine s_val rfl rfl (r_ge rfl rfl rfl) ?_
                  refine s_val rfl rfl (r_pickT rfl rfl rfl) ?_
                  refine s_val rfl rfl (r_mv rfl rfl) ?_
                  refine s_dec (d := 38) (p := (0 : Int) ≤ p.a) rfl (fun h51 => ?_) (fun h51 => ?_)
                  · skip
                    refine s_val rfl rfl (r_fa rfl fo86_1 rfl) ?_
                    refine s_val rfl rfl (r_ld rfl ty3 rfl (H.cellI 0 rfl rfl)) ?_
                    refine s_val rfl rfl (r_mv rfl rfl) ?_
                    refine s_val rfl rfl (r_le rfl rfl rfl) ?_
                    refine s_val rfl rfl (r_pickT rfl rfl rfl) ?_
                    refine s_val rfl rfl (r_mv rfl rfl) ?_
                    refine s_dec (d := 44) (p := p.a ≤ 7) rfl (fun h52 => ?_) (fun h52 => ?_)
                    · skip
                      refine s_val rfl rfl (r_fa rfl fo86_2 rfl) ?_
                      refine s_val rfl rfl (r_ld rfl ty9 rfl (H.cellI 0 rfl rfl)) ?_
                      refine s_val rfl rfl (r_lenS rfl un9 rfl) ?_
                      refine s_val rfl rfl (r_mv rfl rfl) ?_
                      refine s_val rfl rfl (r_le rfl rfl rfl) ?_
                      refine s_val rfl rfl (r_pickT rfl rfl rfl) ?_
                      refine s_val rfl rfl (r_as rfl rfl) ?_
                      refine s_nil ?_
                      refine q_then ?_
                      refine c_env [(4, .bool (decide (((p.s.size : Nat) : Int) ≤ 0)))] ⟨rfl, trivial⟩ ?_
                      refine c_ret ?_
                      refine q_ret1 rfl rfl ?_
                      replace H := H.keep 0
                      exact fin ⟨congrArg Value.bool (decide_eq_decide.2 (by unfold goodI; omega)), rfl⟩ H
                    · skip
                      refine s_no rfl rfl ?_
                      refine s_no rfl rfl ?_
                      refine s_no rfl rfl ?_
                      refine s_no rfl rfl ?_
                      refine s_no rfl rfl ?_
                      refine s_val rfl rfl (r_pickF rfl rfl rfl) ?_
                      refine s_val rfl rfl (r_as rfl rfl) ?_
                      refine s_nil ?_
                      refine q_then ?_
                      refine c_env [(4, .bool false)] ⟨rfl, trivial⟩ ?_
                      refine c_ret ?_
                      refine q_ret1 rfl rfl ?_
                      replace H := H.keep 0
                      exact fin ⟨congrArg Value.bool (decide_eq_false (by unfold goodI; omega)).symm, rfl⟩ H
                  · skip
                    refine s_no rfl rfl ?_
                    refine s_no rfl rfl ?_
                    refine s_no rfl rfl ?_
                    refine s_no rfl rfl ?_
                    refine s_val rfl rfl (r_pickF rfl rfl rfl) ?_
                    refine s_val rfl rfl (r_mv rfl rfl) ?_
                    refine s_no rfl rfl ?_
                    refine s_no rfl rfl ?_
                    refine s_no rfl rfl ?_
                    refine s_no rfl rfl ?_
                    refine s_no rfl rfl ?_
                    refine s_val rfl rfl (r_pickF rfl rfl rfl) ?_
                    refine s_val rfl rfl (r_as rfl rfl) ?_
                    refine s_nil ?_
                    refine q_then ?_
                    refine c_env [(4, .bool false)] ⟨rfl, trivial⟩ ?_
                    refine c_ret ?_
                    refine q_ret1 rfl rfl ?_
                    replace H := H.keep 0
                    exact fin ⟨congrArg Value.bool (decide_eq_false (by unfold goodI; omega)).symm, rfl⟩ H
                · skip
                  refine s_no rfl rfl ?_
                  refine s_no rfl rfl ?_
                  refine s_no rfl rfl ?_
                  refine s_no rfl rfl ?_
                  refine s_val rfl rfl (r_pickF rfl rfl rfl) ?_
                  refine s_val rfl rfl (r_mv rfl rfl) ?_
                  refine s_no rfl rfl ?_
                  refine s_no rfl rfl ?_
                  refine s_no rfl rfl ?_
                  refine s_no rfl rfl ?_
                  refine s_val rfl rfl (r_pickF rfl rfl rfl) ?_
                  refine s_val rfl rfl (r_mv rfl rfl) ?_
                  refine s_no rfl rfl ?_
                  refine s_no rfl rfl ?_
                  refine s_no rfl rfl ?_
                  refine s_no rfl rfl ?_
                  refine s_no rfl rfl ?_
                  refine s_val rfl rfl (r_pickF rfl rfl rfl) ?_
                  refine s_val rfl rfl (r_as rfl rfl) ?_
                  refine s_nil ?_
                  refine q_then ?_
                  refine c_env [(4, .bool false)] ⟨rfl, trivial⟩ ?_
                  refine c_ret ?_
                  refine q_ret1 rfl rfl ?_
                  replace H := H.keep 0
                  exact fin ⟨congrArg Value.bool (decide_eq_false (by unfold goodI; omega)).symm, rfl⟩ H
              · skip
                refine s_no rfl rfl ?_
                refine s_no rfl rfl ?_
                refine s_no rfl rfl ?_
                refine s_val rfl rfl (r_pickF rfl rfl rfl) ?_
                refine s_val rfl rfl (r_mv rfl rfl) ?_
                refine s_no rfl rfl ?_
                refine s_no rfl rfl ?_
                refine s_no rfl rfl ?_
                refine s_no rfl rfl ?_
                refine s_val rfl rfl (r_pickF rfl rfl rfl) ?_
                refine s_val rfl rfl (r_mv rfl rfl) ?_
                refine s_no rfl rfl ?_
                refine s_no rfl rfl ?_
                refine s_no rfl rfl ?_
                refine s_no rfl rfl ?_
                refine s_val rfl rfl (r_pickF rfl rfl rfl) ?_
                refine s_val rfl rfl (r_mv rfl rfl) ?_
                refine s_no rfl rfl ?_
                refine s_no rfl rfl ?_
                refine s_no rfl rfl ?_
                refine s_no rfl rfl ?_
                refine s_no rfl rfl ?_
                refine s_val rfl rfl (r_pickF rfl rfl rfl) ?_
                refine s_val rfl rfl (r_as rfl rfl) ?_
                refine s_nil ?_
                refine q_then ?_
                refine c_env [(4, .bool false)] ⟨rfl, trivial⟩ ?_
                refine c_ret ?_
                refine q_ret1 rfl rfl ?_
                replace H := H.keep 0
                exact fin ⟨congrArg Value.bool (decide_eq_false (by unfold goodI; omega)).symm, rfl⟩ H
            · skip
              refine c_skip ?_
              refine q_blockN ?_
              refine q_then ?_
              refine c_env [(2, .pointer (some ⟨b1, 0, none⟩)), (4, .bool false), (5, .int .i64 0), (6, .int .i64 0), (7, .int .i64 0)] ⟨rfl, rfl, rfl, rfl, rfl, trivial⟩ ?_
              refine c_seq ?_
              refine c_reg ?_
              refine s_val rfl rfl (r_fa rfl fo86_0 rfl) ?_
              refine s_val rfl rfl (r_ld rfl ty3 rfl (H.cellI 0 rfl rfl)) ?_
              refine s_val rfl rfl (r_ge rfl rfl rfl) ?_
              refine s_val rfl rfl (r_mv rfl rfl) ?_
              refine s_dec (d := 27) (p := (0 : Int) ≤ p.op) rfl (fun h53 => ?_) (fun h53 => ?_)
              · skip
                refine s_val rfl rfl (r_fa rfl fo86_0 rfl) ?_
                refine s_val rfl rfl (r_ld rfl ty3 rfl (H.cellI 0 rfl rfl)) ?_
                refine s_val rfl rfl (r_le rfl rfl rfl) ?_
                refine s_val rfl rfl (r_pickT rfl rfl rfl) ?_
                refine s_val rfl rfl (r_mv rfl rfl) ?_
                refine s_dec (d := 32) (p := p.op ≤ 23) rfl (fun h54 => ?_) (fun h54 => ?_)
                · skip
                  refine s_val rfl rfl (r_fa rfl fo86_1 rfl) ?_
                  refine s_val rfl rfl (r_ld rfl ty3 rfl (H.cellI 0 rfl rfl)) ?_
                  refine s_val rfl rfl (r_mv rfl rfl) ?_
                  refine s_val rfl rfl (r_ge rfl rfl rfl) ?_
                  refine s_val rfl rfl (r_pickT rfl rfl rfl) ?_
                  refine s_val rfl rfl (r_mv rfl rfl) ?_
                  refine s_dec (d := 38) (p := (0 : Int) ≤ p.a) rfl (fun h55 => ?_) (fun h55 => ?_)
                  · skip
                    refine s_val rfl rfl (r_fa rfl fo86_1 rfl) ?_
                    refine s_val rfl rfl (r_ld rfl ty3 rfl (H.cellI 0 rfl rfl)) ?_
                    refine s_val rfl rfl (r_mv rfl rfl) ?_
                    refine s_val rfl rfl (r_le rfl rfl rfl) ?_
                    refine s_val rfl rfl (r_pickT rfl rfl rfl) ?_
                    refine s_val rfl rfl (r_mv rfl rfl) ?_
                    refine s_dec (d := 44) (p := p.a ≤ 0) rfl (fun h56 => ?_) (fun h56 => ?_)
                    · skip
                      refine s_val rfl rfl (r_fa rfl fo86_2 rfl) ?_
                      refine s_val rfl rfl (r_ld rfl ty9 rfl (H.cellI 0 rfl rfl)) ?_
                      refine s_val rfl rfl (r_lenS rfl un9 rfl) ?_
                      refine s_val rfl rfl (r_mv rfl rfl) ?_
                      refine s_val rfl rfl (r_le rfl rfl rfl) ?_
                      refine s_val rfl rfl (r_pickT rfl rfl rfl) ?_
                      refine s_val rfl rfl (r_as rfl rfl) ?_
                      refine s_nil ?_
                      refine q_then ?_
                      refine c_env [(4, .bool (decide (((p.s.size : Nat) : Int) ≤ 0)))] ⟨rfl, trivial⟩ ?_
                      refine c_ret ?_
                      refine q_ret1 rfl rfl ?_
                      replace H := H.keep 0
                      exact fin ⟨congrArg Value.bool (decide_eq_decide.2 (by unfold goodI; omega)), rfl⟩ H
                    · skip
                      refine s_no rfl rfl ?_
                      refine s_no rfl rfl ?_
                      refine s_no rfl rfl ?_
                      refine s_no rfl rfl ?_
                      refine s_no rfl rfl ?_
                      refine s_val rfl rfl (r_pickF rfl rfl rfl) ?_
                      refine s_val rfl rfl (r_as rfl rfl) ?_
                      refine s_nil ?_
                      refine q_then ?_
                      refine c_env [(4, .bool false)] ⟨rfl, trivial⟩ ?_
                      refine c_ret ?_
                      refine q_ret1 rfl rfl ?_
                      replace H := H.keep 0
                      exact fin ⟨congrArg Value.bool (decide_eq_false (by unfold goodI; omega)).symm, rfl⟩ H
                  · skip
                    refine s_no rfl rfl ?_
                    refine s_no rfl rfl ?_
                    refine s_no rfl rfl ?_
                    refine s_no rfl rfl ?_
                    refine s_val rfl rfl (r_pickF rfl rfl rfl) ?_
                    refine s_val rfl rfl (r_mv rfl rfl) ?_
                    refine s_no rfl rfl ?_
                    refine s_no rfl rfl ?_
                    refine s_no rfl rfl ?_
                    refine s_no rfl rfl ?_
                    refine s_no rfl rfl ?_
                    refine s_val rfl rfl (r_pickF rfl rfl rfl) ?_
                    refine s_val rfl rfl (r_as rfl rfl) ?_
                    refine s_nil ?_
                    refine q_then ?_
                    refine c_env [(4, .bool false)] ⟨rfl, trivial⟩ ?_
                    refine c_ret ?_
                    refine q_ret1 rfl rfl ?_
                    replace H := H.keep 0
                    exact fin ⟨congrArg Value.bool (decide_eq_false (by unfold goodI; omega)).symm, rfl⟩ H
                · skip
                  refine s_no rfl rfl ?_
                  refine s_no rfl rfl ?_
                  refine s_no rfl rfl ?_
                  refine s_no rfl rfl ?_
                  refine s_val rfl rfl (r_pickF rfl rfl rfl) ?_
                  refine s_val rfl rfl (r_mv rfl rfl) ?_
                  refine s_no rfl rfl ?_
                  refine s_no rfl rfl ?_
                  refine s_no rfl rfl ?_
                  refine s_no rfl rfl ?_
                  refine s_val rfl rfl (r_pickF rfl rfl rfl) ?_
                  refine s_val rfl rfl (r_mv rfl rfl) ?_
                  refine s_no rfl rfl ?_
                  refine s_no rfl rfl ?_
                  refine s_no rfl rfl ?_
                  refine s_no rfl rfl ?_
                  refine s_no rfl rfl ?_
                  refine s_val rfl rfl (r_pickF rfl rfl rfl) ?_
                  refine s_val rfl rfl (r_as rfl rfl) ?_
                  refine s_nil ?_
                  refine q_then ?_
                  refine c_env [(4, .bool false)] ⟨rfl, trivial⟩ ?_
                  refine c_ret ?_
                  refine q_ret1 rfl rfl ?_
                  replace H := H.keep 0
                  exact fin ⟨congrArg Value.bool (decide_eq_false (by unfold goodI; omega)).symm, rfl⟩ H
              · skip
                refine s_no rfl rfl ?_
                refine s_no rfl rfl ?_
                refine s_no rfl rfl ?_
                refine s_val rfl rfl (r_pickF rfl rfl rfl) ?_
                refine s_val rfl rfl (r_mv rfl rfl) ?_
                refine s_no rfl rfl ?_
                refine s_no rfl rfl ?_
                refine s_no rfl rfl ?_
                refine s_no rfl rfl ?_
                refine s_val rfl rfl (r_pickF rfl rfl rfl) ?_
                refine s_val rfl rfl (r_mv rfl rfl) ?_
                refine s_no rfl rfl ?_
                refine s_no rfl rfl ?_
                refine s_no rfl rfl ?_
                refine s_no rfl rfl ?_
                refine s_val rfl rfl (r_pickF rfl rfl rfl) ?_
                refine s_val rfl rfl (r_mv rfl rfl) ?_
                refine s_no rfl rfl ?_
                refine s_no rfl rfl ?_
                refine s_no rfl rfl ?_
                refine s_no rfl rfl ?_
                refine s_no rfl rfl ?_
                refine s_val rfl rfl (r_pickF rfl rfl rfl) ?_
                refine s_val rfl rfl (r_as rfl rfl) ?_
                refine s_nil ?_
                refine q_then ?_
                refine c_env [(4, .bool false)] ⟨rfl, trivial⟩ ?_
                refine c_ret ?_
                refine q_ret1 rfl rfl ?_
                replace H := H.keep 0
                exact fin ⟨congrArg Value.bool (decide_eq_false (by unfold goodI; omega)).symm, rfl⟩ H

set_option maxHeartbeats 1000000 in
theorem pgood_ok (p : Ins) (n : Int) :
    Cn Try.prog 96 [.agg #[.int .i64 p.op, .int .i64 p.a, .string p.s], .int .i64 n] [] [] (fun v Bs => v = .bool (decide (goodI p n)) ∧ Bs = []) := by
  intro w0 F0 H
  refine enter (args := [.agg #[.int .i64 p.op, .int .i64 p.a, .string p.s], .int .i64 n]) Try.func96 rfl rfl (Nat.le_of_ble_eq_true rfl) ?_
  refine c_seq ?_
  refine c_reg ?_
  refine s_box rfl rfl rfl rfl H (fun b1 w H => ?_)
  refine s_val rfl rfl (r_as rfl rfl) ?_
  refine s_nil ?_
  refine q_then ?_
  replace H : Hd _ _ _ [blk b1 [.int .i64 p.op, .int .i64 p.a, .string p.s] 86] [] := H
  refine c_env [(1, .int .i64 n), (2, .pointer (some ⟨b1, 0, none⟩)), (4, .bool false)] ⟨rfl, rfl, rfl, trivial⟩ ?_
  refine c_seq ?_
  refine c_block ?_
  refine c_seq ?_
  refine c_reg ?_
  refine s_val rfl rfl (r_fa rfl fo86_0 rfl) ?_
  refine s_val rfl rfl (r_ld rfl ty3 rfl (H.cellI 0 rfl rfl)) ?_
  refine s_val rfl rfl (r_lt rfl rfl rfl) ?_
  refine s_val rfl rfl (r_mv rfl rfl) ?_
  refine s_dec (d := 9) (p := p.op < 0) rfl (fun h2 => ?_) (fun h2 => ?_)
  · skip
    refine s_no rfl rfl ?_
    refine s_no rfl rfl ?_
    refine s_no rfl rfl ?_
    refine s_val rfl rfl (r_pickT rfl rfl rfl) ?_
    refine s_val rfl rfl (r_as rfl rfl) ?_
    refine s_nil ?_
    refine q_then ?_
    refine c_env [(1, .int .i64 n), (2, .pointer (some ⟨b1, 0, none⟩)), (4, .bool false), (5, .bool true)] ⟨rfl, rfl, rfl, rfl, trivial⟩ ?_
    refine c_yes rfl ?_
    refine c_seq ?_
    refine c_reg ?_
    refine s_val rfl rfl (r_as rfl rfl) ?_
    refine s_nil ?_
    refine q_then ?_
    refine c_env [(2, .pointer (some ⟨b1, 0, none⟩)), (4, .bool false)] ⟨rfl, rfl, trivial⟩ ?_
    refine c_ret ?_
    refine q_blockR ?_
    refine q_thenR ?_
    refine q_ret1 rfl rfl ?_
    replace H := H.keep 0
    exact fin ⟨congrArg Value.bool (decide_eq_false (by unfold goodI; omega)).symm, rfl⟩ H
  · skip
    refine s_val rfl rfl (r_fa rfl fo86_0 rfl) ?_
    refine s_val rfl rfl (r_ld rfl ty3 rfl (H.cellI 0 rfl rfl)) ?_
    refine s_val rfl rfl (r_gt rfl rfl rfl) ?_
    refine s_val rfl rfl (r_pickF rfl rfl rfl) ?_
    refine s_val rfl rfl (r_as rfl rfl) ?_
    refine s_nil ?_
    refine q_then ?_
    refine c_env [(1, .int .i64 n), (2, .pointer (some ⟨b1, 0, none⟩)), (4, .bool false), (5, .bool (decide ((23 : Int) < p.op)))] ⟨rfl, rfl, rfl, rfl, trivial⟩ ?_
    refine c_dec (p := (23 : Int) < p.op) rfl (fun h3 => ?_) (fun h3 => ?_)
    · skip
      refine c_seq ?_
      refine c_reg ?_
      refine s_val rfl rfl (r_as rfl rfl) ?_
      refine s_nil ?_
      refine q_then ?_
      refine c_env [(2, .pointer (some ⟨b1, 0, none⟩)), (4, .bool false)] ⟨rfl, rfl, trivial⟩ ?_
      refine c_ret ?_
      refine q_blockR ?_
      refine q_thenR ?_
      refine q_ret1 rfl rfl ?_
      replace H := H.keep 0
      exact fin ⟨congrArg Value.bool (decide_eq_false (by unfold goodI; omega)).symm, rfl⟩ H
    · skip
      refine c_seq ?_
      refine c_reg ?_
      refine s_val rfl rfl (r_fa rfl fo86_0 rfl) ?_
      refine s_val rfl rfl (r_ld rfl ty3 rfl (H.cellI 0 rfl rfl)) ?_
      refine s_val rfl rfl (r_eq rfl rfl rfl) ?_
      refine s_val rfl rfl (r_as rfl rfl) ?_
      refine s_nil ?_
      refine q_then ?_
      refine c_env [(1, .int .i64 n), (2, .pointer (some ⟨b1, 0, none⟩)), (4, .bool false), (14, .bool (decide (p.op = 1)))] ⟨rfl, rfl, rfl, rfl, trivial⟩ ?_
      refine c_dec (p := p.op = 1) rfl (fun h4 => ?_) (fun h4 => ?_)
      · skip
        refine c_seq ?_
        refine c_reg ?_
        refine s_val rfl rfl (r_fa rfl fo86_2 rfl) ?_
        refine s_val rfl rfl (r_ld rfl ty9 rfl (H.cellI 0 rfl rfl)) ?_
        refine s_val rfl rfl (r_eqS rfl rfl rfl) ?_
        refine s_val rfl rfl (r_as rfl rfl) ?_
        refine s_nil ?_
        refine q_then ?_
        refine c_env [(2, .pointer (some ⟨b1, 0, none⟩)), (4, .bool (decide (p.s = (⟨#[]⟩ : ByteArray))))] ⟨rfl, rfl, trivial⟩ ?_
        refine c_ret ?_
        refine q_blockR ?_
        refine q_thenR ?_
        refine q_ret1 rfl rfl ?_
        replace H := H.keep 0
        exact fin ⟨congrArg Value.bool (decide_eq_decide.2 (by rw [nil_size]; unfold goodI; omega)), rfl⟩ H
      · skip
        refine c_seq ?_
        refine c_reg ?_
        refine s_val rfl rfl (r_fa rfl fo86_0 rfl) ?_
        refine s_val rfl rfl (r_ld rfl ty3 rfl (H.cellI 0 rfl rfl)) ?_
        refine s_val rfl rfl (r_eq rfl rfl rfl) ?_
        refine s_val rfl rfl (r_as rfl rfl) ?_
        refine s_nil ?_
        refine q_then ?_
        refine c_env [(1, .int .i64 n), (2, .pointer (some ⟨b1, 0, none⟩)), (4, .bool false), (21, .bool (decide (p.op = 2)))] ⟨rfl, rfl, rfl, rfl, trivial⟩ ?_
        refine c_dec (p := p.op = 2) rfl (fun h5 => ?_) (fun h5 => ?_)
        · skip
          refine c_seq ?_
          refine c_reg ?_
          refine s_val rfl rfl (r_fa rfl fo86_1 rfl) ?_
          refine s_val rfl rfl (r_ld rfl ty3 rfl (H.cellI 0 rfl rfl)) ?_
          refine s_val rfl rfl (r_eq rfl rfl rfl) ?_
          refine s_val rfl rfl (r_mv rfl rfl) ?_
          refine s_dec (d := 28) (p := p.a = 0) rfl (fun h6 => ?_) (fun h6 => ?_)
          · skip
            refine s_val rfl rfl (r_fa rfl fo86_2 rfl) ?_
            refine s_val rfl rfl (r_ld rfl ty9 rfl (H.cellI 0 rfl rfl)) ?_
            refine s_val rfl rfl (r_lenS rfl un9 rfl) ?_
            refine s_val rfl rfl (r_le rfl rfl rfl) ?_
            refine s_val rfl rfl (r_pickT rfl rfl rfl) ?_
            refine s_val rfl rfl (r_as rfl rfl) ?_
            refine s_nil ?_
            refine q_then ?_
            refine c_env [(2, .pointer (some ⟨b1, 0, none⟩)), (4, .bool (decide (((p.s.size : Nat) : Int) ≤ 64)))] ⟨rfl, rfl, trivial⟩ ?_
            refine c_ret ?_
            refine q_blockR ?_
            refine q_thenR ?_
            refine q_ret1 rfl rfl ?_
            replace H := H.keep 0
            exact fin ⟨congrArg Value.bool (decide_eq_decide.2 (by unfold goodI; omega)), rfl⟩ H
          · skip
            refine s_no rfl rfl ?_
            refine s_no rfl rfl ?_
            refine s_no rfl rfl ?_
            refine s_no rfl rfl ?_
            refine s_val rfl rfl (r_pickF rfl rfl rfl) ?_
            refine s_val rfl rfl (r_as rfl rfl) ?_
            refine s_nil ?_
            refine q_then ?_
            refine c_env [(2, .pointer (some ⟨b1, 0, none⟩)), (4, .bool false)] ⟨rfl, rfl, trivial⟩ ?_
            refine c_ret ?_
            refine q_blockR ?_
            refine q_thenR ?_
            refine q_ret1 rfl rfl ?_
            replace H := H.keep 0
            exact fin ⟨congrArg Value.bool (decide_eq_false (by unfold goodI; omega)).symm, rfl⟩ H
        · skip
          refine c_seq ?_
          refine c_reg ?_
          refine s_val rfl rfl (r_fa rfl fo86_0 rfl) ?_
          refine s_val rfl rfl (r_ld rfl ty3 rfl (H.cellI 0 rfl rfl)) ?_
          refine s_val rfl rfl (r_eq rfl rfl rfl) ?_
          refine s_val rfl rfl (r_mv rfl rfl) ?_
          refine s_dec (d := 38) (p := p.op = 19) rfl (fun h7 => ?_) (fun h7 => ?_)
          · skip
            refine s_no rfl rfl ?_
            refine s_no rfl rfl ?_
            refine s_no rfl rfl ?_
            refine s_val rfl rfl (r_pickT rfl rfl rfl) ?_
            refine s_val rfl rfl (r_as rfl rfl) ?_
            refine s_nil ?_
            refine q_then ?_
            refine c_env [(1, .int .i64 n), (2, .pointer (some ⟨b1, 0, none⟩)), (4, .bool false), (34, .bool true)] ⟨rfl, rfl, rfl, rfl, trivial⟩ ?_
            refine c_yes rfl ?_
            refine c_seq ?_
            refine c_reg ?_
            refine s_val rfl rfl (r_fa rfl fo86_1 rfl) ?_
            refine s_val rfl rfl (r_ld rfl ty3 rfl (H.cellI 0 rfl rfl)) ?_
            refine s_val rfl rfl (r_ge rfl rfl rfl) ?_
            refine s_val rfl rfl (r_mv rfl rfl) ?_
            refine s_dec (d := 46) (p := (0 : Int) ≤ p.a) rfl (fun h8 => ?_) (fun h8 => ?_)
            · skip
              refine s_val rfl rfl (r_fa rfl fo86_1 rfl) ?_
              refine s_val rfl rfl (r_ld rfl ty3 rfl (H.cellI 0 rfl rfl)) ?_
              refine s_val rfl rfl (r_mv rfl rfl) ?_
              refine s_val rfl rfl (r_le rfl rfl rfl) ?_
              refine s_val rfl rfl (r_pickT rfl rfl rfl) ?_
              refine s_val rfl rfl (r_mv rfl rfl) ?_
              refine s_dec (d := 52) (p := p.a ≤ n) rfl (fun h9 => ?_) (fun h9 => ?_)
              · skip
                refine s_val rfl rfl (r_fa rfl fo86_2 rfl) ?_
                refine s_val rfl rfl (r_ld rfl ty9 rfl (H.cellI 0 rfl rfl)) ?_
                refine s_val rfl rfl (r_eqS rfl rfl rfl) ?_
                refine s_val rfl rfl (r_pickT rfl rfl rfl) ?_
                refine s_val rfl rfl (r_as rfl rfl) ?_
                refine s_nil ?_
                refine q_then ?_
                refine c_env [(2, .pointer (some ⟨b1, 0, none⟩)), (4, .bool (decide (p.s = (⟨#[]⟩ : ByteArray))))] ⟨rfl, rfl, trivial⟩ ?_
                refine c_ret ?_
                refine q_blockR ?_
                refine q_thenR ?_
                refine q_ret1 rfl rfl ?_
                replace H := H.keep 0
                exact fin ⟨congrArg Value.bool (decide_eq_decide.2 (by rw [nil_size]; unfold goodI; omega)), rfl⟩ H
              · skip
                refine s_no rfl rfl ?_
                refine s_no rfl rfl ?_
                refine s_no rfl rfl ?_
                refine s_val rfl rfl (r_pickF rfl rfl rfl) ?_
                refine s_val rfl rfl (r_as rfl rfl) ?_
                refine s_nil ?_
                refine q_then ?_
                refine c_env [(2, .pointer (some ⟨b1, 0, none⟩)), (4, .bool false)] ⟨rfl, rfl, trivial⟩ ?_
                refine c_ret ?_
                refine q_blockR ?_
                refine q_thenR ?_
                refine q_ret1 rfl rfl ?_
                replace H := H.keep 0
                exact fin ⟨congrArg Value.bool (decide_eq_false (by unfold goodI; omega)).symm, rfl⟩ H
            · skip
              refine s_no rfl rfl ?_
              refine s_no rfl rfl ?_
              refine s_no rfl rfl ?_
              refine s_no rfl rfl ?_
              refine s_val rfl rfl (r_pickF rfl rfl rfl) ?_
              refine s_val rfl rfl (r_mv rfl rfl) ?_
              refine s_no rfl rfl ?_
              refine s_no rfl rfl ?_
              refine s_no rfl rfl ?_
              refine s_val rfl rfl (r_pickF rfl rfl rfl) ?_
              refine s_val rfl rfl (r_as rfl rfl) ?_
              refine s_nil ?_
              refine q_then ?_
              refine c_env [(2, .pointer (some ⟨b1, 0, none⟩)), (4, .bool false)] ⟨rfl, rfl, trivial⟩ ?_
              refine c_ret ?_
              refine q_blockR ?_
              refine q_thenR ?_
              refine q_ret1 rfl rfl ?_
              replace H := H.keep 0
              exact fin ⟨congrArg Value.bool (decide_eq_false (by unfold goodI; omega)).symm, rfl⟩ H
          · skip
            refine s_val rfl rfl (r_fa rfl fo86_0 rfl) ?_
            refine s_val rfl rfl (r_ld rfl ty3 rfl (H.cellI 0 rfl rfl)) ?_
            refine s_val rfl rfl (r_eq rfl rfl rfl) ?_
            refine s_val rfl rfl (r_pickF rfl rfl rfl) ?_
            refine s_val rfl rfl (r_as rfl rfl) ?_
            refine s_nil ?_
            refine q_then ?_
            refine c_env [(1, .int .i64 n), (2, .pointer (some ⟨b1, 0, none⟩)), (4, .bool false), (34, .bool (decide (p.op = 20)))] ⟨rfl, rfl, rfl, rfl, trivial⟩ ?_
            refine c_dec (p := p.op = 20) rfl (fun h10 => ?_) (fun h10 => ?_)
            · skip
              refine c_seq ?_
              refine c_reg ?_
              refine s_val rfl rfl (r_fa rfl fo86_1 rfl) ?_
              refine s_val rfl rfl (r_ld rfl ty3 rfl (H.cellI 0 rfl rfl)) ?_
              refine s_val rfl rfl (r_ge rfl rfl rfl) ?_
              refine s_val rfl rfl (r_mv rfl rfl) ?_
              refine s_dec (d := 46) (p := (0 : Int) ≤ p.a) rfl (fun h11 => ?_) (fun h11 => ?_)
              · skip
                refine s_val rfl rfl (r_fa rfl fo86_1 rfl) ?_
                refine s_val rfl rfl (r_ld rfl ty3 rfl (H.cellI 0 rfl rfl)) ?_
                refine s_val rfl rfl (r_mv rfl rfl) ?_
                refine s_val rfl rfl (r_le rfl rfl rfl) ?_
                refine s_val rfl rfl (r_pickT rfl rfl rfl) ?_
                refine s_val rfl rfl (r_mv rfl rfl) ?_
                refine s_dec (d := 52) (p := p.a ≤ n) rfl (fun h12 => ?_) (fun h12 => ?_)
                · skip
                  refine s_val rfl rfl (r_fa rfl fo86_2 rfl) ?_
                  refine s_val rfl rfl (r_ld rfl ty9 rfl (H.cellI 0 rfl rfl)) ?_
                  refine s_val rfl rfl (r_eqS rfl rfl rfl) ?_
                  refine s_val rfl rfl (r_pickT rfl rfl rfl) ?_
                  refine s_val rfl rfl (r_as rfl rfl) ?_
                  refine s_nil ?_
                  refine q_then ?_
                  refine c_env [(2, .pointer (some ⟨b1, 0, none⟩)), (4, .bool (decide (p.s = (⟨#[]⟩ : ByteArray))))] ⟨rfl, rfl, trivial⟩ ?_
                  refine c_ret ?_
                  refine q_blockR ?_
                  refine q_thenR ?_
                  refine q_ret1 rfl rfl ?_
                  replace H := H.keep 0
                  exact fin ⟨congrArg Value.bool (decide_eq_decide.2 (by rw [nil_size]; unfold goodI; omega)), rfl⟩ H
                · skip
                  refine s_no rfl rfl ?_
                  refine s_no rfl rfl ?_
                  refine s_no rfl rfl ?_
                  refine s_val rfl rfl (r_pickF rfl rfl rfl) ?_
                  refine s_val rfl rfl (r_as rfl rfl) ?_
                  refine s_nil ?_
                  refine q_then ?_
                  refine c_env [(2, .pointer (some ⟨b1, 0, none⟩)), (4, .bool false)] ⟨rfl, rfl, trivial⟩ ?_
                  refine c_ret ?_
                  refine q_blockR ?_
                  refine q_thenR ?_
                  refine q_ret1 rfl rfl ?_
                  replace H := H.keep 0
                  exact fin ⟨congrArg Value.bool (decide_eq_false (by unfold goodI; omega)).symm, rfl⟩ H
              · skip
                refine s_no rfl rfl ?_
                refine s_no rfl rfl ?_
                refine s_no rfl rfl ?_
                refine s_no rfl rfl ?_
                refine s_val rfl rfl (r_pickF rfl rfl rfl) ?_
                refine s_val rfl rfl (r_mv rfl rfl) ?_
                refine s_no rfl rfl ?_
                refine s_no rfl rfl ?_
                refine s_no rfl rfl ?_
                refine s_val rfl rfl (r_pickF rfl rfl rfl) ?_
                refine s_val rfl rfl (r_as rfl rfl) ?_
                refine s_nil ?_
                refine q_then ?_
                refine c_env [(2, .pointer (some ⟨b1, 0, none⟩)), (4, .bool false)] ⟨rfl, rfl, trivial⟩ ?_
                refine c_ret ?_
                refine q_blockR ?_
                refine q_thenR ?_
                refine q_ret1 rfl rfl ?_
                replace H := H.keep 0
                exact fin ⟨congrArg Value.bool (decide_eq_false (by unfold goodI; omega)).symm, rfl⟩ H
            · skip
              refine c_seq ?_
              refine c_reg ?_
              refine s_val rfl rfl (r_fa rfl fo86_0 rfl) ?_
              refine s_val rfl rfl (r_ld rfl ty3 rfl (H.cellI 0 rfl rfl)) ?_
              refine s_val rfl rfl (r_eq rfl rfl rfl) ?_
              refine s_val rfl rfl (r_mv rfl rfl) ?_
              refine s_dec (d := 61) (p := p.op = 21) rfl (fun h13 => ?_) (fun h13 => ?_)
              · skip
                refine s_no rfl rfl ?_
                refine s_no rfl rfl ?_
                refine s_no rfl rfl ?_
                refine s_val rfl rfl (r_pickT rfl rfl rfl) ?_
                refine s_val rfl rfl (r_as rfl rfl) ?_
                refine s_nil ?_
                refine q_then ?_
                refine c_env [(2, .pointer (some ⟨b1, 0, none⟩)), (4, .bool false), (57, .bool true)] ⟨rfl, rfl, rfl, trivial⟩ ?_
                refine c_yes rfl ?_
                refine c_seq ?_
                refine c_reg ?_
                refine s_val rfl rfl (r_fa rfl fo86_1 rfl) ?_
                refine s_val rfl rfl (r_ld rfl ty3 rfl (H.cellI 0 rfl rfl)) ?_
                refine s_val rfl rfl (r_ge rfl rfl rfl) ?_
                refine s_val rfl rfl (r_mv rfl rfl) ?_
                refine s_dec (d := 69) (p := (0 : Int) ≤ p.a) rfl (fun h14 => ?_) (fun h14 => ?_)
                · skip
                  refine s_val rfl rfl (r_fa rfl fo86_1 rfl) ?_
                  refine s_val rfl rfl (r_ld rfl ty3 rfl (H.cellI 0 rfl rfl)) ?_
                  refine s_val rfl rfl (r_le rfl rfl rfl) ?_
                  refine s_val rfl rfl (r_pickT rfl rfl rfl) ?_
                  refine s_val rfl rfl (r_mv rfl rfl) ?_
                  refine s_dec (d := 74) (p := p.a ≤ 7) rfl (fun h15 => ?_) (fun h15 => ?_)
                  · skip
                    refine s_val rfl rfl (r_fa rfl fo86_2 rfl) ?_
                    refine s_val rfl rfl (r_ld rfl ty9 rfl (H.cellI 0 rfl rfl)) ?_
                    refine s_val rfl rfl (r_eqS rfl rfl rfl) ?_
                    refine s_val rfl rfl (r_pickT rfl rfl rfl) ?_
                    refine s_val rfl rfl (r_as rfl rfl) ?_
                    refine s_nil ?_
                    refine q_then ?_
                    refine c_env [(2, .pointer (some ⟨b1, 0, none⟩)), (4, .bool (decide (p.s = (⟨#[]⟩ : ByteArray))))] ⟨rfl, rfl, trivial⟩ ?_
                    refine c_ret ?_
                    refine q_blockR ?_
                    refine q_thenR ?_
                    refine q_ret1 rfl rfl ?_
                    replace H := H.keep 0
                    exact fin ⟨congrArg Value.bool (decide_eq_decide.2 (by rw [nil_size]; unfold goodI; omega)), rfl⟩ H
                  · skip
                    refine s_no rfl rfl ?_
                    refine s_no rfl rfl ?_
                    refine s_no rfl rfl ?_
                    refine s_val rfl rfl (r_pickF rfl rfl rfl) ?_
                    refine s_val rfl rfl (r_as rfl rfl) ?_
                    refine s_nil ?_
                    refine q_then ?_
                    refine c_env [(2, .pointer (some ⟨b1, 0, none⟩)), (4, .bool false)] ⟨rfl, rfl, trivial⟩ ?_
                    refine c_ret ?_
                    refine q_blockR ?_
                    refine q_thenR ?_
                    refine q_ret1 rfl rfl ?_
                    replace H := H.keep 0
                    exact fin ⟨congrArg Value.bool (decide_eq_false (by unfold goodI; omega)).symm, rfl⟩ H
                · skip
                  refine s_no rfl rfl ?_
                  refine s_no rfl rfl ?_
                  refine s_no rfl rfl ?_
                  refine s_val rfl rfl (r_pickF rfl rfl rfl) ?_
                  refine s_val rfl rfl (r_mv rfl rfl) ?_
                  refine s_no rfl rfl ?_
                  refine s_no rfl rfl ?_
                  refine s_no rfl rfl ?_
                  refine s_val rfl rfl (r_pickF rfl rfl rfl) ?_
                  refine s_val rfl rfl (r_as rfl rfl) ?_
                  refine s_nil ?_
                  refine q_then ?_
                  refine c_env [(2, .pointer (some ⟨b1, 0, none⟩)), (4, .bool false)] ⟨rfl, rfl, trivial⟩ ?_
                  refine c_ret ?_
                  refine q_blockR ?_
                  refine q_thenR ?_
                  refine q_ret1 rfl rfl ?_
                  replace H := H.keep 0
                  exact fin ⟨congrArg Value.bool (decide_eq_false (by unfold goodI; omega)).symm, rfl⟩ H
              · skip
                refine s_val rfl rfl (r_fa rfl fo86_0 rfl) ?_
                refine s_val rfl rfl (r_ld rfl ty3 rfl (H.cellI 0 rfl rfl)) ?_
                refine s_val rfl rfl (r_eq rfl rfl rfl) ?_
                refine s_val rfl rfl (r_pickF rfl rfl rfl) ?_
                refine s_val rfl rfl (r_as rfl rfl) ?_
                refine s_nil ?_
                refine q_then ?_
                refine c_env [(2, .pointer (some ⟨b1, 0, none⟩)), (4, .bool false), (57, .bool (decide (p.op = 22)))] ⟨rfl, rfl, rfl, trivial⟩ ?_
                refine c_dec (p := p.op = 22) rfl (fun h16 => ?_) (fun h16 => ?_)
                · skip
                  refine c_seq ?_
                  refine c_reg ?_
                  refine s_val rfl rfl (r_fa rfl fo86_1 rfl) ?_
                  refine s_val rfl rfl (r_ld rfl ty3 rfl (H.cellI 0 rfl rfl)) ?_
                  refine s_val rfl rfl (r_ge rfl rfl rfl) ?_
                  refine s_val rfl rfl (r_mv rfl rfl) ?_
                  refine s_dec (d := 69) (p := (0 : Int) ≤ p.a) rfl (fun h17 => ?_) (fun h17 => ?_)
                  · skip
                    refine s_val rfl rfl (r_fa rfl fo86_1 rfl) ?_
                    refine s_val rfl rfl (r_ld rfl ty3 rfl (H.cellI 0 rfl rfl)) ?_
                    refine s_val rfl rfl (r_le rfl rfl rfl) ?_
                    refine s_val rfl rfl (r_pickT rfl rfl rfl) ?_
                    refine s_val rfl rfl (r_mv rfl rfl) ?_
                    refine s_dec (d := 74) (p := p.a ≤ 7) rfl (fun h18 => ?_) (fun h18 => ?_)
                    · skip
                      refine s_val rfl rfl (r_fa rfl fo86_2 rfl) ?_
                      refine s_val rfl rfl (r_ld rfl ty9 rfl (H.cellI 0 rfl rfl)) ?_
                      refine s_val rfl rfl (r_eqS rfl rfl rfl) ?_
                      refine s_val rfl rfl (r_pickT rfl rfl rfl) ?_
                      refine s_val rfl rfl (r_as rfl rfl) ?_
                      refine s_nil ?_
                      refine q_then ?_
                      refine c_env [(2, .pointer (some ⟨b1, 0, none⟩)), (4, .bool (decide (p.s = (⟨#[]⟩ : ByteArray))))] ⟨rfl, rfl, trivial⟩ ?_
                      refine c_ret ?_
                      refine q_blockR ?_
                      refine q_thenR ?_
                      refine q_ret1 rfl rfl ?_
                      replace H := H.keep 0
                      exact fin ⟨congrArg Value.bool (decide_eq_decide.2 (by rw [nil_size]; unfold goodI; omega)), rfl⟩ H
                    · skip
                      refine s_no rfl rfl ?_
                      refine s_no rfl rfl ?_
                      refine s_no rfl rfl ?_
                      refine s_val rfl rfl (r_pickF rfl rfl rfl) ?_
                      refine s_val rfl rfl (r_as rfl rfl) ?_
                      refine s_nil ?_
                      refine q_then ?_
                      refine c_env [(2, .pointer (some ⟨b1, 0, none⟩)), (4, .bool false)] ⟨rfl, rfl, trivial⟩ ?_
                      refine c_ret ?_
                      refine q_blockR ?_
                      refine q_thenR ?_
                      refine q_ret1 rfl rfl ?_
                      replace H := H.keep 0
                      exact fin ⟨congrArg Value.bool (decide_eq_false (by unfold goodI; omega)).symm, rfl⟩ H
                  · skip
                    refine s_no rfl rfl ?_
                    refine s_no rfl rfl ?_
                    refine s_no rfl rfl ?_
                    refine s_val rfl rfl (r_pickF rfl rfl rfl) ?_
                    refine s_val rfl rfl (r_mv rfl rfl) ?_
                    refine s_no rfl rfl ?_
                    refine s_no rfl rfl ?_
                    refine s_no rfl rfl ?_
                    refine s_val rfl rfl (r_pickF rfl rfl rfl) ?_
                    refine s_val rfl rfl (r_as rfl rfl) ?_
                    refine s_nil ?_
                    refine q_then ?_
                    refine c_env [(2, .pointer (some ⟨b1, 0, none⟩)), (4, .bool false)] ⟨rfl, rfl, trivial⟩ ?_
                    refine c_ret ?_
                    refine q_blockR ?_
                    refine q_thenR ?_
                    refine q_ret1 rfl rfl ?_
                    replace H := H.keep 0
                    exact fin ⟨congrArg Value.bool (decide_eq_false (by unfold goodI; omega)).symm, rfl⟩ H
                · skip
                  refine c_skip ?_
                  refine q_blockN ?_
                  refine q_then ?_
                  refine c_env [(2, .pointer (some ⟨b1, 0, none⟩)), (4, .bool false)] ⟨rfl, rfl, trivial⟩ ?_
                  refine c_seq ?_
                  refine c_reg ?_
                  refine s_val rfl rfl (r_fa rfl fo86_1 rfl) ?_
                  refine s_val rfl rfl (r_ld rfl ty3 rfl (H.cellI 0 rfl rfl)) ?_
                  refine s_val rfl rfl (r_eq rfl rfl rfl) ?_
                  refine s_val rfl rfl (r_mv rfl rfl) ?_
                  refine s_dec (d := 82) (p := p.a = 0) rfl (fun h19 => ?_) (fun h19 => ?_)
                  · skip
                    refine s_val rfl rfl (r_fa rfl fo86_2 rfl) ?_
                    refine s_val rfl rfl (r_ld rfl ty9 rfl (H.cellI 0 rfl rfl)) ?_
                    refine s_val rfl rfl (r_eqS rfl rfl rfl) ?_
                    refine s_val rfl rfl (r_pickT rfl rfl rfl) ?_
                    refine s_val rfl rfl (r_as rfl rfl) ?_
                    refine s_nil ?_
                    refine q_then ?_
                    refine c_env [(4, .bool (decide (p.s = (⟨#[]⟩ : ByteArray))))] ⟨rfl, trivial⟩ ?_
                    refine c_ret ?_
                    refine q_ret1 rfl rfl ?_
                    replace H := H.keep 0
                    exact fin ⟨congrArg Value.bool (decide_eq_decide.2 (by rw [nil_size]; unfold goodI; omega)), rfl⟩ H
                  · skip
                    refine s_no rfl rfl ?_
                    refine s_no rfl rfl ?_
                    refine s_no rfl rfl ?_
                    refine s_val rfl rfl (r_pickF rfl rfl rfl) ?_
                    refine s_val rfl rfl (r_as rfl rfl) ?_
                    refine s_nil ?_
                    refine q_then ?_
                    refine c_env [(4, .bool false)] ⟨rfl, trivial⟩ ?_
                    refine c_ret ?_
                    refine q_ret1 rfl rfl ?_
                    replace H := H.keep 0
                    exact fin ⟨congrArg Value.bool (decide_eq_false (by unfold goodI; omega)).symm, rfl⟩ H

set_option maxHeartbeats 1000000 in
theorem pbad_ok (vxs : Value) (xs : List Ins) :
    Cn Try.prog 69 [vxs] [] [rsl kIns vxs xs] (fun v Bs => v = .int .i64 (badI xs) ∧ Bs = []) := by
  intro w0 F0 H
  obtain ⟨A1, c2, rfl, hc3, hm4, hp5⟩ := H.fR 0 rfl
  refine enter (args := [.slice A1 xs.length c2]) Try.func69 rfl rfl (Nat.le_of_ble_eq_true rfl) ?_
  refine c_seq ?_
  refine c_reg ?_
  refine s_val rfl rfl (r_as rfl rfl) ?_
  refine s_nil ?_
  refine q_then ?_
  replace H : Hd _ _ _ [] [rsl kIns (.slice A1 xs.length c2) xs] := H
  refine c_env [(0, .slice A1 xs.length c2), (2, .int .i64 0)] ⟨rfl, rfl, trivial⟩ ?_
  refine c_seq ?_
  refine c_seq ?_
  refine c_reg ?_
  refine s_val rfl rfl (r_mv rfl rfl) ?_
  refine s_val rfl rfl (r_mv rfl rfl) ?_
  refine s_val rfl rfl (r_lenL rfl un79 rfl) ?_
  refine s_val rfl rfl (r_min (z := min ((xs.length : Nat) : Int) 40) rfl rfl rfl rfl) ?_
  refine s_val rfl rfl (r_cutP rfl sl79 rfl rfl (by omega) (by omega) rfl) ?_
  refine s_val rfl rfl (r_lenL rfl un79 rfl) ?_
  refine s_val rfl rfl (r_mv rfl rfl) ?_
  refine s_nil ?_
  refine q_then ?_
  refine c_env [(0, .slice A1 xs.length c2), (2, .int .i64 0), (9, .slice A1 ((min ((xs.length : Nat) : Int) 40).toNat) c2), (10, .int .i64 (((min ((xs.length : Nat) : Int) 40).toNat : Nat) : Int)), (11, .int .i64 0)] ⟨rfl, rfl, rfl, rfl, rfl, trivial⟩ ?_
  refine c_block ?_
  refine c_loop (σ := Nat) (fun k => [(0, .slice A1 xs.length c2), (9, .slice A1 ((min ((xs.length : Nat) : Int) 40).toNat) c2), (10, .int .i64 (((min ((xs.length : Nat) : Int) 40).toNat : Nat) : Int)), (11, .int .i64 ((k : Nat) : Int))]) (fun k w => (Hd w0 F0 w [] [rsl kIns (.slice A1 xs.length c2) xs]) ∧ (k ≤ xs.length ∧ k ≤ 40) ∧ (∀ y ∈ xs.take k, badT xs.length y = false)) (fun k => xs.length - k) 0 ⟨rfl, rfl, rfl, rfl, trivial⟩ ⟨H, by omega, by simp⟩ ?_
  rintro k w ⟨H, hk, hn⟩
  refine c_seq ?_
  refine c_reg ?_
  refine s_val rfl rfl (r_lt rfl rfl rfl) ?_
  refine s_nil ?_
  refine q_then ?_
  refine c_env [(0, .slice A1 xs.length c2), (9, .slice A1 ((min ((xs.length : Nat) : Int) 40).toNat) c2), (10, .int .i64 (((min ((xs.length : Nat) : Int) 40).toNat : Nat) : Int)), (11, .int .i64 ((k : Nat) : Int)), (12, .bool (decide (((k : Nat) : Int) < (((min ((xs.length : Nat) : Int) 40).toNat : Nat) : Int))))] ⟨rfl, rfl, rfl, rfl, rfl, trivial⟩ ?_
  refine c_seq ?_
  refine c_dec (p := ((k : Nat) : Int) < (((min ((xs.length : Nat) : Int) 40).toNat : Nat) : Int)) rfl (fun h6 => ?_) (fun h6 => ?_)
  · skip
    refine c_skip ?_
    refine q_then ?_
    refine c_env [(0, .slice A1 xs.length c2), (9, .slice A1 ((min ((xs.length : Nat) : Int) 40).toNat) c2), (10, .int .i64 (((min ((xs.length : Nat) : Int) 40).toNat : Nat) : Int)), (11, .int .i64 ((k : Nat) : Int))] ⟨rfl, rfl, rfl, rfl, trivial⟩ ?_
    refine c_seq ?_
    refine c_block ?_
    refine c_seq ?_
    refine c_reg ?_
    refine s_val rfl rfl (r_mv rfl rfl) ?_
    obtain ⟨x7, hx8⟩ : ∃ z9, xs[k]? = some z9 := ⟨_, List.getElem?_eq_getElem (show k < xs.length by omega)⟩
    have th9 := H.thR 0 rfl hx8
    refine s_val rfl rfl (r_iaE (p := oOf A1 + k * 3) rfl sl79 rfl rfl (by omega) (by omega) th9 rfl) ?_
    refine s_val rfl rfl (r_ldA (cs := [.int .i64 x7.op, .int .i64 x7.a, .string x7.s]) rfl ty86 rfl rfl (H.elsR 0 rfl hx8 rfl)) ?_
    refine s_alloc rfl rfl rfl zr86 H (fun b10 w H => ?_)
    refine s_val rfl rfl (r_as rfl rfl) ?_
    refine s_st rfl rfl rfl ty86 rfl rfl H rfl (Nat.le_of_ble_eq_true rfl) (fun u hu => by simp [Value.cells] at hu; rcases hu with rfl | rfl | rfl <;> rfl) (fun w H => ?_)
    replace H : Hd _ _ _ [blk b10 [.int .i64 x7.op, .int .i64 x7.a, .string x7.s] 86] [rsl kIns (.slice A1 xs.length c2) xs] := H
    refine s_nil ?_
    refine q_then ?_
    refine c_env [(0, .slice A1 xs.length c2), (3, .int .i64 ((k : Nat) : Int)), (4, .pointer (some ⟨b10, 0, none⟩)), (9, .slice A1 ((min ((xs.length : Nat) : Int) 40).toNat) c2), (10, .int .i64 (((min ((xs.length : Nat) : Int) 40).toNat : Nat) : Int)), (11, .int .i64 ((k : Nat) : Int))] ⟨rfl, rfl, rfl, rfl, rfl, rfl, trivial⟩ ?_
    refine c_seq ?_
    refine c_reg ?_
    refine s_val rfl rfl (r_ldA (cs := [.int .i64 x7.op, .int .i64 x7.a, .string x7.s]) rfl ty86 rfl rfl (H.cellsI 0 rfl rfl)) ?_
    refine s_val rfl rfl (r_mv rfl rfl) ?_
    refine s_val rfl rfl (r_lenL rfl un79 rfl) ?_
    refine sc (pmay_ok x7 ((xs.length : Nat) : Int)) H l0 rfl rfl (e_fn kn95 rfl rfl) ?_
    rintro _ _ w ⟨rfl, rfl⟩ H
    refine s_val rfl rfl (r_notP rfl rfl) ?_
    refine s_nil ?_
    refine q_then ?_
    refine c_env [(0, .slice A1 xs.length c2), (3, .int .i64 ((k : Nat) : Int)), (9, .slice A1 ((min ((xs.length : Nat) : Int) 40).toNat) c2), (10, .int .i64 (((min ((xs.length : Nat) : Int) 40).toNat : Nat) : Int)), (11, .int .i64 ((k : Nat) : Int)), (20, .bool (decide (¬ (goodI x7 ((xs.length : Nat) : Int)))))] ⟨rfl, rfl, rfl, rfl, rfl, rfl, trivial⟩ ?_
    refine c_dec (p := ¬ (goodI x7 ((xs.length : Nat) : Int))) rfl (fun h11 => ?_) (fun h11 => ?_)
    · skip
      refine c_seq ?_
      refine c_reg ?_
      refine s_val rfl rfl (r_mv rfl rfl) ?_
      refine s_val rfl rfl (r_as rfl rfl) ?_
      refine s_nil ?_
      refine q_then ?_
      refine c_env [(0, .slice A1 xs.length c2), (2, .int .i64 ((k : Nat) : Int)), (9, .slice A1 ((min ((xs.length : Nat) : Int) 40).toNat) c2), (10, .int .i64 (((min ((xs.length : Nat) : Int) 40).toNat : Nat) : Int)), (11, .int .i64 ((k : Nat) : Int))] ⟨rfl, rfl, rfl, rfl, rfl, trivial⟩ ?_
      refine c_ret ?_
      refine q_blockR ?_
      refine q_thenR ?_
      refine q_thenR ?_
      refine q_blockR ?_
      refine q_thenR ?_
      refine q_ret1 rfl rfl ?_
      replace H := H.keep 0
      exact fin ⟨by rw [badI_hit (by omega) hn hx8 (by simpa using h11)], rfl⟩ H
    · skip
      refine c_skip ?_
      refine q_blockN ?_
      refine q_then ?_
      refine c_env [(0, .slice A1 xs.length c2), (9, .slice A1 ((min ((xs.length : Nat) : Int) 40).toNat) c2), (10, .int .i64 (((min ((xs.length : Nat) : Int) 40).toNat : Nat) : Int)), (11, .int .i64 ((k : Nat) : Int))] ⟨rfl, rfl, rfl, rfl, trivial⟩ ?_
      refine c_reg ?_
      refine s_val rfl rfl (r_add (z := ((k + 1 : Nat) : Int)) rfl rfl rfl (by rw [w64 (by omega) (by omega)]; omega)) ?_
      refine s_val rfl rfl (r_mv rfl rfl) ?_
      refine s_nil ?_
      replace H := H.keep 0
      exact q_round (s := k) (k + 1) ⟨rfl, rfl, rfl, rfl, trivial⟩ ⟨H, by omega, badT_good hn hx8 (by simpa using h11)⟩ (by (try dsimp only); omega)
  · skip
    refine c_exit ?_
    refine q_thenE ?_
    refine q_thenE ?_
    refine q_blockE ?_
    refine q_then ?_
    refine c_env [(0, .slice A1 xs.length c2)] ⟨rfl, trivial⟩ ?_
    refine c_seq ?_
    refine c_seq ?_
    refine c_reg ?_
    refine s_val rfl rfl (r_mv rfl rfl) ?_
    refine s_val rfl rfl (r_lenL rfl un79 rfl) ?_
    refine s_val rfl rfl (r_gt rfl rfl rfl) ?_
    refine s_nil ?_
    refine q_then ?_
    refine c_env [(25, .bool (decide ((40 : Int) < ((xs.length : Nat) : Int))))] ⟨rfl, trivial⟩ ?_
    refine c_dec (p := (40 : Int) < ((xs.length : Nat) : Int)) rfl (fun h12 => ?_) (fun h12 => ?_)
    · skip
      refine c_seq ?_
      refine c_reg ?_
      refine s_val rfl rfl (r_as rfl rfl) ?_
      refine s_nil ?_
      refine q_then ?_
      refine c_env [(2, .int .i64 40)] ⟨rfl, trivial⟩ ?_
      refine c_ret ?_
      refine q_thenR ?_
      refine q_ret1 rfl rfl ?_
      exact fin ⟨by rw [badI_none (k := k) (by omega) hn, if_pos (by omega)], rfl⟩ H
    · skip
      refine c_skip ?_
      refine q_then ?_
      refine c_env [] trivial ?_
      refine c_seq ?_
      refine c_reg ?_
      refine s_val rfl rfl (r_as rfl rfl) ?_
      refine s_nil ?_
      refine q_then ?_
      refine c_env [(2, .int .i64 (-1))] ⟨rfl, trivial⟩ ?_
      refine c_ret ?_
      refine q_ret1 rfl rfl ?_
      exact fin ⟨by rw [badI_none (k := k) (by omega) hn, if_neg (by omega)], rfl⟩ H

set_option maxHeartbeats 1000000 in
theorem rbad_ok (vxs : Value) (xs : List Ins) :
    Cn Try.prog 70 [vxs] [] [rsl kIns vxs xs] (fun v Bs => v = .int .i64 (badI xs) ∧ Bs = []) := by
  intro w0 F0 H
  obtain ⟨A1, c2, rfl, hc3, hm4, hp5⟩ := H.fR 0 rfl
  refine enter (args := [.slice A1 xs.length c2]) Try.func70 rfl rfl (Nat.le_of_ble_eq_true rfl) ?_
  refine c_seq ?_
  refine c_reg ?_
  refine s_val rfl rfl (r_as rfl rfl) ?_
  refine s_nil ?_
  refine q_then ?_
  replace H : Hd _ _ _ [] [rsl kIns (.slice A1 xs.length c2) xs] := H
  refine c_env [(0, .slice A1 xs.length c2), (2, .int .i64 0)] ⟨rfl, rfl, trivial⟩ ?_
  refine c_seq ?_
  refine c_seq ?_
  refine c_reg ?_
  refine s_val rfl rfl (r_as rfl rfl) ?_
  refine s_nil ?_
  refine q_then ?_
  refine c_env [(0, .slice A1 xs.length c2), (2, .int .i64 0), (3, .int .i64 0)] ⟨rfl, rfl, rfl, trivial⟩ ?_
  refine c_block ?_
  refine c_loop (σ := Nat) (fun k => [(0, .slice A1 xs.length c2), (3, .int .i64 ((k : Nat) : Int))]) (fun k w => (Hd w0 F0 w [] [rsl kIns (.slice A1 xs.length c2) xs]) ∧ (k ≤ xs.length ∧ k ≤ 40) ∧ (∀ y ∈ xs.take k, badT xs.length y = false)) (fun k => xs.length - k) 0 ⟨rfl, rfl, trivial⟩ ⟨H, by omega, by simp⟩ ?_
  rintro k w ⟨H, hk, hn⟩
  refine c_seq ?_
  refine c_seq ?_
  refine c_reg ?_
  refine s_val rfl rfl (r_mv rfl rfl) ?_
  refine s_val rfl rfl (r_mv rfl rfl) ?_
  refine s_val rfl rfl (r_lenL rfl un79 rfl) ?_
  refine s_val rfl rfl (r_lt rfl rfl rfl) ?_
  refine s_val rfl rfl (r_mv rfl rfl) ?_
  refine s_dec (d := 8) (p := ((k : Nat) : Int) < ((xs.length : Nat) : Int)) rfl (fun h6 => ?_) (fun h6 => ?_)
  · skip
    refine s_val rfl rfl (r_mv rfl rfl) ?_
    refine s_val rfl rfl (r_lt rfl rfl rfl) ?_
    refine s_val rfl rfl (r_pickT rfl rfl rfl) ?_
    refine s_nil ?_
    refine q_then ?_
    refine c_env [(0, .slice A1 xs.length c2), (3, .int .i64 ((k : Nat) : Int)), (11, .bool (decide (((k : Nat) : Int) < 40)))] ⟨rfl, rfl, rfl, trivial⟩ ?_
    refine c_dec (p := ((k : Nat) : Int) < 40) rfl (fun h7 => ?_) (fun h7 => ?_)
    · skip
      refine c_skip ?_
      refine q_then ?_
      refine c_env [(0, .slice A1 xs.length c2), (3, .int .i64 ((k : Nat) : Int))] ⟨rfl, rfl, trivial⟩ ?_
      refine c_seq ?_
      refine c_block ?_
      refine c_seq ?_
      refine c_reg ?_
      refine s_val rfl rfl (r_mv rfl rfl) ?_
      refine s_val rfl rfl (r_mv rfl rfl) ?_
      obtain ⟨x8, hx9⟩ : ∃ z9, xs[k]? = some z9 := ⟨_, List.getElem?_eq_getElem (show k < xs.length by omega)⟩
      have th10 := H.thR 0 rfl hx9
      refine s_val rfl rfl (r_iaE (p := oOf A1 + k * 3) rfl sl79 rfl rfl (by omega) (by omega) th10 rfl) ?_
      refine s_val rfl rfl (r_ldA (cs := [.int .i64 x8.op, .int .i64 x8.a, .string x8.s]) rfl ty86 rfl rfl (H.elsR 0 rfl hx9 rfl)) ?_
      refine s_val rfl rfl (r_mv rfl rfl) ?_
      refine s_val rfl rfl (r_lenL rfl un79 rfl) ?_
      refine sc (pgood_ok x8 ((xs.length : Nat) : Int)) H l0 rfl rfl (e_fn kn96 rfl rfl) ?_
      rintro _ _ w ⟨rfl, rfl⟩ H
      refine s_val rfl rfl (r_notP rfl rfl) ?_
      refine s_nil ?_
      refine q_then ?_
      refine c_env [(0, .slice A1 xs.length c2), (3, .int .i64 ((k : Nat) : Int)), (21, .bool (decide (¬ (goodI x8 ((xs.length : Nat) : Int)))))] ⟨rfl, rfl, rfl, trivial⟩ ?_
      refine c_dec (p := ¬ (goodI x8 ((xs.length : Nat) : Int))) rfl (fun h11 => ?_) (fun h11 => ?_)
      · skip
        refine c_seq ?_
        refine c_reg ?_
        refine s_val rfl rfl (r_mv rfl rfl) ?_
        refine s_val rfl rfl (r_as rfl rfl) ?_
        refine s_nil ?_
        refine q_then ?_
        refine c_env [(0, .slice A1 xs.length c2), (2, .int .i64 ((k : Nat) : Int)), (3, .int .i64 ((k : Nat) : Int))] ⟨rfl, rfl, rfl, trivial⟩ ?_
        refine c_ret ?_
        refine q_blockR ?_
        refine q_thenR ?_
        refine q_thenR ?_
        refine q_blockR ?_
        refine q_thenR ?_
        refine q_ret1 rfl rfl ?_
        exact fin ⟨by rw [badI_hit (by omega) hn hx9 (by simpa using h11)], rfl⟩ H
      · skip
        refine c_skip ?_
        refine q_blockN ?_
        refine q_then ?_
        refine c_env [(0, .slice A1 xs.length c2), (3, .int .i64 ((k : Nat) : Int))] ⟨rfl, rfl, trivial⟩ ?_
        refine c_reg ?_
        refine s_val rfl rfl (r_mv rfl rfl) ?_
        refine s_val rfl rfl (r_add (z := ((k + 1 : Nat) : Int)) rfl rfl rfl (by rw [w64 (by omega) (by omega)]; omega)) ?_
        refine s_val rfl rfl (r_as rfl rfl) ?_
        refine s_nil ?_
        exact q_round (s := k) (k + 1) ⟨rfl, rfl, trivial⟩ ⟨H, by omega, badT_good hn hx9 (by simpa using h11)⟩ (by (try dsimp only); omega)
    · skip
      refine c_exit ?_
      refine q_thenE ?_
      refine q_thenE ?_
      refine q_blockE ?_
      refine q_then ?_
      refine c_env [(0, .slice A1 xs.length c2)] ⟨rfl, trivial⟩ ?_
      refine c_seq ?_
      refine c_seq ?_
      refine c_reg ?_
      refine s_val rfl rfl (r_mv rfl rfl) ?_
      refine s_val rfl rfl (r_lenL rfl un79 rfl) ?_
      refine s_val rfl rfl (r_gt rfl rfl rfl) ?_
      refine s_nil ?_
      refine q_then ?_
      refine c_env [(25, .bool (decide ((40 : Int) < ((xs.length : Nat) : Int))))] ⟨rfl, trivial⟩ ?_
      refine c_dec (p := (40 : Int) < ((xs.length : Nat) : Int)) rfl (fun h12 => ?_) (fun h12 => ?_)
      · skip
        refine c_seq ?_
        refine c_reg ?_
        refine s_val rfl rfl (r_as rfl rfl) ?_
        refine s_nil ?_
        refine q_then ?_
        refine c_env [(2, .int .i64 40)] ⟨rfl, trivial⟩ ?_
        refine c_ret ?_
        refine q_thenR ?_
        refine q_ret1 rfl rfl ?_
        exact fin ⟨by rw [badI_none (k := k) (by omega) hn, if_pos (by omega)], rfl⟩ H
      · skip
        refine c_skip ?_
        refine q_then ?_
        refine c_env [] trivial ?_
        refine c_seq ?_
        refine c_reg ?_
        refine s_val rfl rfl (r_as rfl rfl) ?_
        refine s_nil ?_
        refine q_then ?_
        refine c_env [(2, .int .i64 (-1))] ⟨rfl, trivial⟩ ?_
        refine c_ret ?_
        refine q_ret1 rfl rfl ?_
        exact fin ⟨by rw [badI_none (k := k) (by omega) hn, if_neg (by omega)], rfl⟩ H
  · skip
    refine s_no rfl rfl ?_
    refine s_no rfl rfl ?_
    refine s_val rfl rfl (r_pickF rfl rfl rfl) ?_
    refine s_nil ?_
    refine q_then ?_
    refine c_env [(0, .slice A1 xs.length c2), (3, .int .i64 ((k : Nat) : Int)), (11, .bool false)] ⟨rfl, rfl, rfl, trivial⟩ ?_
    refine c_no rfl ?_
    refine c_exit ?_
    refine q_thenE ?_
    refine q_thenE ?_
    refine q_blockE ?_
    refine q_then ?_
    refine c_env [(0, .slice A1 xs.length c2)] ⟨rfl, trivial⟩ ?_
    refine c_seq ?_
    refine c_seq ?_
    refine c_reg ?_
    refine s_val rfl rfl (r_mv rfl rfl) ?_
    refine s_val rfl rfl (r_lenL rfl un79 rfl) ?_
    refine s_val rfl rfl (r_gt rfl rfl rfl) ?_
    refine s_nil ?_
    refine q_then ?_
    refine c_env [(25, .bool (decide ((40 : Int) < ((xs.length : Nat) : Int))))] ⟨rfl, trivial⟩ ?_
    refine c_dec (p := (40 : Int) < ((xs.length : Nat) : Int)) rfl (fun h13 => ?_) (fun h13 => ?_)
    · skip
      refine c_seq ?_
      refine c_reg ?_
      refine s_val rfl rfl (r_as rfl rfl) ?_
      refine s_nil ?_
      refine q_then ?_
      refine c_env [(2, .int .i64 40)] ⟨rfl, trivial⟩ ?_
      refine c_ret ?_
      refine q_thenR ?_
      refine q_ret1 rfl rfl ?_
      exact fin ⟨by rw [badI_none (k := k) (by omega) hn, if_pos (by omega)], rfl⟩ H
    · skip
      refine c_skip ?_
      refine q_then ?_
      refine c_env [] trivial ?_
      refine c_seq ?_
      refine c_reg ?_
      refine s_val rfl rfl (r_as rfl rfl) ?_
      refine s_nil ?_
      refine q_then ?_
      refine c_env [(2, .int .i64 (-1))] ⟨rfl, trivial⟩ ?_
      refine c_ret ?_
      refine q_ret1 rfl rfl ?_
      exact fin ⟨by rw [badI_none (k := k) (by omega) hn, if_neg (by omega)], rfl⟩ H

set_option maxHeartbeats 1000000 in
theorem pMay_ok (vxs : Value) (xs : List Ins) :
    Cn Try.prog 71 [vxs] [] [rsl kIns vxs xs] (fun v Bs => v = .bool (decide (badI xs < 0)) ∧ Bs = []) := by
  intro w0 F0 H
  obtain ⟨A1, c2, rfl, hc3, hm4, hp5⟩ := H.fR 0 rfl
  refine enter (args := [.slice A1 xs.length c2]) Try.func71 rfl rfl (Nat.le_of_ble_eq_true rfl) ?_
  refine c_seq ?_
  refine c_reg ?_
  refine s_val rfl rfl (r_as rfl rfl) ?_
  refine s_nil ?_
  refine q_then ?_
  replace H : Hd _ _ _ [] [rsl kIns (.slice A1 xs.length c2) xs] := H
  refine c_env [(0, .slice A1 xs.length c2), (2, .bool false)] ⟨rfl, rfl, trivial⟩ ?_
  refine c_seq ?_
  refine c_reg ?_
  refine s_val rfl rfl (r_mv rfl rfl) ?_
  refine sc (pbad_ok (.slice A1 xs.length c2) xs) H (lR 0 rfl l0) rfl rfl (e_fn kn69 rfl rfl) ?_
  rintro _ _ w ⟨rfl, rfl⟩ H
  refine s_val rfl rfl (r_lt rfl rfl rfl) ?_
  refine s_val rfl rfl (r_as rfl rfl) ?_
  refine s_nil ?_
  refine q_then ?_
  refine c_env [(2, .bool (decide ((badI xs) < 0)))] ⟨rfl, trivial⟩ ?_
  refine c_ret ?_
  refine q_ret1 rfl rfl ?_
  exact fin ⟨rfl, rfl⟩ H

end Go.Proofs.Ytnaaahpmnhoabaa.X
