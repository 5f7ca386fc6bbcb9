/- The machine: what a program tells. -/
import Derived.Test.YtlpgdkbokakniaaGreatDoorV6
set_option linter.unusedVariables false
set_option linter.unusedSimpArgs false
namespace Go.Proofs.YtlpgdkbokakniaaGreatDoor.X
open Go
set_option maxHeartbeats 1000000 in
theorem vmRun_ok (vp : Value) (p : List Ins) (key : ByteArray) (vv : Value) (vals : List ByteArray) (fuel : Int) (hpa : ∀ i ∈ p, In64 i.a) (hfu : In64 fuel) :
    Cn Tryz.prog 54 [vp, .string key, vv, .int .i64 fuel] [] [rsl kIns vp p, rsl kStr vv vals, gl] (fun v Bs => ∃ u, v = .tuple #[u, .int .i64 (runM dg p key vals fuel).2] ∧ Bs = [osl kPair u (runM dg p key vals fuel).1]) := by
  intro w0 F0 H
  refine enter (args := [vp, .string key, vv, .int .i64 fuel]) Tryz.func54 rfl rfl (Nat.le_of_ble_eq_true rfl) ?_
  refine c_seq ?_
  refine c_reg ?_
  refine s_val rfl rfl (r_as rfl rfl) ?_
  refine s_val rfl rfl (r_as rfl rfl) ?_
  refine s_nil ?_
  refine q_then ?_
  refine c_env [(0, vp), (1, .string key), (2, vv), (3, .int .i64 fuel), (8, .slice none 0 0), (9, .int .i64 0)] ⟨rfl, rfl, rfl, rfl, rfl, rfl, trivial⟩ ?_
  refine c_seq ?_
  by_cases hb : ¬ badI p < 0 ∨ fuel < 0
  · skip
    refine c_reg ?_
    refine s_val rfl rfl (r_mv rfl rfl) ?_
    refine s_val rfl rfl (r_mv rfl rfl) ?_
    refine s_val rfl rfl (r_mv rfl rfl) ?_
    refine s_val rfl rfl (r_mv rfl rfl) ?_
    refine sc (play_ok vp p key vv vals fuel hpa hfu) H (lR 0 rfl (lR 1 rfl (lR 2 rfl l0))) rfl rfl (e_fn kn71 rfl rfl) ?_
    rintro _ _ w ht H
    obtain ⟨_, rfl, rfl⟩ := ht.resolve_right (fun h => h.1 hb)
    refine s_val rfl rfl (r_mv rfl rfl) ?_
    refine s_val rfl rfl (r_ex rfl rfl rfl) ?_
    refine s_val rfl rfl (r_ex rfl rfl rfl) ?_
    refine s_val rfl rfl (r_as rfl rfl) ?_
    refine s_val rfl rfl (r_as rfl rfl) ?_
    refine s_nil ?_
    refine q_then ?_
    replace H : Hd _ _ _ [] [rsl kIns vp p, rsl kStr vv vals, gl] := H
    refine c_env [(8, .slice none 0 0), (9, .int .i64 0), (10, .pointer none), (11, .int .i64 2)] ⟨rfl, rfl, rfl, rfl, trivial⟩ ?_
    refine c_seq ?_
    refine c_seq ?_
    refine c_reg ?_
    refine s_val rfl rfl (r_mv rfl rfl) ?_
    refine s_val rfl rfl (r_ne rfl rfl rfl) ?_
    refine s_nil ?_
    refine q_then ?_
    refine c_env [(8, .slice none 0 0), (9, .int .i64 0), (10, .pointer none), (11, .int .i64 2), (21, .bool true)] ⟨rfl, rfl, rfl, rfl, rfl, trivial⟩ ?_
    refine c_yes rfl ?_
    refine c_seq ?_
    refine c_reg ?_
    refine s_val rfl rfl (r_mv rfl rfl) ?_
    refine s_val rfl rfl (r_as rfl rfl) ?_
    refine s_val rfl rfl (r_as rfl rfl) ?_
    refine s_nil ?_
    refine q_then ?_
    refine c_env [(8, .slice none 0 0), (9, .int .i64 2), (10, .pointer none)] ⟨rfl, rfl, rfl, trivial⟩ ?_
    refine c_ret ?_
    refine q_thenR ?_
    refine q_ret2 rfl rfl rfl ?_
    have e : runM dg p key vals fuel = ([], 2) := if_pos hb
    replace H := H.newnil kPair
    replace H : Hd _ _ _ [osl kPair (.slice none 0 0) []] [rsl kIns vp p, rsl kStr vv vals, gl] := H
    exact fin ⟨_, by rw [e], by rw [e]⟩ H
  · skip
    refine c_reg ?_
    refine s_val rfl rfl (r_mv rfl rfl) ?_
    refine s_val rfl rfl (r_mv rfl rfl) ?_
    refine s_val rfl rfl (r_mv rfl rfl) ?_
    refine s_val rfl rfl (r_mv rfl rfl) ?_
    refine sc (play_ok vp p key vv vals fuel hpa hfu) H (lR 0 rfl (lR 1 rfl (lR 2 rfl l0))) rfl rfl (e_fn kn71 rfl rfl) ?_
    rintro _ _ w ht H
    obtain ⟨_, r, mb, sv, tv, vv2, k, rfl, rfl⟩ := ht.resolve_left (fun h => hb h.1)
    refine s_val rfl rfl (r_mv rfl rfl) ?_
    refine s_val rfl rfl (r_ex rfl rfl rfl) ?_
    refine s_val rfl rfl (r_ex rfl rfl rfl) ?_
    refine s_val rfl rfl (r_as rfl rfl) ?_
    refine s_val rfl rfl (r_as rfl rfl) ?_
    refine s_nil ?_
    refine q_then ?_
    replace H : Hd _ _ _ [blk r (runC vp key vv2 (min fuel 2000) ((playM dg p key (min fuel 2000).toNat (vm0 vals)).1.pos) k ((playM dg p key (min fuel 2000).toNat (vm0 vals)).1.halted) sv ((playM dg p key (min fuel 2000).toNat (vm0 vals)).1.g) tv (.map (some mb))) 108, osl kVal sv ((playM dg p key (min fuel 2000).toNat (vm0 vals)).1.stk), osl kPair tv ((playM dg p key (min fuel 2000).toNat (vm0 vals)).1.told), digsP mb] [rsl kIns vp p, rsl kStr vv vals, gl] := H
    refine c_env [(8, .slice none 0 0), (9, .int .i64 0), (10, .pointer (some ⟨r, 0, none⟩)), (11, .int .i64 ((playM dg p key (min fuel 2000).toNat (vm0 vals)).2))] ⟨rfl, rfl, rfl, rfl, trivial⟩ ?_
    refine c_seq ?_
    refine c_seq ?_
    refine c_reg ?_
    refine s_val rfl rfl (r_mv rfl rfl) ?_
    refine s_val rfl rfl (r_ne rfl rfl rfl) ?_
    refine s_nil ?_
    refine q_then ?_
    refine c_env [(8, .slice none 0 0), (9, .int .i64 0), (10, .pointer (some ⟨r, 0, none⟩)), (11, .int .i64 ((playM dg p key (min fuel 2000).toNat (vm0 vals)).2)), (21, .bool (decide (((playM dg p key (min fuel 2000).toNat (vm0 vals)).2) ≠ 0)))] ⟨rfl, rfl, rfl, rfl, rfl, trivial⟩ ?_
    refine c_dec (p := ((playM dg p key (min fuel 2000).toNat (vm0 vals)).2) ≠ 0) rfl (fun h1 => ?_) (fun h1 => ?_)
    · skip
      refine c_seq ?_
      refine c_reg ?_
      refine s_val rfl rfl (r_mv rfl rfl) ?_
      refine s_val rfl rfl (r_as rfl rfl) ?_
      refine s_val rfl rfl (r_as rfl rfl) ?_
      refine s_nil ?_
      refine q_then ?_
      refine c_env [(8, .slice none 0 0), (9, .int .i64 ((playM dg p key (min fuel 2000).toNat (vm0 vals)).2)), (10, .pointer (some ⟨r, 0, none⟩))] ⟨rfl, rfl, rfl, trivial⟩ ?_
      refine c_ret ?_
      refine q_thenR ?_
      refine q_ret2 rfl rfl rfl ?_
      have e : runM dg p key vals fuel = ([], (playM dg p key (min fuel 2000).toNat (vm0 vals)).2) := by unfold runM; rw [if_neg hb, if_pos h1]
      replace H := H.keep 0
      replace H := H.newnil kPair
      replace H : Hd _ _ _ [osl kPair (.slice none 0 0) []] [rsl kIns vp p, rsl kStr vv vals, gl] := H
      exact fin ⟨_, by rw [e], by rw [e]⟩ H
    · skip
      refine c_skip ?_
      refine q_then ?_
      refine c_env [(8, .slice none 0 0), (9, .int .i64 0), (10, .pointer (some ⟨r, 0, none⟩))] ⟨rfl, rfl, rfl, trivial⟩ ?_
      refine c_seq ?_
      refine c_reg ?_
      refine s_val rfl rfl (r_mv rfl rfl) ?_
      refine s_val rfl rfl (r_nilP rfl rfl) ?_
      refine s_val rfl rfl (r_fa rfl fo108_9 rfl) ?_
      refine s_val rfl rfl (r_ld rfl ty23 rfl (H.cellI 0 rfl rfl)) ?_
      refine s_val rfl rfl (r_as rfl rfl) ?_
      refine s_val rfl rfl (r_as rfl rfl) ?_
      refine s_nil ?_
      refine q_then ?_
      refine c_env [(8, tv), (9, .int .i64 0)] ⟨rfl, rfl, trivial⟩ ?_
      refine c_ret ?_
      refine q_ret2 rfl rfl rfl ?_
      have e : runM dg p key vals fuel = ((playM dg p key (min fuel 2000).toNat (vm0 vals)).1.told, 0) := by unfold runM; rw [if_neg hb, if_neg h1]
      replace H := H.pick 2 rfl
      replace H := H.keep 1
      replace H : Hd _ _ _ [osl kPair tv ((playM dg p key (min fuel 2000).toNat (vm0 vals)).1.told)] [rsl kIns vp p, rsl kStr vv vals, gl] := H
      exact fin ⟨_, by rw [e], by rw [e]⟩ H

end Go.Proofs.YtlpgdkbokakniaaGreatDoor.X
