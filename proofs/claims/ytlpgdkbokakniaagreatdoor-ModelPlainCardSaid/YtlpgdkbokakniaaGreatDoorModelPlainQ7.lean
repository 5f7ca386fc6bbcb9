/- ModelPlain: texts F2, XJob, J1, J2, J3, joined by a program of ours; what nothing names is left out. -/
import Derived.Test.YtlpgdkbokakniaaGreatDoorModelPlainQ6
set_option linter.unusedVariables false
set_option linter.unusedSimpArgs false
namespace Go.Proofs.YtlpgdkbokakniaaGreatDoor.X
open Go
set_option maxHeartbeats 1000000 in
theorem eachF_ok (x : Pair) (kb : Nat) (key : ByteArray) :
    Cn Tryz.prog 57 [.agg #[.string x.key, .string x.val], .pointer (some ⟨kb, 0, none⟩)] [] [blk kb [.string key] 9] (fun v Bs => v = .bool (decide (x.key ≠ key)) ∧ Bs = []) := by
  intro w0 F0 H
  refine enter (args := [.agg #[.string x.key, .string x.val], .pointer (some ⟨kb, 0, none⟩)]) Tryz.func57 rfl rfl (Nat.le_of_ble_eq_true rfl) ?_
  refine c_seq ?_
  refine c_reg ?_
  refine s_box rfl rfl rfl rfl H (fun b1 w H => ?_)
  refine s_val rfl rfl (r_as rfl rfl) ?_
  refine s_nil ?_
  refine q_then ?_
  replace H : Hd _ _ _ [blk b1 [.string x.key, .string x.val] 56] [blk kb [.string key] 9] := H
  refine c_env [(1, .pointer (some ⟨kb, 0, none⟩)), (2, .pointer (some ⟨b1, 0, none⟩)), (3, .bool false)] ⟨rfl, rfl, rfl, trivial⟩ ?_
  refine c_seq ?_
  refine c_reg ?_
  refine s_val rfl rfl (r_fa rfl fo56_0 rfl) ?_
  refine s_val rfl rfl (r_ld rfl ty9 rfl (H.cellI 0 rfl rfl)) ?_
  refine s_val rfl rfl (r_ld rfl ty9 rfl (H.cellRI 0 rfl rfl)) ?_
  refine s_val rfl rfl (r_neS rfl rfl rfl) ?_
  refine s_val rfl rfl (r_as rfl rfl) ?_
  refine s_nil ?_
  refine q_then ?_
  refine c_env [(3, .bool (decide (x.key ≠ key)))] ⟨rfl, trivial⟩ ?_
  refine c_ret ?_
  refine q_ret1 rfl rfl ?_
  replace H := H.keep 0
  exact fin ⟨rfl, rfl⟩ H

set_option maxHeartbeats 4000000 in
theorem each_ok (vp : Value) (p : List Ins) (vps : Value) (ps : List Pair) (fuel : Int) (own : Bool) (hpa : ∀ i ∈ p, In64 i.a) (hfu : In64 fuel) (hb : ps.length ≤ 1000000) :
    Cn Tryz.prog 32 [vp, vps, .int .i64 fuel, .bool own] [] [rsl kIns vp p, rsl kPair vps ps, gl] (fun v Bs => ∃ u, v = .tuple #[u, .int .i64 (eachM dg p ps fuel own).2] ∧ Bs = [osl kPair u (eachM dg p ps fuel own).1]) := by
  intro w0 F0 H
  obtain ⟨A1, c2, rfl, hc3, hm4, hp5⟩ := H.fR 0 rfl
  obtain ⟨A6, c7, rfl, hc8, hm9, hp10⟩ := H.fR 1 rfl
  refine enter (args := [.slice A1 p.length c2, .slice A6 ps.length c7, .int .i64 fuel, .bool own]) Tryz.func32 rfl rfl (Nat.le_of_ble_eq_true rfl) ?_
  refine c_seq ?_
  refine c_reg ?_
  refine s_val rfl rfl (r_as rfl rfl) ?_
  refine s_val rfl rfl (r_as rfl rfl) ?_
  refine s_nil ?_
  refine q_then ?_
  replace H : Hd _ _ _ [] [rsl kIns (.slice A1 p.length c2) p, rsl kPair (.slice A6 ps.length c7) ps, gl] := H
  refine c_env [(0, .slice A1 p.length c2), (1, .slice A6 ps.length c7), (2, .int .i64 fuel), (3, .bool own), (8, .slice none 0 0), (9, .int .i64 0)] ⟨rfl, rfl, rfl, rfl, rfl, rfl, trivial⟩ ?_
  refine c_seq ?_
  refine c_reg ?_
  refine s_val rfl rfl (r_as rfl rfl) ?_
  refine s_nil ?_
  refine q_then ?_
  refine c_env [(0, .slice A1 p.length c2), (1, .slice A6 ps.length c7), (2, .int .i64 fuel), (3, .bool own), (8, .slice none 0 0), (9, .int .i64 0), (10, .slice none 0 0)] ⟨rfl, rfl, rfl, rfl, rfl, rfl, rfl, trivial⟩ ?_
  refine c_seq ?_
  refine c_reg ?_
  refine sc tallyNew_ok H l0 rfl rfl (e_fn kn52 rfl rfl) ?_
  rintro _ _ w ⟨b11, rfl, rfl⟩ H
  refine s_val rfl rfl (r_as rfl rfl) ?_
  refine s_nil ?_
  refine q_then ?_
  replace H : Hd _ _ _ [blk b11 [.int .i64 0, .int .i64 0, .int .i64 0, .int .i64 0, .int .i64 0, .int .i64 0, .int .i64 0, .int .i64 0] 96] [rsl kIns (.slice A1 p.length c2) p, rsl kPair (.slice A6 ps.length c7) ps, gl] := H
  refine c_env [(0, .slice A1 p.length c2), (1, .slice A6 ps.length c7), (2, .int .i64 fuel), (3, .bool own), (8, .slice none 0 0), (9, .int .i64 0), (10, .slice none 0 0), (11, .pointer (some ⟨b11, 0, none⟩))] ⟨rfl, rfl, rfl, rfl, rfl, rfl, rfl, rfl, trivial⟩ ?_
  refine c_seq ?_
  refine c_seq ?_
  refine c_reg ?_
  refine s_val rfl rfl (r_mv rfl rfl) ?_
  refine sc (pKeys_ok (.slice A6 ps.length c7) ps (by first | omega | decide)) H (lR 1 rfl l0) rfl rfl (e_fn kn53 rfl rfl) ?_
  rintro v12 _ w rfl H
  obtain ⟨A13, c14, rfl, hc15, hm16, hp17⟩ := H.fA 0 rfl
  refine s_val rfl rfl (r_lenL rfl un75 rfl) ?_
  refine s_val rfl rfl (r_mv rfl rfl) ?_
  refine s_nil ?_
  refine q_then ?_
  replace H : Hd _ _ _ [osl kStr (.slice A13 ((keysL ps).length) c14) (keysL ps), blk b11 [.int .i64 0, .int .i64 0, .int .i64 0, .int .i64 0, .int .i64 0, .int .i64 0, .int .i64 0, .int .i64 0] 96] [rsl kIns (.slice A1 p.length c2) p, rsl kPair (.slice A6 ps.length c7) ps, gl] := H
  refine c_env [(0, .slice A1 p.length c2), (1, .slice A6 ps.length c7), (2, .int .i64 fuel), (3, .bool own), (8, .slice none 0 0), (9, .int .i64 0), (10, .slice none 0 0), (11, .pointer (some ⟨b11, 0, none⟩)), (18, .slice A13 ((keysL ps).length) c14), (19, .int .i64 (((keysL ps).length : Nat) : Int)), (20, .int .i64 0)] ⟨rfl, rfl, rfl, rfl, rfl, rfl, rfl, rfl, rfl, rfl, rfl, trivial⟩ ?_
  refine c_block ?_
  replace H := H.newnil kPair
  replace H := H.pick 2 rfl
  replace H := H.pick 2 rfl
  replace H := H.pick 2 rfl
  refine c_loop (σ := Nat × Value × List Pair) (fun (i, q, out) => [(0, .slice A1 p.length c2), (1, .slice A6 ps.length c7), (2, .int .i64 fuel), (3, .bool own), (10, q), (11, .pointer (some ⟨b11, 0, none⟩)), (18, .slice A13 ((keysL ps).length) c14), (19, .int .i64 (((keysL ps).length : Nat) : Int)), (20, .int .i64 ((i : Nat) : Int))]) (fun (i, q, out) w => (Hd w0 F0 w [osl kPair q out, osl kStr (.slice A13 ((keysL ps).length) c14) (keysL ps), blk b11 [.int .i64 (out.length : Int), .int .i64 0, .int .i64 0, .int .i64 0, .int .i64 0, .int .i64 0, .int .i64 0, .int .i64 0] 96] [rsl kIns (.slice A1 p.length c2) p, rsl kPair (.slice A6 ps.length c7) ps, gl]) ∧ (i ≤ (keysL ps).length) ∧ (eachGo dg p ps fuel own ((keysL ps).drop i) out = eachM dg p ps fuel own) ∧ (out.length ≤ 40)) (fun (i, q, out) => (keysL ps).length - i) (0, .slice none 0 0, []) ⟨rfl, rfl, rfl, rfl, rfl, rfl, rfl, rfl, rfl, trivial⟩ ⟨H, Nat.zero_le _, rfl, Nat.zero_le _⟩ ?_
  rintro ⟨i, q, out⟩ w ⟨H, hi, hgo, ho⟩
  have hkl := keysL_len ps
  refine c_seq ?_
  refine c_reg ?_
  refine s_val rfl rfl (r_lt rfl rfl rfl) ?_
  refine s_nil ?_
  refine q_then ?_
  refine c_env [(0, .slice A1 p.length c2), (1, .slice A6 ps.length c7), (2, .int .i64 fuel), (3, .bool own), (10, q), (11, .pointer (some ⟨b11, 0, none⟩)), (18, .slice A13 ((keysL ps).length) c14), (19, .int .i64 (((keysL ps).length : Nat) : Int)), (20, .int .i64 ((i : Nat) : Int)), (21, .bool (decide (((i : Nat) : Int) < (((keysL ps).length : Nat) : Int))))] ⟨rfl, rfl, rfl, rfl, rfl, rfl, rfl, rfl, rfl, rfl, trivial⟩ ?_
  refine c_seq ?_
  refine c_dec (p := ((i : Nat) : Int) < (((keysL ps).length : Nat) : Int)) rfl (fun h18 => ?_) (fun h18 => ?_)
  · skip
    refine c_skip ?_
    refine q_then ?_
    refine c_env [(0, .slice A1 p.length c2), (1, .slice A6 ps.length c7), (2, .int .i64 fuel), (3, .bool own), (10, q), (11, .pointer (some ⟨b11, 0, none⟩)), (18, .slice A13 ((keysL ps).length) c14), (19, .int .i64 (((keysL ps).length : Nat) : Int)), (20, .int .i64 ((i : Nat) : Int))] ⟨rfl, rfl, rfl, rfl, rfl, rfl, rfl, rfl, rfl, trivial⟩ ?_
    refine c_seq ?_
    refine c_block ?_
    refine c_seq ?_
    refine c_reg ?_
    obtain ⟨x19, hx20⟩ : ∃ z9, (keysL ps)[i]? = some z9 := ⟨_, List.getElem?_eq_getElem (show i < (keysL ps).length by omega)⟩
    have th21 := H.thA 1 rfl hx20
    refine s_val rfl rfl (r_iaE (p := oOf A13 + i * 1) rfl sl75 rfl rfl (by omega) (by omega) th21 rfl) ?_
    refine s_val rfl rfl (r_ld rfl ty9 rfl (H.elA 1 rfl hx20 (q := 0) rfl rfl)) ?_
    refine s_alloc rfl rfl rfl zr9 H (fun b22 w H => ?_)
    refine s_st rfl rfl rfl ty9 rfl rfl H rfl (Nat.le_of_ble_eq_true rfl) (fun u hu => by simp [Value.cells] at hu; subst hu; rfl) (fun w H => ?_)
    replace H : Hd _ _ _ [blk b22 [.string x19] 9, osl kPair q out, osl kStr (.slice A13 ((keysL ps).length) c14) (keysL ps), blk b11 [.int .i64 (out.length : Int), .int .i64 0, .int .i64 0, .int .i64 0, .int .i64 0, .int .i64 0, .int .i64 0, .int .i64 0] 96] [rsl kIns (.slice A1 p.length c2) p, rsl kPair (.slice A6 ps.length c7) ps, gl] := H
    refine s_nil ?_
    refine q_then ?_
    refine c_env [(0, .slice A1 p.length c2), (1, .slice A6 ps.length c7), (2, .int .i64 fuel), (3, .bool own), (10, q), (11, .pointer (some ⟨b11, 0, none⟩)), (13, .pointer (some ⟨b22, 0, none⟩)), (18, .slice A13 ((keysL ps).length) c14), (19, .int .i64 (((keysL ps).length : Nat) : Int)), (20, .int .i64 ((i : Nat) : Int))] ⟨rfl, rfl, rfl, rfl, rfl, rfl, rfl, rfl, rfl, rfl, trivial⟩ ?_
    refine c_seq ?_
    replace H := H.pick 3 rfl
    replace H := H.pick 3 rfl
    replace H := H.pick 3 rfl
    replace H := H.pick 3 rfl
    replace H : Hd _ _ _ [blk b22 [.string x19] 9, osl kPair q out, osl kStr (.slice A13 ((keysL ps).length) c14) (keysL ps), blk b11 [.int .i64 (out.length : Int), .int .i64 0, .int .i64 0, .int .i64 0, .int .i64 0, .int .i64 0, .int .i64 0, .int .i64 0] 96] [rsl kIns (.slice A1 p.length c2) p, rsl kPair (.slice A6 ps.length c7) ps, gl] := H
    refine c_ord (.e 0 (.e 1 (.e 2 (.e 3 (.e 5 (.m 4 (.m 6 (.e 7 (.e 8 (.e 9 (.e 10 (.e 11 .z)))))))))))) (fun w => ∃ Ar, Hd w0 F0 w (blk b22 [.string x19] 9 :: osl kPair q out :: osl kStr (.slice A13 ((keysL ps).length) c14) (keysL ps) :: blk b11 [.int .i64 (out.length : Int), .int .i64 0, .int .i64 0, .int .i64 0, .int .i64 0, .int .i64 0, .int .i64 0, .int .i64 0] 96 :: Ar) [rsl kIns (.slice A1 p.length c2) p, rsl kPair (.slice A6 ps.length c7) ps, gl]) mo (by kernel_rfl) (fun w H => ⟨_, H⟩) H (fun w H => ?_)
    refine d_val rfl rfl rfl (fun w ⟨Ar, H⟩ => r_mv rfl rfl) ?_
    refine d_val rfl rfl rfl (fun w ⟨Ar, H⟩ => r_ld rfl ty9 rfl (H.cellI 0 rfl rfl)) ?_
    refine d_val rfl rfl rfl (fun w ⟨Ar, H⟩ => r_mv rfl rfl) ?_
    refine d_val rfl rfl rfl (fun w ⟨Ar, H⟩ => r_ld rfl ty9 rfl (H.cellI 0 rfl rfl)) ?_
    refine d_val rfl rfl rfl (fun w ⟨Ar, H⟩ => r_mv rfl rfl) ?_
    refine d_main rfl ?_
    refine sc (pOf_ok (.slice A6 ps.length c7) ps x19 (by first | omega | decide)) H (lR 1 rfl l0) rfl rfl (e_fn kn55 rfl rfl) ?_
    rintro v23 _ w rfl H
    replace H := H.pick 4 rfl
    replace H := H.pick 4 rfl
    replace H := H.pick 4 rfl
    replace H := H.pick 4 rfl
    replace H : Hd _ _ _ [blk b22 [.string x19] 9, osl kPair q out, osl kStr (.slice A13 ((keysL ps).length) c14) (keysL ps), blk b11 [.int .i64 (out.length : Int), .int .i64 0, .int .i64 0, .int .i64 0, .int .i64 0, .int .i64 0, .int .i64 0, .int .i64 0] 96, osl kStr v23 (ofL ps x19)] [rsl kIns (.slice A1 p.length c2) p, rsl kPair (.slice A6 ps.length c7) ps, gl] := H
    refine d_back ⟨_, H⟩ ?_
    refine d_main rfl ?_
    refine sc (vmRun_ok (.slice A1 p.length c2) p x19 v23 (ofL ps x19) fuel hpa hfu) H (lR 0 rfl (lA 4 rfl own_rd (lR 2 rfl l0))) rfl rfl (e_fn kn54 rfl rfl) ?_
    rintro _ _ w ⟨u24, rfl, rfl⟩ H
    have hrt := run_told dg p x19 (ofL ps x19) fuel
    replace H := H.pick 4 rfl
    replace H := H.pick 4 rfl
    replace H := H.pick 4 rfl
    replace H := H.pick 4 rfl
    replace H : Hd _ _ _ [blk b22 [.string x19] 9, osl kPair q out, osl kStr (.slice A13 ((keysL ps).length) c14) (keysL ps), blk b11 [.int .i64 (out.length : Int), .int .i64 0, .int .i64 0, .int .i64 0, .int .i64 0, .int .i64 0, .int .i64 0, .int .i64 0] 96, osl kPair u24 ((runM dg p x19 (ofL ps x19) fuel).1), osl kStr v23 (ofL ps x19)] [rsl kIns (.slice A1 p.length c2) p, rsl kPair (.slice A6 ps.length c7) ps, gl] := H
    refine d_back ⟨_, H⟩ ?_
    refine d_val rfl rfl rfl (fun w ⟨Ar, H⟩ => r_mv rfl rfl) ?_
    refine d_val rfl rfl rfl (fun w ⟨Ar, H⟩ => r_ex rfl rfl rfl) ?_
    refine d_val rfl rfl rfl (fun w ⟨Ar, H⟩ => r_ex rfl rfl rfl) ?_
    refine d_val rfl rfl rfl (fun w ⟨Ar, H⟩ => r_as rfl rfl) ?_
    refine d_val rfl rfl rfl (fun w ⟨Ar, H⟩ => r_as rfl rfl) ?_
    refine d_nil ?_
    refine q_then ?_
    refine c_env [(0, .slice A1 p.length c2), (1, .slice A6 ps.length c7), (2, .int .i64 fuel), (3, .bool own), (10, q), (11, .pointer (some ⟨b11, 0, none⟩)), (13, .pointer (some ⟨b22, 0, none⟩)), (14, u24), (15, .int .i64 ((runM dg p x19 (ofL ps x19) fuel).2)), (18, .slice A13 ((keysL ps).length) c14), (19, .int .i64 (((keysL ps).length : Nat) : Int)), (20, .int .i64 ((i : Nat) : Int))] ⟨rfl, rfl, rfl, rfl, rfl, rfl, rfl, rfl, rfl, rfl, rfl, rfl, trivial⟩ ?_
    refine c_seq ?_
    refine c_block ?_
    refine c_seq ?_
    refine c_reg ?_
    refine s_val rfl rfl (r_mv rfl rfl) ?_
    refine s_val rfl rfl (r_ne rfl rfl rfl) ?_
    refine s_val rfl rfl (r_as rfl rfl) ?_
    refine s_nil ?_
    refine q_then ?_
    refine c_env [(0, .slice A1 p.length c2), (1, .slice A6 ps.length c7), (2, .int .i64 fuel), (3, .bool own), (10, q), (11, .pointer (some ⟨b11, 0, none⟩)), (13, .pointer (some ⟨b22, 0, none⟩)), (14, u24), (15, .int .i64 ((runM dg p x19 (ofL ps x19) fuel).2)), (18, .slice A13 ((keysL ps).length) c14), (19, .int .i64 (((keysL ps).length : Nat) : Int)), (20, .int .i64 ((i : Nat) : Int)), (34, .bool (decide (((runM dg p x19 (ofL ps x19) fuel).2) ≠ 0)))] ⟨rfl, rfl, rfl, rfl, rfl, rfl, rfl, rfl, rfl, rfl, rfl, rfl, rfl, trivial⟩ ?_
    refine c_dec (p := ((runM dg p x19 (ofL ps x19) fuel).2) ≠ 0) rfl (fun h25 => ?_) (fun h25 => ?_)
    · skip
      refine c_seq ?_
      refine c_reg ?_
      refine s_val rfl rfl (r_mv rfl rfl) ?_
      refine s_val rfl rfl (r_as rfl rfl) ?_
      refine s_val rfl rfl (r_as rfl rfl) ?_
      refine s_nil ?_
      refine q_then ?_
      refine c_env [(0, .slice A1 p.length c2), (1, .slice A6 ps.length c7), (2, .int .i64 fuel), (3, .bool own), (8, .slice none 0 0), (9, .int .i64 ((runM dg p x19 (ofL ps x19) fuel).2)), (10, q), (11, .pointer (some ⟨b11, 0, none⟩)), (14, u24), (18, .slice A13 ((keysL ps).length) c14), (19, .int .i64 (((keysL ps).length : Nat) : Int)), (20, .int .i64 ((i : Nat) : Int))] ⟨rfl, rfl, rfl, rfl, rfl, rfl, rfl, rfl, rfl, rfl, rfl, rfl, trivial⟩ ?_
      refine c_ret ?_
      refine q_blockR ?_
      refine q_thenR ?_
      refine q_blockR ?_
      refine q_thenR ?_
      refine q_thenR ?_
      refine q_blockR ?_
      refine q_thenR ?_
      refine q_ret2 rfl rfl rfl ?_
      have e : eachM dg p ps fuel own = ([], (runM dg p x19 (ofL ps x19) fuel).2) := hgo.symm.trans (go_why hx20 h25)
      replace H := H.keep 0
      replace H := H.newnil kPair
      replace H : Hd _ _ _ [osl kPair (.slice none 0 0) []] [rsl kIns (.slice A1 p.length c2) p, rsl kPair (.slice A6 ps.length c7) ps, gl] := H
      exact fin ⟨_, by rw [e], by rw [e]⟩ H
    · skip
      refine c_seq ?_
      refine c_reg ?_
      refine s_val rfl rfl (r_mv rfl rfl) ?_
      refine s_val rfl rfl (r_mv rfl rfl) ?_
      refine s_boo (d := 40) (b := own) rfl (fun h26 => ?_) (fun h26 => ?_)
      · skip
        refine s_val rfl rfl (r_mv rfl rfl) ?_
        refine s_val rfl rfl (r_fn (fs := #[]) (cs := #[.pointer (some ⟨b22, 0, none⟩)]) rfl rfl rfl) ?_
        refine sc (containsFP_ok 57 [.pointer (some ⟨b22, 0, none⟩)] [blk b22 [.string x19] 9] (fun y => decide (y.key ≠ x19)) kn57 (fun y => eachF_ok y b22 x19) u24 (runM dg p x19 (ofL ps x19) fuel).1) H (lA 4 rfl own_rd (lA 0 rfl (fun _ h => h) l0)) rfl rfl (e_fn kn56 rfl rfl) ?_
        rintro _ _ w ⟨rfl, rfl⟩ H
        refine s_val rfl rfl (r_pickT rfl rfl rfl) ?_
        refine s_val rfl rfl (r_as rfl rfl) ?_
        refine s_nil ?_
        refine q_then ?_
        refine c_env [(0, .slice A1 p.length c2), (1, .slice A6 ps.length c7), (2, .int .i64 fuel), (3, .bool own), (10, q), (11, .pointer (some ⟨b11, 0, none⟩)), (14, u24), (18, .slice A13 ((keysL ps).length) c14), (19, .int .i64 (((keysL ps).length : Nat) : Int)), (20, .int .i64 ((i : Nat) : Int)), (38, .bool (otherKey x19 (runM dg p x19 (ofL ps x19) fuel).1))] ⟨rfl, rfl, rfl, rfl, rfl, rfl, rfl, rfl, rfl, rfl, rfl, trivial⟩ ?_
        refine c_cond (b := otherKey x19 (runM dg p x19 (ofL ps x19) fuel).1) rfl (fun h27 => ?_) (fun h27 => ?_)
        · skip
          refine c_seq ?_
          refine c_reg ?_
          refine s_val rfl rfl (r_as rfl rfl) ?_
          refine s_val rfl rfl (r_as rfl rfl) ?_
          refine s_nil ?_
          refine q_then ?_
          refine c_env [(0, .slice A1 p.length c2), (1, .slice A6 ps.length c7), (2, .int .i64 fuel), (3, .bool own), (8, .slice none 0 0), (9, .int .i64 6), (10, q), (11, .pointer (some ⟨b11, 0, none⟩)), (14, u24), (18, .slice A13 ((keysL ps).length) c14), (19, .int .i64 (((keysL ps).length : Nat) : Int)), (20, .int .i64 ((i : Nat) : Int))] ⟨rfl, rfl, rfl, rfl, rfl, rfl, rfl, rfl, rfl, rfl, rfl, rfl, trivial⟩ ?_
          refine c_ret ?_
          refine q_blockR ?_
          refine q_thenR ?_
          refine q_blockR ?_
          refine q_thenR ?_
          refine q_thenR ?_
          refine q_blockR ?_
          refine q_thenR ?_
          refine q_ret2 rfl rfl rfl ?_
          have e : eachM dg p ps fuel own = ([], 6) := hgo.symm.trans (go_key hx20 h25 h26 h27)
          replace H := H.keep 0
          replace H := H.newnil kPair
          replace H : Hd _ _ _ [osl kPair (.slice none 0 0) []] [rsl kIns (.slice A1 p.length c2) p, rsl kPair (.slice A6 ps.length c7) ps, gl] := H
          exact fin ⟨_, by rw [e], by rw [e]⟩ H
        · skip
          refine c_seq ?_
          refine c_reg ?_
          refine s_val rfl rfl (r_mv rfl rfl) ?_
          refine s_val rfl rfl (r_mv rfl rfl) ?_
          obtain ⟨A28, c29, rfl, hc30, hm31, hp32⟩ := H.fA 4 rfl
          refine s_val rfl rfl (r_lenL rfl un23 rfl) ?_
          replace H := H.pick 3 rfl
          replace H : Hd _ _ _ [blk b11 [.int .i64 (out.length : Int), .int .i64 0, .int .i64 0, .int .i64 0, .int .i64 0, .int .i64 0, .int .i64 0, .int .i64 0] 96, blk b22 [.string x19] 9, osl kPair q out, osl kStr (.slice A13 ((keysL ps).length) c14) (keysL ps), osl kPair (.slice A28 (((runM dg p x19 (ofL ps x19) fuel).1).length) c29) ((runM dg p x19 (ofL ps x19) fuel).1), osl kStr v23 (ofL ps x19)] [rsl kIns (.slice A1 p.length c2) p, rsl kPair (.slice A6 ps.length c7) ps, gl] := H
          refine sc (tallyAdd_ok b11 (out.length : Int) 0 0 0 0 0 0 0 ((((runM dg p x19 (ofL ps x19) fuel).1).length : Nat) : Int) (by omega) (by omega)) H l0 rfl rfl (e_fn kn58 rfl rfl) ?_
          rintro _ _ w ⟨rfl, rfl⟩ H
          refine s_val rfl rfl (r_gt rfl rfl rfl) ?_
          refine s_val rfl rfl (r_as rfl rfl) ?_
          refine s_nil ?_
          refine q_then ?_
          replace H : Hd _ _ _ [blk b11 [.int .i64 (min ((out.length : Int) + ((((runM dg p x19 (ofL ps x19) fuel).1).length : Nat) : Int)) 1099511627776), .int .i64 0, .int .i64 0, .int .i64 0, .int .i64 0, .int .i64 0, .int .i64 0, .int .i64 0] 96, blk b22 [.string x19] 9, osl kPair q out, osl kStr (.slice A13 ((keysL ps).length) c14) (keysL ps), osl kPair (.slice A28 (((runM dg p x19 (ofL ps x19) fuel).1).length) c29) ((runM dg p x19 (ofL ps x19) fuel).1), osl kStr v23 (ofL ps x19)] [rsl kIns (.slice A1 p.length c2) p, rsl kPair (.slice A6 ps.length c7) ps, gl] := H
          refine c_env [(0, .slice A1 p.length c2), (1, .slice A6 ps.length c7), (2, .int .i64 fuel), (3, .bool own), (10, q), (11, .pointer (some ⟨b11, 0, none⟩)), (14, .slice A28 (((runM dg p x19 (ofL ps x19) fuel).1).length) c29), (18, .slice A13 ((keysL ps).length) c14), (19, .int .i64 (((keysL ps).length : Nat) : Int)), (20, .int .i64 ((i : Nat) : Int)), (45, .bool (decide ((40 : Int) < (min ((out.length : Int) + ((((runM dg p x19 (ofL ps x19) fuel).1).length : Nat) : Int)) 1099511627776))))] ⟨rfl, rfl, rfl, rfl, rfl, rfl, rfl, rfl, rfl, rfl, rfl, trivial⟩ ?_
          refine c_dec (p := (40 : Int) < (min ((out.length : Int) + ((((runM dg p x19 (ofL ps x19) fuel).1).length : Nat) : Int)) 1099511627776)) rfl (fun h33 => ?_) (fun h33 => ?_)
          · skip
            refine c_seq ?_
            refine c_reg ?_
            refine s_val rfl rfl (r_as rfl rfl) ?_
            refine s_val rfl rfl (r_as rfl rfl) ?_
            refine s_nil ?_
            refine q_then ?_
            refine c_env [(0, .slice A1 p.length c2), (1, .slice A6 ps.length c7), (2, .int .i64 fuel), (3, .bool own), (8, .slice none 0 0), (9, .int .i64 5), (10, q), (11, .pointer (some ⟨b11, 0, none⟩)), (14, .slice A28 (((runM dg p x19 (ofL ps x19) fuel).1).length) c29), (18, .slice A13 ((keysL ps).length) c14), (19, .int .i64 (((keysL ps).length : Nat) : Int)), (20, .int .i64 ((i : Nat) : Int))] ⟨rfl, rfl, rfl, rfl, rfl, rfl, rfl, rfl, rfl, rfl, rfl, rfl, trivial⟩ ?_
            refine c_ret ?_
            refine q_blockR ?_
            refine q_thenR ?_
            refine q_blockR ?_
            refine q_thenR ?_
            refine q_thenR ?_
            refine q_blockR ?_
            refine q_thenR ?_
            refine q_ret2 rfl rfl rfl ?_
            have e : eachM dg p ps fuel own = ([], 5) := hgo.symm.trans (go_many hx20 h25 (fun h => by rw [h.2] at h27; cases h27) (by omega))
            replace H := H.keep 0
            replace H := H.newnil kPair
            replace H : Hd _ _ _ [osl kPair (.slice none 0 0) []] [rsl kIns (.slice A1 p.length c2) p, rsl kPair (.slice A6 ps.length c7) ps, gl] := H
            exact fin ⟨_, by rw [e], by rw [e]⟩ H
          · skip
            refine c_skip ?_
            refine q_blockN ?_
            refine q_then ?_
            refine c_env [(0, .slice A1 p.length c2), (1, .slice A6 ps.length c7), (2, .int .i64 fuel), (3, .bool own), (10, q), (11, .pointer (some ⟨b11, 0, none⟩)), (14, .slice A28 (((runM dg p x19 (ofL ps x19) fuel).1).length) c29), (18, .slice A13 ((keysL ps).length) c14), (19, .int .i64 (((keysL ps).length : Nat) : Int)), (20, .int .i64 ((i : Nat) : Int))] ⟨rfl, rfl, rfl, rfl, rfl, rfl, rfl, rfl, rfl, rfl, trivial⟩ ?_
            refine c_reg ?_
            refine s_val rfl rfl (r_mv rfl rfl) ?_
            refine s_val rfl rfl (r_mv rfl rfl) ?_
            replace H := H.pick 2 rfl
            refine s_appF (xs := out) (ys := (runM dg p x19 (ofL ps x19) fuel).1) rfl rfl rfl sl23 zr56 rfl (by decide) rfl rfl H (by omega) (fun F hA hR => own_rd F (hA _ (List.mem_of_getElem? (i := 3) rfl))) (fun v34 w H => ?_)
            refine s_val rfl rfl (r_as rfl rfl) ?_
            refine s_nil ?_
            refine q_blockN ?_
            refine q_then ?_
            replace H : Hd _ _ _ [osl kPair v34 (out ++ ((runM dg p x19 (ofL ps x19) fuel).1)), blk b11 [.int .i64 (min ((out.length : Int) + ((((runM dg p x19 (ofL ps x19) fuel).1).length : Nat) : Int)) 1099511627776), .int .i64 0, .int .i64 0, .int .i64 0, .int .i64 0, .int .i64 0, .int .i64 0, .int .i64 0] 96, blk b22 [.string x19] 9, osl kStr (.slice A13 ((keysL ps).length) c14) (keysL ps), osl kPair (.slice A28 (((runM dg p x19 (ofL ps x19) fuel).1).length) c29) ((runM dg p x19 (ofL ps x19) fuel).1), osl kStr v23 (ofL ps x19)] [rsl kIns (.slice A1 p.length c2) p, rsl kPair (.slice A6 ps.length c7) ps, gl] := H
            refine c_env [(0, .slice A1 p.length c2), (1, .slice A6 ps.length c7), (2, .int .i64 fuel), (3, .bool own), (10, v34), (11, .pointer (some ⟨b11, 0, none⟩)), (18, .slice A13 ((keysL ps).length) c14), (19, .int .i64 (((keysL ps).length : Nat) : Int)), (20, .int .i64 ((i : Nat) : Int))] ⟨rfl, rfl, rfl, rfl, rfl, rfl, rfl, rfl, rfl, trivial⟩ ?_
            refine c_reg ?_
            refine s_val rfl rfl (r_add (z := ((i + 1 : Nat) : Int)) rfl rfl rfl (by rw [w64 (by omega) (by omega)]; omega)) ?_
            refine s_val rfl rfl (r_mv rfl rfl) ?_
            refine s_nil ?_
            replace H := H.pick 1 rfl
            replace H := H.pick 3 rfl
            replace H := H.pick 2 rfl
            replace H := H.keep 3
            have hl2 : ((out ++ (runM dg p x19 (ofL ps x19) fuel).1).length : Int) = min ((out.length : Int) + ((((runM dg p x19 (ofL ps x19) fuel).1).length : Nat) : Int)) 1099511627776 := by rw [List.length_append]; omega
            replace H : Hd w0 F0 w [osl kPair v34 (out ++ ((runM dg p x19 (ofL ps x19) fuel).1)), osl kStr (.slice A13 ((keysL ps).length) c14) (keysL ps), blk b11 [.int .i64 ((out ++ (runM dg p x19 (ofL ps x19) fuel).1).length : Int), .int .i64 0, .int .i64 0, .int .i64 0, .int .i64 0, .int .i64 0, .int .i64 0, .int .i64 0] 96] [rsl kIns (.slice A1 p.length c2) p, rsl kPair (.slice A6 ps.length c7) ps, gl] := by rw [hl2]; exact H
            have hg2 := (go_on (out := out) hx20 h25 (fun h => by rw [h.2] at h27; cases h27) (by omega)).trans hgo
            have ho2 : (out ++ (runM dg p x19 (ofL ps x19) fuel).1).length ≤ 40 := by rw [List.length_append]; omega
            replace H := H.pick 2 rfl
            replace H := H.pick 2 rfl
            replace H := H.pick 2 rfl
            exact q_round (s := (i, undef, out)) (i + 1, v34, out ++ (runM dg p x19 (ofL ps x19) fuel).1) ⟨rfl, rfl, rfl, rfl, rfl, rfl, rfl, rfl, rfl, trivial⟩ ⟨H, by (try dsimp only); omega, hg2, ho2⟩ (by (try dsimp only); omega)
      · skip
        refine s_no rfl rfl ?_
        refine s_no rfl rfl ?_
        refine s_no rfl rfl ?_
        refine s_val rfl rfl (r_pickF rfl rfl rfl) ?_
        refine s_val rfl rfl (r_as rfl rfl) ?_
        refine s_nil ?_
        refine q_then ?_
        refine c_env [(0, .slice A1 p.length c2), (1, .slice A6 ps.length c7), (2, .int .i64 fuel), (3, .bool own), (10, q), (11, .pointer (some ⟨b11, 0, none⟩)), (14, u24), (18, .slice A13 ((keysL ps).length) c14), (19, .int .i64 (((keysL ps).length : Nat) : Int)), (20, .int .i64 ((i : Nat) : Int)), (38, .bool false)] ⟨rfl, rfl, rfl, rfl, rfl, rfl, rfl, rfl, rfl, rfl, rfl, trivial⟩ ?_
        refine c_no rfl ?_
        refine c_seq ?_
        refine c_reg ?_
        refine s_val rfl rfl (r_mv rfl rfl) ?_
        refine s_val rfl rfl (r_mv rfl rfl) ?_
        obtain ⟨A35, c36, rfl, hc37, hm38, hp39⟩ := H.fA 4 rfl
        refine s_val rfl rfl (r_lenL rfl un23 rfl) ?_
        replace H := H.pick 3 rfl
        replace H : Hd _ _ _ [blk b11 [.int .i64 (out.length : Int), .int .i64 0, .int .i64 0, .int .i64 0, .int .i64 0, .int .i64 0, .int .i64 0, .int .i64 0] 96, blk b22 [.string x19] 9, osl kPair q out, osl kStr (.slice A13 ((keysL ps).length) c14) (keysL ps), osl kPair (.slice A35 (((runM dg p x19 (ofL ps x19) fuel).1).length) c36) ((runM dg p x19 (ofL ps x19) fuel).1), osl kStr v23 (ofL ps x19)] [rsl kIns (.slice A1 p.length c2) p, rsl kPair (.slice A6 ps.length c7) ps, gl] := H
        refine sc (tallyAdd_ok b11 (out.length : Int) 0 0 0 0 0 0 0 ((((runM dg p x19 (ofL ps x19) fuel).1).length : Nat) : Int) (by omega) (by omega)) H l0 rfl rfl (e_fn kn58 rfl rfl) ?_
        rintro _ _ w ⟨rfl, rfl⟩ H
        refine s_val rfl rfl (r_gt rfl rfl rfl) ?_
        refine s_val rfl rfl (r_as rfl rfl) ?_
        refine s_nil ?_
        refine q_then ?_
        replace H : Hd _ _ _ [blk b11 [.int .i64 (min ((out.length : Int) + ((((runM dg p x19 (ofL ps x19) fuel).1).length : Nat) : Int)) 1099511627776), .int .i64 0, .int .i64 0, .int .i64 0, .int .i64 0, .int .i64 0, .int .i64 0, .int .i64 0] 96, blk b22 [.string x19] 9, osl kPair q out, osl kStr (.slice A13 ((keysL ps).length) c14) (keysL ps), osl kPair (.slice A35 (((runM dg p x19 (ofL ps x19) fuel).1).length) c36) ((runM dg p x19 (ofL ps x19) fuel).1), osl kStr v23 (ofL ps x19)] [rsl kIns (.slice A1 p.length c2) p, rsl kPair (.slice A6 ps.length c7) ps, gl] := H
        refine c_env [(0, .slice A1 p.length c2), (1, .slice A6 ps.length c7), (2, .int .i64 fuel), (3, .bool own), (10, q), (11, .pointer (some ⟨b11, 0, none⟩)), (14, .slice A35 (((runM dg p x19 (ofL ps x19) fuel).1).length) c36), (18, .slice A13 ((keysL ps).length) c14), (19, .int .i64 (((keysL ps).length : Nat) : Int)), (20, .int .i64 ((i : Nat) : Int)), (45, .bool (decide ((40 : Int) < (min ((out.length : Int) + ((((runM dg p x19 (ofL ps x19) fuel).1).length : Nat) : Int)) 1099511627776))))] ⟨rfl, rfl, rfl, rfl, rfl, rfl, rfl, rfl, rfl, rfl, rfl, trivial⟩ ?_
        refine c_dec (p := (40 : Int) < (min ((out.length : Int) + ((((runM dg p x19 (ofL ps x19) fuel).1).length : Nat) : Int)) 1099511627776)) rfl (fun h40 => ?_) (fun h40 => ?_)
        · skip
          refine c_seq ?_
          refine c_reg ?_
          refine s_val rfl rfl (r_as rfl rfl) ?_
          refine s_val rfl rfl (r_as rfl rfl) ?_
          refine s_nil ?_
          refine q_then ?_
          refine c_env [(0, .slice A1 p.length c2), (1, .slice A6 ps.length c7), (2, .int .i64 fuel), (3, .bool own), (8, .slice none 0 0), (9, .int .i64 5), (10, q), (11, .pointer (some ⟨b11, 0, none⟩)), (14, .slice A35 (((runM dg p x19 (ofL ps x19) fuel).1).length) c36), (18, .slice A13 ((keysL ps).length) c14), (19, .int .i64 (((keysL ps).length : Nat) : Int)), (20, .int .i64 ((i : Nat) : Int))] ⟨rfl, rfl, rfl, rfl, rfl, rfl, rfl, rfl, rfl, rfl, rfl, rfl, trivial⟩ ?_
          refine c_ret ?_
          refine q_blockR ?_
          refine q_thenR ?_
          refine q_blockR ?_
          refine q_thenR ?_
          refine q_thenR ?_
          refine q_blockR ?_
          refine q_thenR ?_
          refine q_ret2 rfl rfl rfl ?_
          have e : eachM dg p ps fuel own = ([], 5) := hgo.symm.trans (go_many hx20 h25 (fun h => by rw [h.1] at h26; cases h26) (by omega))
          replace H := H.keep 0
          replace H := H.newnil kPair
          replace H : Hd _ _ _ [osl kPair (.slice none 0 0) []] [rsl kIns (.slice A1 p.length c2) p, rsl kPair (.slice A6 ps.length c7) ps, gl] := H
          exact fin ⟨_, by rw [e], by rw [e]⟩ H
        · skip
          refine c_skip ?_
          refine q_blockN ?_
          refine q_then ?_
          refine c_env [(0, .slice A1 p.length c2), (1, .slice A6 ps.length c7), (2, .int .i64 fuel), (3, .bool own), (10, q), (11, .pointer (some ⟨b11, 0, none⟩)), (14, .slice A35 (((runM dg p x19 (ofL ps x19) fuel).1).length) c36), (18, .slice A13 ((keysL ps).length) c14), (19, .int .i64 (((keysL ps).length : Nat) : Int)), (20, .int .i64 ((i : Nat) : Int))] ⟨rfl, rfl, rfl, rfl, rfl, rfl, rfl, rfl, rfl, rfl, trivial⟩ ?_
          refine c_reg ?_
          refine s_val rfl rfl (r_mv rfl rfl) ?_
          refine s_val rfl rfl (r_mv rfl rfl) ?_
          replace H := H.pick 2 rfl
          refine s_appF (xs := out) (ys := (runM dg p x19 (ofL ps x19) fuel).1) rfl rfl rfl sl23 zr56 rfl (by decide) rfl rfl H (by omega) (fun F hA hR => own_rd F (hA _ (List.mem_of_getElem? (i := 3) rfl))) (fun v41 w H => ?_)
          refine s_val rfl rfl (r_as rfl rfl) ?_
          refine s_nil ?_
          refine q_blockN ?_
          refine q_then ?_
          replace H : Hd _ _ _ [osl kPair v41 (out ++ ((runM dg p x19 (ofL ps x19) fuel).1)), blk b11 [.int .i64 (min ((out.length : Int) + ((((runM dg p x19 (ofL ps x19) fuel).1).length : Nat) : Int)) 1099511627776), .int .i64 0, .int .i64 0, .int .i64 0, .int .i64 0, .int .i64 0, .int .i64 0, .int .i64 0] 96, blk b22 [.string x19] 9, osl kStr (.slice A13 ((keysL ps).length) c14) (keysL ps), osl kPair (.slice A35 (((runM dg p x19 (ofL ps x19) fuel).1).length) c36) ((runM dg p x19 (ofL ps x19) fuel).1), osl kStr v23 (ofL ps x19)] [rsl kIns (.slice A1 p.length c2) p, rsl kPair (.slice A6 ps.length c7) ps, gl] := H
          refine c_env [(0, .slice A1 p.length c2), (1, .slice A6 ps.length c7), (2, .int .i64 fuel), (3, .bool own), (10, v41), (11, .pointer (some ⟨b11, 0, none⟩)), (18, .slice A13 ((keysL ps).length) c14), (19, .int .i64 (((keysL ps).length : Nat) : Int)), (20, .int .i64 ((i : Nat) : Int))] ⟨rfl, rfl, rfl, rfl, rfl, rfl, rfl, rfl, rfl, trivial⟩ ?_
          refine c_reg ?_
          refine s_val rfl rfl (r_add (z := ((i + 1 : Nat) : Int)) rfl rfl rfl (by rw [w64 (by omega) (by omega)]; omega)) ?_
          refine s_val rfl rfl (r_mv rfl rfl) ?_
          refine s_nil ?_
          replace H := H.pick 1 rfl
          replace H := H.pick 3 rfl
          replace H := H.pick 2 rfl
          replace H := H.keep 3
          have hl2 : ((out ++ (runM dg p x19 (ofL ps x19) fuel).1).length : Int) = min ((out.length : Int) + ((((runM dg p x19 (ofL ps x19) fuel).1).length : Nat) : Int)) 1099511627776 := by rw [List.length_append]; omega
          replace H : Hd w0 F0 w [osl kPair v41 (out ++ ((runM dg p x19 (ofL ps x19) fuel).1)), osl kStr (.slice A13 ((keysL ps).length) c14) (keysL ps), blk b11 [.int .i64 ((out ++ (runM dg p x19 (ofL ps x19) fuel).1).length : Int), .int .i64 0, .int .i64 0, .int .i64 0, .int .i64 0, .int .i64 0, .int .i64 0, .int .i64 0] 96] [rsl kIns (.slice A1 p.length c2) p, rsl kPair (.slice A6 ps.length c7) ps, gl] := by rw [hl2]; exact H
          have hg2 := (go_on (out := out) hx20 h25 (fun h => by rw [h.1] at h26; cases h26) (by omega)).trans hgo
          have ho2 : (out ++ (runM dg p x19 (ofL ps x19) fuel).1).length ≤ 40 := by rw [List.length_append]; omega
          replace H := H.pick 2 rfl
          replace H := H.pick 2 rfl
          replace H := H.pick 2 rfl
          exact q_round (s := (i, undef, out)) (i + 1, v41, out ++ (runM dg p x19 (ofL ps x19) fuel).1) ⟨rfl, rfl, rfl, rfl, rfl, rfl, rfl, rfl, rfl, trivial⟩ ⟨H, by (try dsimp only); omega, hg2, ho2⟩ (by (try dsimp only); omega)
  · skip
    refine c_exit ?_
    refine q_thenE ?_
    refine q_thenE ?_
    refine q_blockE ?_
    refine q_then ?_
    refine c_env [(10, q)] ⟨rfl, trivial⟩ ?_
    refine c_seq ?_
    refine c_reg ?_
    refine s_val rfl rfl (r_mv rfl rfl) ?_
    refine s_val rfl rfl (r_as rfl rfl) ?_
    refine s_val rfl rfl (r_as rfl rfl) ?_
    refine s_nil ?_
    refine q_then ?_
    refine c_env [(8, q), (9, .int .i64 0)] ⟨rfl, rfl, trivial⟩ ?_
    refine c_ret ?_
    refine q_ret2 rfl rfl rfl ?_
    replace H := H.keep 1
    have e : eachM dg p ps fuel own = (out, 0) := hgo.symm.trans (go_end (by omega))
    replace H : Hd _ _ _ [osl kPair q out] [rsl kIns (.slice A1 p.length c2) p, rsl kPair (.slice A6 ps.length c7) ps, gl] := H
    exact fin ⟨_, by rw [e], by rw [e]⟩ H

set_option maxHeartbeats 1000000 in
theorem foldEach_ok (vp : Value) (p : List Ins) (vps : Value) (ps : List Pair) (fuel : Int) (hpa : ∀ i ∈ p, In64 i.a) (hfu : In64 fuel) (hb : ps.length ≤ 1000000) :
    Cn Tryz.prog 10 [vp, vps, .int .i64 fuel] [] [rsl kIns vp p, rsl kPair vps ps, gl] (fun v Bs => ∃ u, v = .tuple #[u, .int .i64 (eachM dg p ps fuel false).2] ∧ Bs = [osl kPair u (eachM dg p ps fuel false).1]) := by
  intro w0 F0 H
  refine enter (args := [vp, vps, .int .i64 fuel]) Tryz.func10 rfl rfl (Nat.le_of_ble_eq_true rfl) ?_
  refine c_seq ?_
  refine c_reg ?_
  refine s_val rfl rfl (r_as rfl rfl) ?_
  refine s_val rfl rfl (r_as rfl rfl) ?_
  refine s_nil ?_
  refine q_then ?_
  refine c_env [(0, vp), (1, vps), (2, .int .i64 fuel), (6, .slice none 0 0), (7, .int .i64 0)] ⟨rfl, rfl, rfl, rfl, rfl, trivial⟩ ?_
  refine c_seq ?_
  refine c_reg ?_
  refine s_val rfl rfl (r_mv rfl rfl) ?_
  refine s_val rfl rfl (r_mv rfl rfl) ?_
  refine s_val rfl rfl (r_mv rfl rfl) ?_
  refine sc (each_ok vp p vps ps fuel false hpa hfu hb) H (lR 0 rfl (lR 1 rfl (lR 2 rfl l0))) rfl rfl (e_fn kn32 rfl rfl) ?_
  rintro _ _ w ⟨u1, rfl, rfl⟩ H
  refine s_val rfl rfl (r_ex rfl rfl rfl) ?_
  refine s_val rfl rfl (r_ex rfl rfl rfl) ?_
  refine s_val rfl rfl (r_as rfl rfl) ?_
  refine s_val rfl rfl (r_as rfl rfl) ?_
  refine s_nil ?_
  refine q_then ?_
  replace H : Hd _ _ _ [osl kPair u1 ((eachM dg p ps fuel false).1)] [rsl kIns vp p, rsl kPair vps ps, gl] := H
  refine c_env [(6, u1), (7, .int .i64 ((eachM dg p ps fuel false).2))] ⟨rfl, rfl, trivial⟩ ?_
  refine c_ret ?_
  refine q_ret2 rfl rfl rfl ?_
  replace H : Hd _ _ _ [osl kPair u1 ((eachM dg p ps fuel false).1)] [rsl kIns vp p, rsl kPair vps ps, gl] := H
  exact fin ⟨_, rfl, rfl⟩ H

set_option maxHeartbeats 1000000 in
theorem foldCombine_ok (vp : Value) (p : List Ins) (vps : Value) (ps : List Pair) (fuel : Int) (hpa : ∀ i ∈ p, In64 i.a) (hfu : In64 fuel) (hb : ps.length ≤ 1000000) :
    Cn Tryz.prog 11 [vp, vps, .int .i64 fuel] [] [rsl kIns vp p, rsl kPair vps ps, gl] (fun v Bs => ∃ u, v = .tuple #[u, .int .i64 (combM dg p ps fuel).2] ∧ Bs = [osl kPair u (combM dg p ps fuel).1]) := by
  intro w0 F0 H
  obtain ⟨A1, c2, rfl, hc3, hm4, hp5⟩ := H.fR 0 rfl
  obtain ⟨A6, c7, rfl, hc8, hm9, hp10⟩ := H.fR 1 rfl
  refine enter (args := [.slice A1 p.length c2, .slice A6 ps.length c7, .int .i64 fuel]) Tryz.func11 rfl rfl (Nat.le_of_ble_eq_true rfl) ?_
  refine c_seq ?_
  refine c_reg ?_
  refine s_val rfl rfl (r_as rfl rfl) ?_
  refine s_val rfl rfl (r_as rfl rfl) ?_
  refine s_nil ?_
  refine q_then ?_
  replace H : Hd _ _ _ [] [rsl kIns (.slice A1 p.length c2) p, rsl kPair (.slice A6 ps.length c7) ps, gl] := H
  refine c_env [(0, .slice A1 p.length c2), (1, .slice A6 ps.length c7), (2, .int .i64 fuel), (6, .slice none 0 0), (7, .int .i64 0)] ⟨rfl, rfl, rfl, rfl, rfl, trivial⟩ ?_
  refine c_seq ?_
  refine c_seq ?_
  refine c_reg ?_
  refine s_val rfl rfl (r_mv rfl rfl) ?_
  refine s_val rfl rfl (r_lenL rfl un22 rfl) ?_
  refine s_val rfl rfl (r_eq rfl rfl rfl) ?_
  refine s_nil ?_
  refine q_then ?_
  refine c_env [(0, .slice A1 p.length c2), (1, .slice A6 ps.length c7), (2, .int .i64 fuel), (6, .slice none 0 0), (7, .int .i64 0), (10, .bool (decide (((p.length : Nat) : Int) = 0)))] ⟨rfl, rfl, rfl, rfl, rfl, rfl, trivial⟩ ?_
  refine c_dec (p := ((p.length : Nat) : Int) = 0) rfl (fun h11 => ?_) (fun h11 => ?_)
  · skip
    refine c_seq ?_
    refine c_reg ?_
    refine s_val rfl rfl (r_mv rfl rfl) ?_
    refine sc (pairSort_ok (.slice A6 ps.length c7) ps (by first | omega | decide)) H (lR 1 rfl l0) rfl rfl (e_fn kn15 rfl rfl) ?_
    rintro v12 _ w rfl H
    refine s_val rfl rfl (r_as rfl rfl) ?_
    refine s_val rfl rfl (r_as rfl rfl) ?_
    refine s_nil ?_
    refine q_then ?_
    replace H : Hd _ _ _ [osl kPair v12 (srt ps)] [rsl kIns (.slice A1 p.length c2) p, rsl kPair (.slice A6 ps.length c7) ps, gl] := H
    refine c_env [(0, .slice A1 p.length c2), (1, .slice A6 ps.length c7), (2, .int .i64 fuel), (6, v12), (7, .int .i64 0)] ⟨rfl, rfl, rfl, rfl, rfl, trivial⟩ ?_
    refine c_ret ?_
    refine q_thenR ?_
    refine q_ret2 rfl rfl rfl ?_
    have e : combM dg p ps fuel = (srt ps, 0) := if_pos (by omega)
    replace H : Hd _ _ _ [osl kPair v12 (srt ps)] [rsl kIns (.slice A1 p.length c2) p, rsl kPair (.slice A6 ps.length c7) ps, gl] := H
    exact fin ⟨_, by rw [e], by rw [e]⟩ H
  · skip
    refine c_skip ?_
    refine q_then ?_
    refine c_env [(0, .slice A1 p.length c2), (1, .slice A6 ps.length c7), (2, .int .i64 fuel), (6, .slice none 0 0), (7, .int .i64 0)] ⟨rfl, rfl, rfl, rfl, rfl, trivial⟩ ?_
    refine c_seq ?_
    refine c_reg ?_
    refine s_val rfl rfl (r_mv rfl rfl) ?_
    refine s_val rfl rfl (r_mv rfl rfl) ?_
    refine s_val rfl rfl (r_mv rfl rfl) ?_
    refine sc (each_ok (.slice A1 p.length c2) p (.slice A6 ps.length c7) ps fuel true hpa hfu hb) H (lR 0 rfl (lR 1 rfl (lR 2 rfl l0))) rfl rfl (e_fn kn32 rfl rfl) ?_
    rintro _ _ w ⟨u13, rfl, rfl⟩ H
    refine s_val rfl rfl (r_ex rfl rfl rfl) ?_
    refine s_val rfl rfl (r_ex rfl rfl rfl) ?_
    refine s_val rfl rfl (r_as rfl rfl) ?_
    refine s_val rfl rfl (r_as rfl rfl) ?_
    refine s_nil ?_
    refine q_then ?_
    replace H : Hd _ _ _ [osl kPair u13 ((eachM dg p ps fuel true).1)] [rsl kIns (.slice A1 p.length c2) p, rsl kPair (.slice A6 ps.length c7) ps, gl] := H
    refine c_env [(6, u13), (7, .int .i64 ((eachM dg p ps fuel true).2))] ⟨rfl, rfl, trivial⟩ ?_
    refine c_ret ?_
    refine q_ret2 rfl rfl rfl ?_
    have e : combM dg p ps fuel = eachM dg p ps fuel true := if_neg (by omega)
    replace H : Hd _ _ _ [osl kPair u13 ((eachM dg p ps fuel true).1)] [rsl kIns (.slice A1 p.length c2) p, rsl kPair (.slice A6 ps.length c7) ps, gl] := H
    exact fin ⟨_, by rw [e], by rw [e]⟩ H

set_option maxHeartbeats 1000000 in
theorem greatCode_ok (vxs : Value) (xs : List Ins) :
    Cn Tryz.prog 12 [vxs] [] [rsl kIns vxs xs] (fun v Bs => v = .bool (greatC xs) ∧ Bs = []) := by
  intro w0 F0 H
  obtain ⟨A1, c2, rfl, hc3, hm4, hp5⟩ := H.fR 0 rfl
  refine enter (args := [.slice A1 xs.length c2]) Tryz.func12 rfl rfl (Nat.le_of_ble_eq_true rfl) ?_
  refine c_seq ?_
  refine c_reg ?_
  refine s_val rfl rfl (r_as rfl rfl) ?_
  refine s_nil ?_
  refine q_then ?_
  replace H : Hd _ _ _ [] [rsl kIns (.slice A1 xs.length c2) xs] := H
  refine c_env [(0, .slice A1 xs.length c2), (2, .bool false)] ⟨rfl, rfl, trivial⟩ ?_
  refine c_seq ?_
  refine c_seq ?_
  refine c_reg ?_
  refine s_val rfl rfl (r_as rfl rfl) ?_
  refine s_nil ?_
  refine q_then ?_
  refine c_env [(0, .slice A1 xs.length c2), (2, .bool false), (3, .int .i64 0)] ⟨rfl, rfl, rfl, trivial⟩ ?_
  refine c_block ?_
  refine c_loop (σ := Nat) (fun k => [(0, .slice A1 xs.length c2), (3, .int .i64 ((k : Nat) : Int))]) (fun k w => (Hd w0 F0 w [] [rsl kIns (.slice A1 xs.length c2) xs]) ∧ (k ≤ xs.length) ∧ (∀ y ∈ xs.take k, y.s.size ≤ 100)) (fun k => xs.length - k) 0 ⟨rfl, rfl, trivial⟩ ⟨H, by omega, by simp⟩ ?_
  rintro k w ⟨H, hk, hn⟩
  refine c_seq ?_
  refine c_seq ?_
  refine c_reg ?_
  refine s_val rfl rfl (r_mv rfl rfl) ?_
  refine s_val rfl rfl (r_mv rfl rfl) ?_
  refine s_val rfl rfl (r_lenL rfl un22 rfl) ?_
  refine s_val rfl rfl (r_lt rfl rfl rfl) ?_
  refine s_val rfl rfl (r_mv rfl rfl) ?_
  refine s_dec (d := 8) (p := ((k : Nat) : Int) < ((xs.length : Nat) : Int)) rfl (fun h6 => ?_) (fun h6 => ?_)
  · skip
    refine s_val rfl rfl (r_mv rfl rfl) ?_
    refine s_val rfl rfl (r_lenL rfl un22 rfl) ?_
    refine s_val rfl rfl (r_le rfl rfl rfl) ?_
    refine s_val rfl rfl (r_pickT rfl rfl rfl) ?_
    refine s_nil ?_
    refine q_then ?_
    refine c_env [(0, .slice A1 xs.length c2), (3, .int .i64 ((k : Nat) : Int)), (12, .bool (decide (((xs.length : Nat) : Int) ≤ 60)))] ⟨rfl, rfl, rfl, trivial⟩ ?_
    refine c_dec (p := ((xs.length : Nat) : Int) ≤ 60) rfl (fun h7 => ?_) (fun h7 => ?_)
    · skip
      refine c_skip ?_
      refine q_then ?_
      refine c_env [(0, .slice A1 xs.length c2), (3, .int .i64 ((k : Nat) : Int))] ⟨rfl, rfl, trivial⟩ ?_
      refine c_seq ?_
      refine c_block ?_
      refine c_seq ?_
      refine c_reg ?_
      refine s_val rfl rfl (r_mv rfl rfl) ?_
      refine s_val rfl rfl (r_mv rfl rfl) ?_
      obtain ⟨x8, hx9⟩ : ∃ z9, xs[k]? = some z9 := ⟨_, List.getElem?_eq_getElem (show k < xs.length by omega)⟩
      have th10 := H.thR 0 rfl hx9
      refine s_val rfl rfl (r_iaE (p := oOf A1 + k * 3) rfl sl22 rfl rfl (by omega) (by omega) th10 rfl) ?_
      refine s_val rfl rfl (r_fa rfl fo29_2 rfl) ?_
      refine s_val rfl rfl (r_ld rfl ty9 rfl (H.elR 0 rfl hx9 (q := 2) rfl rfl)) ?_
      refine s_val rfl rfl (r_lenS rfl un9 rfl) ?_
      refine s_val rfl rfl (r_gt rfl rfl rfl) ?_
      refine s_nil ?_
      refine q_then ?_
      refine c_env [(0, .slice A1 xs.length c2), (3, .int .i64 ((k : Nat) : Int)), (21, .bool (decide ((100 : Int) < ((x8.s.size : Nat) : Int))))] ⟨rfl, rfl, rfl, trivial⟩ ?_
      refine c_dec (p := (100 : Int) < ((x8.s.size : Nat) : Int)) rfl (fun h11 => ?_) (fun h11 => ?_)
      · skip
        refine c_seq ?_
        refine c_reg ?_
        refine s_val rfl rfl (r_as rfl rfl) ?_
        refine s_nil ?_
        refine q_then ?_
        refine c_env [(0, .slice A1 xs.length c2), (2, .bool true), (3, .int .i64 ((k : Nat) : Int))] ⟨rfl, rfl, rfl, trivial⟩ ?_
        refine c_ret ?_
        refine q_blockR ?_
        refine q_thenR ?_
        refine q_thenR ?_
        refine q_blockR ?_
        refine q_thenR ?_
        refine q_ret1 rfl rfl ?_
        exact fin ⟨congrArg Value.bool (great_hit hx9 (by omega)), rfl⟩ H
      · skip
        refine c_skip ?_
        refine q_blockN ?_
        refine q_then ?_
        refine c_env [(0, .slice A1 xs.length c2), (3, .int .i64 ((k : Nat) : Int))] ⟨rfl, rfl, trivial⟩ ?_
        refine c_reg ?_
        refine s_val rfl rfl (r_mv rfl rfl) ?_
        refine s_val rfl rfl (r_add (z := ((k + 1 : Nat) : Int)) rfl rfl rfl (by rw [w64 (by omega) (by omega)]; omega)) ?_
        refine s_val rfl rfl (r_as rfl rfl) ?_
        refine s_nil ?_
        exact q_round (s := k) (k + 1) ⟨rfl, rfl, trivial⟩ ⟨H, by (try dsimp only); omega, take_small hn hx9 (by omega)⟩ (by (try dsimp only); omega)
    · skip
      refine c_exit ?_
      refine q_thenE ?_
      refine q_thenE ?_
      refine q_blockE ?_
      refine q_then ?_
      refine c_env [(0, .slice A1 xs.length c2)] ⟨rfl, trivial⟩ ?_
      refine c_seq ?_
      refine c_reg ?_
      refine s_val rfl rfl (r_mv rfl rfl) ?_
      refine s_val rfl rfl (r_lenL rfl un22 rfl) ?_
      refine s_val rfl rfl (r_gt rfl rfl rfl) ?_
      refine s_val rfl rfl (r_as rfl rfl) ?_
      refine s_nil ?_
      refine q_then ?_
      refine c_env [(2, .bool (decide ((60 : Int) < ((xs.length : Nat) : Int))))] ⟨rfl, trivial⟩ ?_
      refine c_ret ?_
      refine q_ret1 rfl rfl ?_
      exact fin ⟨congrArg Value.bool (great_end hn (by omega)), rfl⟩ H
  · skip
    refine s_no rfl rfl ?_
    refine s_no rfl rfl ?_
    refine s_no rfl rfl ?_
    refine s_val rfl rfl (r_pickF rfl rfl rfl) ?_
    refine s_nil ?_
    refine q_then ?_
    refine c_env [(0, .slice A1 xs.length c2), (3, .int .i64 ((k : Nat) : Int)), (12, .bool false)] ⟨rfl, rfl, rfl, trivial⟩ ?_
    refine c_no rfl ?_
    refine c_exit ?_
    refine q_thenE ?_
    refine q_thenE ?_
    refine q_blockE ?_
    refine q_then ?_
    refine c_env [(0, .slice A1 xs.length c2)] ⟨rfl, trivial⟩ ?_
    refine c_seq ?_
    refine c_reg ?_
    refine s_val rfl rfl (r_mv rfl rfl) ?_
    refine s_val rfl rfl (r_lenL rfl un22 rfl) ?_
    refine s_val rfl rfl (r_gt rfl rfl rfl) ?_
    refine s_val rfl rfl (r_as rfl rfl) ?_
    refine s_nil ?_
    refine q_then ?_
    refine c_env [(2, .bool (decide ((60 : Int) < ((xs.length : Nat) : Int))))] ⟨rfl, trivial⟩ ?_
    refine c_ret ?_
    refine q_ret1 rfl rfl ?_
    exact fin ⟨congrArg Value.bool (great_end hn (by omega)), rfl⟩ H

end Go.Proofs.YtlpgdkbokakniaaGreatDoor.X

set_option linter.unusedVariables false
namespace Go.Proofs.YtlpgdkbokakniaaGreatDoor.X
open Go

/-! ### What is told is small -/
def TS (r : VM × Int) : Prop := ∀ q ∈ r.1.told, mayP q
theorem ite_s {c : Prop} [Decidable c] {x y : VM × Int} (hx : TS x) (hy : TS y) : TS (if c then x else y) := by
  split
  · exact hx
  · exact hy
theorem emit_small {told : List Pair} {k v : ByteArray} (h : ∀ q ∈ told, mayP q) (hv : v.size ≤ 64) : ∀ q ∈ (emitM told k v).2, mayP q := by
  unfold emitM
  split
  · exact h
  · split
    · exact h
    · intro q hq
      rcases List.mem_append.1 hq with h1 | h1
      · exact h q h1
      · rw [List.mem_singleton.1 h1]
        exact ⟨by (try dsimp only); omega, hv⟩
theorem act_small {D : Dig} {key : ByteArray} {m : VM} {i : Ins} {v : List Val} (h : ∀ q ∈ m.told, mayP q) (hv : (v.getD 1 val0).b.size ≤ 64) : TS (actM D key m i v) := by
  have hn : TS (nextM m) := by unfold TS; rw [nextM_told]; exact h
  have h20 : TS (if (v.getD 0 val0).n ≠ 0 then {m with pos := i.a} else m, 0) := by
    unfold TS
    dsimp only
    split <;> exact h
  exact ite_s h (ite_s h (ite_s h (ite_s h (ite_s h (ite_s h (ite_s hn (ite_s h (ite_s h (ite_s h (ite_s h (ite_s h (ite_s h (ite_s h (ite_s h (ite_s h (ite_s h20 (ite_s h (ite_s h (ite_s (emit_small h hv) h)))))))))))))))))))
theorem does_small {D : Dig} {key : ByteArray} {n : Int} {m : VM} {i : Ins} (hm : Inv n m) (h : ∀ q ∈ m.told, mayP q) : TS (doesM D key m i) := by
  by_cases hN : (needsM i.op m.stk).1 ≠ 0
  · rw [does_fail hN]; exact h
  · rw [does_act hN]
    obtain ⟨l1, l2, l3, l4⟩ := needs_len (Classical.not_not.1 hN)
    exact act_small h (ok_getD (fun x hx => hm.ok.1 x (l3 x hx)) 1).2
theorem badI_good {p : List Ins} (h : badI p < 0) : p.length ≤ 40 ∧ ∀ i ∈ p, goodI i p.length := by
  have hl : p.length ≤ 40 := by
    apply Classical.byContradiction
    intro hn
    unfold badI at h
    split at h
    · omega
    · rw [if_pos (by omega)] at h; omega
  exact ⟨hl, (badI_neg hl).1 h⟩
theorem play_small {D : Dig} (hD : ∀ s : ByteArray, In64 (D.num s)) {p : List Ins} {key : ByteArray} (hp : badI p < 0) (ha : ∀ i ∈ p, In64 i.a) : ∀ (k : Nat) {m : VM}, Inv p.length m → (∀ q ∈ m.told, mayP q) → TS (playM D p key k m)
  | 0, m, hm, h => by
    unfold playM
    split <;> exact h
  | k + 1, m, hm, h => by
    by_cases hc : m.pos < p.length ∧ m.halted = false
    · obtain ⟨i, hi⟩ : ∃ i, p[m.pos.toNat]? = some i := ⟨_, List.getElem?_eq_getElem (by have := hm.pos; omega)⟩
      have him := at_mem hi
      have hm1 : Inv p.length {m with pos := m.pos + 1} := ⟨hm.ok, hm.len, hm.told, (by have h9 := hm.pos; constructor <;> (try dsimp only) <;> omega)⟩
      by_cases hw : (doesM D key {m with pos := m.pos + 1} i).2 ≠ 0
      · rw [play_fail hc hi hw]
        exact does_small hm1 h
      · rw [play_go hc hi hw]
        exact play_small hD hp ha k (inv_does hD hm1 ((badI_good hp).2 i him) (ha i him) (Classical.not_not.1 hw)) (does_small hm1 h)
    · rw [play_stop _ hc]; exact h
theorem inv_start (n : Int) (hn : 0 ≤ n) (vals : List ByteArray) : Inv n (vm0 vals) := ⟨⟨(fun v hv => by cases hv), fun _ => okv0⟩, Nat.zero_le _, Nat.zero_le _, ⟨Int.le_refl 0, hn⟩⟩
theorem run_small {D : Dig} (hD : ∀ s : ByteArray, In64 (D.num s)) {p : List Ins} (ha : ∀ i ∈ p, In64 i.a) (key : ByteArray) (vals : List ByteArray) (fuel : Int) : ∀ q ∈ (runM D p key vals fuel).1, mayP q := by
  unfold runM
  split
  · intro q hq; cases hq
  · rename_i hn
    split
    · intro q hq; cases hq
    · exact play_small hD (by omega) ha _ (inv_start _ (by omega) _) (fun q hq => by cases hq)
theorem srt_small {xs : List Pair} (h : ∀ q ∈ xs, mayP q) : ∀ q ∈ srt xs, mayP q := fun q hq => h q ((srt_stab xs).symm.mem hq)
theorem eachGo_small {D : Dig} (hD : ∀ s : ByteArray, In64 (D.num s)) {p : List Ins} (ha : ∀ i ∈ p, In64 i.a) {ps : List Pair} {fuel : Int} {own : Bool} : ∀ (ks : List ByteArray) (out : List Pair), (∀ q ∈ out, mayP q) → ∀ q ∈ (eachGo D p ps fuel own ks out).1, mayP q
  | [], out, h => h
  | k :: ks, out, h => by
    unfold eachGo
    split
    · intro q hq; cases hq
    · split
      · intro q hq; cases hq
      · split
        · intro q hq; cases hq
        · refine eachGo_small hD ha ks _ fun q hq => ?_
          rcases List.mem_append.1 hq with h1 | h1
          · exact h q h1
          · exact run_small hD ha _ _ _ q h1
/-! ### In order -/
theorem comb_small {D : Dig} (hD : ∀ s : ByteArray, In64 (D.num s)) {p : List Ins} (ha : ∀ i ∈ p, In64 i.a) {ps : List Pair} {fuel : Int} (h : ∀ q ∈ ps, mayP q) : ∀ q ∈ (combM D p ps fuel).1, mayP q := by
  unfold combM
  split
  · exact srt_small h
  · exact eachGo_small hD ha _ _ fun q hq => by cases hq
theorem comb_len (D : Dig) (p : List Ins) (ps : List Pair) (fuel : Int) (h : ps.length ≤ 40) : (combM D p ps fuel).1.length ≤ 40 := by
  unfold combM
  split
  · show (srt ps).length ≤ 40
    rw [srt_len]; exact h
  · exact each_len D p ps fuel true _ _ (Nat.zero_le _)

/-! ### Jobs -/
structure Job where
  us : List (Value × List Pair)
  parts : Int
  map : List Ins
  comb : List Ins
  red : List Ins
  chunk : Int
  window : Int
  fuel : Int
  marks : List Int
def okSplit (x : List Pair) : Prop := x.length ≤ 8 ∧ mayL x
instance (x : List Pair) : Decidable (okSplit x) := inferInstanceAs (Decidable (_ ∧ _))
def marksUp (n : Int) : Int → List Int → Prop
  | _, [] => True
  | l, m :: ms => (l + 1 ≤ m ∧ m ≤ n) ∧ marksUp n m ms
instance marksUpD (n : Int) : ∀ (l : Int) (ms : List Int), Decidable (marksUp n l ms)
  | _, [] => isTrue trivial
  | _, m :: ms => haveI := marksUpD n m ms; inferInstanceAs (Decidable (_ ∧ _))
def mayJ (J : Job) : Prop :=
  (1 ≤ (J.us.length : Int) ∧ (J.us.length : Int) ≤ 6) ∧ (1 ≤ J.parts ∧ J.parts ≤ 4) ∧ J.marks.length ≤ 4 ∧ (∀ u ∈ J.us, okSplit u.2) ∧ marksUp J.us.length 0 J.marks ∧
  (0 < J.map.length ∧ badI J.map < 0) ∧ (0 < J.red.length ∧ badI J.red < 0) ∧ badI J.comb < 0 ∧ (1 ≤ J.chunk ∧ J.chunk ≤ 7) ∧ (1 ≤ J.window ∧ J.window ≤ 4) ∧ 1 ≤ J.fuel ∧ J.fuel ≤ 2000
instance mayJD (J : Job) : Decidable (mayJ J) := by unfold mayJ; infer_instance
structure OkJ (J : Job) : Prop where
  may : mayJ J
  map : ∀ i ∈ J.map, In64 i.a
  comb : ∀ i ∈ J.comb, In64 i.a
  red : ∀ i ∈ J.red, In64 i.a
theorem OkJ.us {J : Job} (h : OkJ J) : 1 ≤ J.us.length ∧ J.us.length ≤ 6 := by have := h.may.1; omega
theorem OkJ.parts {J : Job} (h : OkJ J) : 1 ≤ J.parts ∧ J.parts ≤ 4 := h.may.2.1
theorem OkJ.fuel {J : Job} (h : OkJ J) : 1 ≤ J.fuel ∧ J.fuel ≤ 2000 := h.may.2.2.2.2.2.2.2.2.2.2
theorem OkJ.split {J : Job} (h : OkJ J) : ∀ u ∈ J.us, okSplit u.2 := h.may.2.2.2.1
theorem OkJ.f64 {J : Job} (h : OkJ J) : In64 J.fuel := by have := h.fuel; unfold In64; omega
def mapGo (D : Dig) (p : List Ins) (fuel : Int) : List Pair → List Pair → List Pair × Int
  | [], out => (out, 0)
  | r :: rs, out =>
    if (runM D p r.key [r.val] fuel).2 ≠ 0 then ([], (runM D p r.key [r.val] fuel).2)
    else if 40 < out.length + (runM D p r.key [r.val] fuel).1.length then ([], 5)
    else mapGo D p fuel rs (out ++ (runM D p r.key [r.val] fuel).1)
section
variable {D : Dig} {p : List Ins} {fuel : Int} {rs : List Pair} {r : Pair} {out : List Pair} {i : Nat}
theorem map_end (h : rs.length ≤ i) : mapGo D p fuel (rs.drop i) out = (out, 0) := by
  rw [List.drop_eq_nil_of_le h]; rfl
theorem map_why (hr : rs[i]? = some r) (h : (runM D p r.key [r.val] fuel).2 ≠ 0) : mapGo D p fuel (rs.drop i) out = ([], (runM D p r.key [r.val] fuel).2) := by
  rw [drop_at hr]; exact if_pos h
theorem map_many (hr : rs[i]? = some r) (h : ¬ (runM D p r.key [r.val] fuel).2 ≠ 0) (h3 : 40 < out.length + (runM D p r.key [r.val] fuel).1.length) : mapGo D p fuel (rs.drop i) out = ([], 5) := by
  rw [drop_at hr]; unfold mapGo; rw [if_neg h, if_pos h3]
theorem map_on (hr : rs[i]? = some r) (h : ¬ (runM D p r.key [r.val] fuel).2 ≠ 0) (h3 : ¬ 40 < out.length + (runM D p r.key [r.val] fuel).1.length) :
    mapGo D p fuel (rs.drop (i + 1)) (out ++ (runM D p r.key [r.val] fuel).1) = mapGo D p fuel (rs.drop i) out := by
  rw [drop_at hr]; conv => rhs; unfold mapGo
  rw [if_neg h, if_neg h3]
theorem map_small (hD : ∀ s : ByteArray, In64 (D.num s)) (ha : ∀ i ∈ p, In64 i.a) : ∀ (rs out : List Pair), (∀ q ∈ out, mayP q) → ∀ q ∈ (mapGo D p fuel rs out).1, mayP q
  | [], out, h => h
  | r :: rs, out, h => by
    unfold mapGo
    split
    · intro q hq; cases hq
    · split
      · intro q hq; cases hq
      · refine map_small hD ha rs _ fun q hq => ?_
        rcases List.mem_append.1 hq with h1 | h1
        · exact h q h1
        · exact run_small hD ha _ _ _ q h1
theorem map_len : ∀ (rs out : List Pair), out.length ≤ 40 → (mapGo D p fuel rs out).1.length ≤ 40
  | [], out, h => h
  | r :: rs, out, h => by
    unfold mapGo
    split
    · exact Nat.zero_le _
    · split
      · exact Nat.zero_le _
      · exact map_len rs _ (by simp only [List.length_append]; omega)
end
def recs (J : Job) (s : Nat) : List Pair := match J.us[s]? with
  | some u => u.2
  | none => []
theorem recs_at {J : Job} {s : Nat} {u : Value × List Pair} (h : J.us[s]? = some u) : recs J s = u.2 := by unfold recs; rw [h]
def mapM (D : Dig) (J : Job) (s : Nat) : List Pair × Int := mapGo D J.map J.fuel (recs J s) []
def splitM (D : Dig) (J : Job) (s : Nat) : List Pair × Int := if (mapM D J s).2 ≠ 0 then ([], (mapM D J s).2) else combM D J.comb (mapM D J s).1 J.fuel
theorem mapM_len (D : Dig) (J : Job) (s : Nat) : (mapM D J s).1.length ≤ 40 := map_len _ _ (Nat.zero_le _)
theorem split_len (D : Dig) (J : Job) (s : Nat) : (splitM D J s).1.length ≤ 40 := by
  unfold splitM
  split
  · exact Nat.zero_le _
  · exact comb_len _ _ _ _ (mapM_len _ _ _)
theorem split_small {D : Dig} (hD : ∀ s : ByteArray, In64 (D.num s)) {J : Job} (h : OkJ J) (s : Nat) : ∀ q ∈ (splitM D J s).1, mayP q := by
  unfold splitM
  split
  · intro q hq; cases hq
  · exact comb_small hD h.comb (map_small hD h.map _ _ fun q hq => by cases hq)
def onlyM (D : Dig) (J : Job) (s : Nat) (p : Int) : List Pair := onlyP (splitM D J s).1 J.parts p
def allOf (D : Dig) (J : Job) (p : Int) : Nat → List Pair
  | 0 => []
  | k + 1 => allOf D J p k ++ onlyM D J k p
theorem onlyM_len (D : Dig) (J : Job) (s : Nat) (p : Int) : (onlyM D J s p).length ≤ 40 := Nat.le_trans (only_len _ _ _) (split_len _ _ _)
theorem allOf_len (D : Dig) (J : Job) (p : Int) : ∀ k, (allOf D J p k).length ≤ 40 * k
  | 0 => Nat.zero_le _
  | k + 1 => by
    have := allOf_len D J p k
    have := onlyM_len D J k p
    unfold allOf
    rw [List.length_append]
    omega
def partM (D : Dig) (J : Job) (p : Int) : List Pair × Int := eachM D J.red (srt (allOf D J p J.us.length)) J.fuel false
/-- All parts, from the p-th on, k of them. -/
def partsGo (D : Dig) (J : Job) : Nat → Nat → List (List Pair) → List (List Pair) × Int × Int
  | 0, _, out => (out, 0, 0)
  | k + 1, p, out => if (partM D J p).2 ≠ 0 then ([], (partM D J p).2, p) else partsGo D J k (p + 1) (out ++ [(partM D J p).1])
def wholeGo (D : Dig) (J : Job) : Nat → Nat → List (List Pair) × Int × Int
  | 0, _ => partsGo D J J.parts.toNat 0 []
  | k + 1, s => if (splitM D J s).2 ≠ 0 then ([], (splitM D J s).2, s) else wholeGo D J k (s + 1)
def wholeM (D : Dig) (J : Job) : List (List Pair) × Int × Int := wholeGo D J J.us.length 0
section
variable {D : Dig} {J : Job} {s p : Nat} {out : List (List Pair)}
theorem whole_bad (hs : s < J.us.length) (h : (splitM D J s).2 ≠ 0) : wholeGo D J (J.us.length - s) s = ([], (splitM D J s).2, (s : Int)) := by
  rw [show J.us.length - s = (J.us.length - (s + 1)) + 1 by omega]; exact if_pos h
theorem whole_on (hs : s < J.us.length) (h : ¬ (splitM D J s).2 ≠ 0) : wholeGo D J (J.us.length - (s + 1)) (s + 1) = wholeGo D J (J.us.length - s) s := by
  conv => rhs; rw [show J.us.length - s = (J.us.length - (s + 1)) + 1 by omega]; unfold wholeGo; rw [if_neg h]
theorem whole_end (hs : J.us.length ≤ s) : wholeGo D J (J.us.length - s) s = partsGo D J J.parts.toNat 0 [] := by
  rw [show J.us.length - s = 0 by omega]; rfl
theorem parts_bad2 (hp : p < J.parts.toNat) (h : (partM D J p).2 ≠ 0) : partsGo D J (J.parts.toNat - p) p out = ([], (partM D J p).2, (p : Int)) := by
  rw [show J.parts.toNat - p = (J.parts.toNat - (p + 1)) + 1 by omega]; exact if_pos h
theorem parts_on (hp : p < J.parts.toNat) (h : ¬ (partM D J p).2 ≠ 0) : partsGo D J (J.parts.toNat - (p + 1)) (p + 1) (out ++ [(partM D J p).1]) = partsGo D J (J.parts.toNat - p) p out := by
  conv => rhs; rw [show J.parts.toNat - p = (J.parts.toNat - (p + 1)) + 1 by omega]; unfold partsGo; rw [if_neg h]
theorem parts_end (hp : J.parts.toNat ≤ p) : partsGo D J (J.parts.toNat - p) p out = (out, 0, 0) := by
  rw [show J.parts.toNat - p = 0 by omega]; rfl
end
def runJ (D : Dig) (J : Job) (s : Nat) (p : Int) : List Pair × Int := if (splitM D J s).2 ≠ 0 then ([], (splitM D J s).2) else (onlyM D J s p, 0)
def upto (n : Nat) : List Int := (List.range n).map fun (i : Nat) => (i : Int)
theorem upto_succ (n : Nat) : upto (n + 1) = upto n ++ [(n : Int)] := by
  unfold upto; rw [List.range_succ, List.map_append]; rfl
theorem upto_len (n : Nat) : (upto n).length = n := by simp [upto]
theorem upto_mem {n k : Nat} (h : k < n) : (k : Int) ∈ upto n := List.mem_map.2 ⟨k, List.mem_range.2 h, rfl⟩
theorem flat2_snoc (zs : List (Value × List Pair)) (v : Value) (x : List Pair) : flat2 (zs ++ [(v, x)]) = flat2 zs ++ x := by
  unfold flat2; rw [List.flatMap_append]; simp
def smallR : List Pair := [⟨⟨#[98]⟩, ⟨#[49]⟩⟩, ⟨⟨#[97]⟩, ⟨#[50]⟩⟩]
def wantR : List Pair := [⟨⟨#[97]⟩, ⟨#[50]⟩⟩, ⟨⟨#[98]⟩, ⟨#[49]⟩⟩]
def smallJ (u : Value) : Job := ⟨[(u, smallR)], 1, firstP, [], firstP, 1, 1, 9, []⟩
theorem small_ok (u : Value) : OkJ (smallJ u) := by
  refine ⟨?_, in64_first, fun i hi => (by cases hi), in64_first⟩
  refine ⟨(show 1 ≤ ((1 : Nat) : Int) ∧ ((1 : Nat) : Int) ≤ 6 by decide), (show (1 : Int) ≤ 1 ∧ (1 : Int) ≤ 4 by decide), (show 0 ≤ 4 by decide), ?_, trivial, (show 0 < firstP.length ∧ badI firstP < 0 by decide +kernel), (show 0 < firstP.length ∧ badI firstP < 0 by decide +kernel), (show badI [] < 0 by decide +kernel),
    (show (1 : Int) ≤ 1 ∧ (1 : Int) ≤ 7 by decide), (show (1 : Int) ≤ 1 ∧ (1 : Int) ≤ 4 by decide), (show (1 : Int) ≤ 9 ∧ (9 : Int) ≤ 2000 by decide)⟩
  intro x hx
  rw [List.mem_singleton.1 hx]
  show okSplit smallR
  decide
theorem small_map {D : Dig} (u : Value) : mapM D (smallJ u) 0 = (smallR, 0) := by kernel_rfl
theorem small_split {D : Dig} (u : Value) : splitM D (smallJ u) 0 = (wantR, 0) := by
  have h : srt smallR = wantR := by decide
  unfold splitM
  rw [small_map, if_neg (by simp)]
  show (srt smallR, (0 : Int)) = _
  rw [h]
theorem small_part {D : Dig} (u : Value) : partM D (smallJ u) ((0 : Nat) : Int) = (wantR, 0) := by
  have h : srt (onlyP wantR 1 ((0 : Nat) : Int)) = wantR := by decide +kernel
  have h1 : allOf D (smallJ u) ((0 : Nat) : Int) 1 = onlyP wantR 1 ((0 : Nat) : Int) := by
    show [] ++ onlyP (splitM D (smallJ u) 0).1 1 ((0 : Nat) : Int) = _
    rw [small_split]; rfl
  unfold partM
  show eachM D firstP (srt (allOf D (smallJ u) ((0 : Nat) : Int) 1)) 9 false = _
  rw [h1, h]
  unfold eachM
  rw [show keysL wantR = [⟨#[97]⟩, ⟨#[98]⟩] from (keys_ref _).trans (by decide)]
  kernel_rfl
theorem small_whole {D : Dig} (u : Value) : wholeM D (smallJ u) = ([wantR], 0, 0) := by
  show wholeGo D (smallJ u) 1 0 = _
  unfold wholeGo
  rw [small_split, if_neg (by simp)]
  show partsGo D (smallJ u) 1 0 [] = _
  unfold partsGo
  rw [small_part, if_neg (by simp)]
  rfl
/-- What a job is not great by. -/
def greatJ (J : Job) : Bool := decide (¬ (J.us.length ≤ 8 ∧ ∀ u ∈ J.us, greatP u.2 10 = false)) || decide (10 < (J.marks.length : Int)) || greatC J.map || greatC J.comb || greatC J.red
theorem greatJ_hit {J : Job} {k : Nat} {A : Value} {x : List Pair} (hx : J.us[k]? = some (A, x)) (h : greatP x 10 = true) : true = greatJ J := by
  unfold greatJ
  rw [decide_eq_true (show ¬ (J.us.length ≤ 8 ∧ ∀ u ∈ J.us, greatP u.2 10 = false) from fun g => by have := g.2 _ (at_mem hx); rw [h] at this; cases this)]
  simp
theorem greatJ_of {J : Job} (h : 8 < J.us.length ∨ 10 < J.marks.length ∨ greatC J.map = true ∨ greatC J.comb = true) : true = greatJ J := by
  unfold greatJ
  rcases h with h | h | h | h
  · rw [decide_eq_true (show ¬ (J.us.length ≤ 8 ∧ ∀ u ∈ J.us, greatP u.2 10 = false) from fun g => by omega)]; simp
  · rw [decide_eq_true (show 10 < (J.marks.length : Int) by omega)]; simp
  · rw [h]; simp
  · rw [h]; simp
theorem greatJ_fin {J : Job} {k : Nat} (hn : ∀ u ∈ J.us.take k, greatP u.2 10 = false) (h1 : J.us.length ≤ k) (h2 : J.us.length ≤ 8) (h3 : J.marks.length ≤ 10) (h4 : greatC J.map = false) (h5 : greatC J.comb = false) : greatC J.red = greatJ J := by
  unfold greatJ
  rw [List.take_of_length_le h1] at hn
  rw [decide_eq_false (show ¬ ¬ (J.us.length ≤ 8 ∧ ∀ u ∈ J.us, greatP u.2 10 = false) from fun g => g ⟨h2, hn⟩), decide_eq_false (show ¬ 10 < (J.marks.length : Int) by omega), h4, h5]
  simp
theorem runs_more {us vs : List (Value × List Pair)} {k : Nat} {A B : Value} {x y : List Pair} (hx : us[k]? = some (A, x)) (hy : vs[k]? = some (B, y)) (e : x = y) (h : (us.take k).map (·.2) = (vs.take k).map (·.2)) : (us.take (k + 1)).map (·.2) = (vs.take (k + 1)).map (·.2) := by
  rw [List.take_add_one, List.take_add_one, List.map_append, List.map_append, h, hx, hy, e]
  rfl
theorem runs_at {us vs : List (Value × List Pair)} {k : Nat} {A B : Value} {x y : List Pair} (hx : us[k]? = some (A, x)) (hy : vs[k]? = some (B, y)) (e : us.map (·.2) = vs.map (·.2)) : x = y := by
  have h := congrArg (·[k]?) e
  simp only [List.getElem?_map, hx, hy, Option.map_some] at h
  exact Option.some.inj h
end Go.Proofs.YtlpgdkbokakniaaGreatDoor.X

set_option linter.unusedVariables false
set_option linter.unusedSimpArgs false
namespace Go.Proofs.YtlpgdkbokakniaaGreatDoor.X
open Go
set_option maxHeartbeats 1000000 in
theorem within_ok (n : Int) (l : Int) (m : Int) :
    Cn Tryz.prog 42 [.int .i64 n, .int .i64 l, .int .i64 m] [] [] (fun v Bs => v = .bool (decide (l ≤ n ∧ n ≤ m)) ∧ Bs = []) := by
  intro w0 F0 H
  refine enter (args := [.int .i64 n, .int .i64 l, .int .i64 m]) Tryz.func42 rfl rfl (Nat.le_of_ble_eq_true rfl) ?_
  refine c_seq ?_
  refine c_reg ?_
  refine s_val rfl rfl (r_as rfl rfl) ?_
  refine s_nil ?_
  refine q_then ?_
  refine c_env [(0, .int .i64 n), (1, .int .i64 l), (2, .int .i64 m), (6, .bool false)] ⟨rfl, rfl, rfl, rfl, trivial⟩ ?_
  refine c_seq ?_
  refine c_reg ?_
  refine s_val rfl rfl (r_mv rfl rfl) ?_
  refine s_val rfl rfl (r_mv rfl rfl) ?_
  refine s_val rfl rfl (r_ge rfl rfl rfl) ?_
  refine s_val rfl rfl (r_mv rfl rfl) ?_
  refine s_dec (d := 10) (p := l ≤ n) rfl (fun h1 => ?_) (fun h1 => ?_)
  · skip
    refine s_val rfl rfl (r_mv rfl rfl) ?_
    refine s_val rfl rfl (r_mv rfl rfl) ?_
    refine s_val rfl rfl (r_le rfl rfl rfl) ?_
    refine s_val rfl rfl (r_pickT rfl rfl rfl) ?_
    refine s_val rfl rfl (r_as rfl rfl) ?_
    refine s_nil ?_
    refine q_then ?_
    refine c_env [(6, .bool (decide (n ≤ m)))] ⟨rfl, trivial⟩ ?_
    refine c_ret ?_
    refine q_ret1 rfl rfl ?_
    exact fin ⟨congrArg Value.bool (decide_eq_decide.2 (by omega)), rfl⟩ H
  · skip
    refine s_no rfl rfl ?_
    refine s_no rfl rfl ?_
    refine s_no rfl rfl ?_
    refine s_val rfl rfl (r_pickF rfl rfl rfl) ?_
    refine s_val rfl rfl (r_as rfl rfl) ?_
    refine s_nil ?_
    refine q_then ?_
    refine c_env [(6, .bool false)] ⟨rfl, trivial⟩ ?_
    refine c_ret ?_
    refine q_ret1 rfl rfl ?_
    exact fin ⟨congrArg Value.bool ((decide_eq_false (by omega)).symm), rfl⟩ H

set_option maxHeartbeats 1000000 in
theorem jruns_ok (vxs : Value) (xs : List Ins) :
    Cn Tryz.prog 44 [vxs] [] [rsl kIns vxs xs] (fun v Bs => v = .bool (decide (0 < (xs).length ∧ badI xs < 0)) ∧ Bs = []) := by
  intro w0 F0 H
  obtain ⟨A1, c2, rfl, hc3, hm4, hp5⟩ := H.fR 0 rfl
  refine enter (args := [.slice A1 xs.length c2]) Tryz.func44 rfl rfl (Nat.le_of_ble_eq_true rfl) ?_
  refine c_seq ?_
  refine c_reg ?_
  refine s_val rfl rfl (r_as rfl rfl) ?_
  refine s_nil ?_
  refine q_then ?_
  replace H : Hd _ _ _ [] [rsl kIns (.slice A1 xs.length c2) xs] := H
  refine c_env [(0, .slice A1 xs.length c2), (2, .bool false)] ⟨rfl, rfl, trivial⟩ ?_
  refine c_seq ?_
  refine c_reg ?_
  refine s_val rfl rfl (r_mv rfl rfl) ?_
  refine s_val rfl rfl (r_lenL rfl un22 rfl) ?_
  refine s_val rfl rfl (r_gt rfl rfl rfl) ?_
  refine s_val rfl rfl (r_mv rfl rfl) ?_
  refine s_dec (d := 6) (p := (0 : Int) < ((xs.length : Nat) : Int)) rfl (fun h6 => ?_) (fun h6 => ?_)
  · skip
    refine s_val rfl rfl (r_mv rfl rfl) ?_
    refine sc (pMay_ok (.slice A1 xs.length c2) xs) H (lR 0 rfl l0) rfl rfl (e_fn kn45 rfl rfl) ?_
    rintro _ _ w ⟨rfl, rfl⟩ H
    refine s_val rfl rfl (r_pickT rfl rfl rfl) ?_
    refine s_val rfl rfl (r_as rfl rfl) ?_
    refine s_nil ?_
    refine q_then ?_
    refine c_env [(2, .bool (decide (badI xs < 0)))] ⟨rfl, trivial⟩ ?_
    refine c_ret ?_
    refine q_ret1 rfl rfl ?_
    exact fin ⟨congrArg Value.bool (decide_eq_decide.2 (by omega)), rfl⟩ H
  · skip
    refine s_no rfl rfl ?_
    refine s_no rfl rfl ?_
    refine s_val rfl rfl (r_pickF rfl rfl rfl) ?_
    refine s_val rfl rfl (r_as rfl rfl) ?_
    refine s_nil ?_
    refine q_then ?_
    refine c_env [(2, .bool false)] ⟨rfl, trivial⟩ ?_
    refine c_ret ?_
    refine q_ret1 rfl rfl ?_
    exact fin ⟨congrArg Value.bool ((decide_eq_false (by omega)).symm), rfl⟩ H

set_option maxHeartbeats 1000000 in
theorem jmay_ok (vS vM vC vR vK : Value) (J : Job) :
    Cn Tryz.prog 22 [.agg #[vS, .int .i64 J.parts, vM, vC, vR, .int .i64 J.chunk, .int .i64 J.window, .int .i64 J.fuel, vK]] [] [rsl (kHd kPair) vS J.us, rsl kIns vM J.map, rsl kIns vC J.comb, rsl kIns vR J.red, rsl (kInt .i64) vK J.marks] (fun v Bs => v = .bool (decide (mayJ J)) ∧ Bs = []) := by
  intro w0 F0 H
  obtain ⟨A1, c2, rfl, hc3, hm4, hp5⟩ := H.fR 0 rfl
  obtain ⟨A6, c7, rfl, hc8, hm9, hp10⟩ := H.fR 1 rfl
  obtain ⟨A11, c12, rfl, hc13, hm14, hp15⟩ := H.fR 2 rfl
  obtain ⟨A16, c17, rfl, hc18, hm19, hp20⟩ := H.fR 3 rfl
  obtain ⟨A21, c22, rfl, hc23, hm24, hp25⟩ := H.fR 4 rfl
  refine enter (args := [.agg #[.slice A1 J.us.length c2, .int .i64 J.parts, .slice A6 J.map.length c7, .slice A11 J.comb.length c12, .slice A16 J.red.length c17, .int .i64 J.chunk, .int .i64 J.window, .int .i64 J.fuel, .slice A21 J.marks.length c22]]) Tryz.func22 rfl rfl (Nat.le_of_ble_eq_true rfl) ?_
  refine c_seq ?_
  refine c_reg ?_
  refine s_box rfl rfl rfl rfl H (fun b26 w H => ?_)
  refine s_val rfl rfl (r_as rfl rfl) ?_
  refine s_nil ?_
  refine q_then ?_
  replace H : Hd _ _ _ [blk b26 [.slice A1 J.us.length c2, .int .i64 J.parts, .slice A6 J.map.length c7, .slice A11 J.comb.length c12, .slice A16 J.red.length c17, .int .i64 J.chunk, .int .i64 J.window, .int .i64 J.fuel, .slice A21 J.marks.length c22] 43] [rsl (kHd kPair) (.slice A1 J.us.length c2) J.us, rsl kIns (.slice A6 J.map.length c7) J.map, rsl kIns (.slice A11 J.comb.length c12) J.comb, rsl kIns (.slice A16 J.red.length c17) J.red, rsl (kInt .i64) (.slice A21 J.marks.length c22) J.marks] := H
  refine c_env [(1, .pointer (some ⟨b26, 0, none⟩)), (2, .bool false)] ⟨rfl, rfl, trivial⟩ ?_
  refine c_seq ?_
  refine c_seq ?_
  refine c_reg ?_
  refine s_val rfl rfl (r_fa rfl fo43_0 rfl) ?_
  refine s_val rfl rfl (r_ld rfl ty31 rfl (H.cellI 0 rfl rfl)) ?_
  refine s_val rfl rfl (r_lenL rfl un31 rfl) ?_
  refine sc (within_ok ((J.us.length : Nat) : Int) 1 6) H l0 rfl rfl (e_fn kn42 rfl rfl) ?_
  rintro _ _ w ⟨rfl, rfl⟩ H
  refine s_val rfl rfl (r_notP rfl rfl) ?_
  refine s_val rfl rfl (r_mv rfl rfl) ?_
  refine s_dec (d := 13) (p := ¬ (1 ≤ ((J.us.length : Nat) : Int) ∧ ((J.us.length : Nat) : Int) ≤ 6)) rfl (fun h27 => ?_) (fun h27 => ?_)
  · skip
    refine s_no rfl rfl ?_
    refine s_no rfl rfl ?_
    refine s_no rfl rfl ?_
    refine s_no rfl rfl ?_
    refine s_val rfl rfl (r_pickT rfl rfl rfl) ?_
    refine s_val rfl rfl (r_mv rfl rfl) ?_
    refine s_no rfl rfl ?_
    refine s_no rfl rfl ?_
    refine s_no rfl rfl ?_
    refine s_no rfl rfl ?_
    refine s_val rfl rfl (r_pickT rfl rfl rfl) ?_
    refine s_nil ?_
    refine q_then ?_
    refine c_env [(1, .pointer (some ⟨b26, 0, none⟩)), (2, .bool false), (24, .bool true)] ⟨rfl, rfl, rfl, trivial⟩ ?_
    refine c_yes rfl ?_
    refine c_seq ?_
    refine c_reg ?_
    refine s_val rfl rfl (r_as rfl rfl) ?_
    refine s_nil ?_
    refine q_then ?_
    refine c_env [(1, .pointer (some ⟨b26, 0, none⟩)), (2, .bool false)] ⟨rfl, rfl, trivial⟩ ?_
    refine c_ret ?_
    refine q_thenR ?_
    refine q_ret1 rfl rfl ?_
    replace H := H.keep 0
    have e : ¬ mayJ J := by
      rintro ⟨g1, g2, g3, g4, g5, g6, g7, g8, g9, g10, g11⟩
      omega
    exact fin ⟨congrArg Value.bool (decide_eq_false e).symm, rfl⟩ H
  · skip
    refine s_val rfl rfl (r_fa rfl fo43_1 rfl) ?_
    refine s_val rfl rfl (r_ld rfl ty3 rfl (H.cellI 0 rfl rfl)) ?_
    refine sc (within_ok J.parts 1 4) H l0 rfl rfl (e_fn kn42 rfl rfl) ?_
    rintro _ _ w ⟨rfl, rfl⟩ H
    refine s_val rfl rfl (r_notP rfl rfl) ?_
    refine s_val rfl rfl (r_pickF rfl rfl rfl) ?_
    refine s_val rfl rfl (r_mv rfl rfl) ?_
    refine s_dec (d := 19) (p := ¬ (1 ≤ J.parts ∧ J.parts ≤ 4)) rfl (fun h28 => ?_) (fun h28 => ?_)
    · skip
      refine s_no rfl rfl ?_
      refine s_no rfl rfl ?_
      refine s_no rfl rfl ?_
      refine s_no rfl rfl ?_
      refine s_val rfl rfl (r_pickT rfl rfl rfl) ?_
      refine s_nil ?_
      refine q_then ?_
      refine c_env [(1, .pointer (some ⟨b26, 0, none⟩)), (2, .bool false), (24, .bool true)] ⟨rfl, rfl, rfl, trivial⟩ ?_
      refine c_yes rfl ?_
      refine c_seq ?_
      refine c_reg ?_
      refine s_val rfl rfl (r_as rfl rfl) ?_
      refine s_nil ?_
      refine q_then ?_
      refine c_env [(1, .pointer (some ⟨b26, 0, none⟩)), (2, .bool false)] ⟨rfl, rfl, trivial⟩ ?_
      refine c_ret ?_
      refine q_thenR ?_
      refine q_ret1 rfl rfl ?_
      replace H := H.keep 0
      have e : ¬ mayJ J := by
        rintro ⟨g1, g2, g3, g4, g5, g6, g7, g8, g9, g10, g11⟩
        omega
      exact fin ⟨congrArg Value.bool (decide_eq_false e).symm, rfl⟩ H
    · skip
      refine s_val rfl rfl (r_fa rfl fo43_8 rfl) ?_
      refine s_val rfl rfl (r_ld rfl ty41 rfl (H.cellI 0 rfl rfl)) ?_
      refine s_val rfl rfl (r_lenL rfl un41 rfl) ?_
      refine s_val rfl rfl (r_gt rfl rfl rfl) ?_
      refine s_val rfl rfl (r_pickF rfl rfl rfl) ?_
      refine s_nil ?_
      refine q_then ?_
      refine c_env [(1, .pointer (some ⟨b26, 0, none⟩)), (2, .bool false), (24, .bool (decide ((4 : Int) < ((J.marks.length : Nat) : Int))))] ⟨rfl, rfl, rfl, trivial⟩ ?_
      refine c_dec (p := (4 : Int) < ((J.marks.length : Nat) : Int)) rfl (fun h29 => ?_) (fun h29 => ?_)
      · skip
        refine c_seq ?_
        refine c_reg ?_
        refine s_val rfl rfl (r_as rfl rfl) ?_
        refine s_nil ?_
        refine q_then ?_
        refine c_env [(1, .pointer (some ⟨b26, 0, none⟩)), (2, .bool false)] ⟨rfl, rfl, trivial⟩ ?_
        refine c_ret ?_
        refine q_thenR ?_
        refine q_ret1 rfl rfl ?_
        replace H := H.keep 0
        have e : ¬ mayJ J := by
          rintro ⟨g1, g2, g3, g4, g5, g6, g7, g8, g9, g10, g11⟩
          omega
        exact fin ⟨congrArg Value.bool (decide_eq_false e).symm, rfl⟩ H
      · skip
        refine c_skip ?_
        refine q_then ?_
        refine c_env [(1, .pointer (some ⟨b26, 0, none⟩)), (2, .bool false)] ⟨rfl, rfl, trivial⟩ ?_
        refine c_seq ?_
        refine c_seq ?_
        refine c_reg ?_
        refine s_val rfl rfl (r_fa rfl fo43_0 rfl) ?_
        refine s_val rfl rfl (r_ld rfl ty31 rfl (H.cellI 0 rfl rfl)) ?_
        refine s_val rfl rfl (r_lenL rfl un31 rfl) ?_
        refine s_val rfl rfl (r_mv rfl rfl) ?_
        refine s_nil ?_
        refine q_then ?_
        refine c_env [(1, .pointer (some ⟨b26, 0, none⟩)), (2, .bool false), (26, .slice A1 J.us.length c2), (27, .int .i64 ((J.us.length : Nat) : Int)), (28, .int .i64 0)] ⟨rfl, rfl, rfl, rfl, rfl, trivial⟩ ?_
        refine c_block ?_
        refine c_loop (σ := Nat) (fun k => [(1, .pointer (some ⟨b26, 0, none⟩)), (26, .slice A1 J.us.length c2), (27, .int .i64 ((J.us.length : Nat) : Int)), (28, .int .i64 ((k : Nat) : Int))]) (fun k w => (Hd w0 F0 w [blk b26 [.slice A1 J.us.length c2, .int .i64 J.parts, .slice A6 J.map.length c7, .slice A11 J.comb.length c12, .slice A16 J.red.length c17, .int .i64 J.chunk, .int .i64 J.window, .int .i64 J.fuel, .slice A21 J.marks.length c22] 43] [rsl (kHd kPair) (.slice A1 J.us.length c2) J.us, rsl kIns (.slice A6 J.map.length c7) J.map, rsl kIns (.slice A11 J.comb.length c12) J.comb, rsl kIns (.slice A16 J.red.length c17) J.red, rsl (kInt .i64) (.slice A21 J.marks.length c22) J.marks]) ∧ (k ≤ J.us.length) ∧ (∀ u ∈ J.us.take k, okSplit u.2)) (fun k => J.us.length - k) 0 ⟨rfl, rfl, rfl, rfl, trivial⟩ ⟨H, by omega, by simp⟩ ?_
        rintro k w ⟨H, hk, hn⟩
        refine c_seq ?_
        refine c_reg ?_
        refine s_val rfl rfl (r_lt rfl rfl rfl) ?_
        refine s_nil ?_
        refine q_then ?_
        refine c_env [(1, .pointer (some ⟨b26, 0, none⟩)), (26, .slice A1 J.us.length c2), (27, .int .i64 ((J.us.length : Nat) : Int)), (28, .int .i64 ((k : Nat) : Int)), (29, .bool (decide (((k : Nat) : Int) < ((J.us.length : Nat) : Int))))] ⟨rfl, rfl, rfl, rfl, rfl, trivial⟩ ?_
        refine c_seq ?_
        refine c_dec (p := ((k : Nat) : Int) < ((J.us.length : Nat) : Int)) rfl (fun h30 => ?_) (fun h30 => ?_)
        · skip
          refine c_skip ?_
          refine q_then ?_
          refine c_env [(1, .pointer (some ⟨b26, 0, none⟩)), (26, .slice A1 J.us.length c2), (27, .int .i64 ((J.us.length : Nat) : Int)), (28, .int .i64 ((k : Nat) : Int))] ⟨rfl, rfl, rfl, rfl, trivial⟩ ?_
          refine c_seq ?_
          refine c_block ?_
          refine c_seq ?_
          refine c_reg ?_
          obtain ⟨⟨u33, x31⟩, hx32⟩ : ∃ z9, J.us[k]? = some z9 := ⟨_, List.getElem?_eq_getElem (show k < J.us.length by omega)⟩
          obtain ⟨A34, c35, rfl, hc36, hm37⟩ := H.nestR 0 rfl hx32
          have th38 := H.thRd 0 rfl hx32
          refine s_val rfl rfl (r_iaE (p := oOf A1 + k * 1) rfl sl31 rfl rfl (by omega) (by omega) th38 rfl) ?_
          refine s_val rfl rfl (r_ld rfl ty23 rfl (H.elRd 0 rfl hx32 rfl)) ?_
          refine s_val rfl rfl (r_as rfl rfl) ?_
          refine s_nil ?_
          refine q_then ?_
          refine c_env [(1, .pointer (some ⟨b26, 0, none⟩)), (4, .slice A34 x31.length c35), (26, .slice A1 J.us.length c2), (27, .int .i64 ((J.us.length : Nat) : Int)), (28, .int .i64 ((k : Nat) : Int))] ⟨rfl, rfl, rfl, rfl, rfl, trivial⟩ ?_
          refine c_seq ?_
          refine c_reg ?_
          refine s_val rfl rfl (r_mv rfl rfl) ?_
          refine s_val rfl rfl (r_lenL rfl un23 rfl) ?_
          refine s_val rfl rfl (r_gt rfl rfl rfl) ?_
          refine s_val rfl rfl (r_mv rfl rfl) ?_
          refine s_dec (d := 35) (p := (8 : Int) < ((x31.length : Nat) : Int)) rfl (fun h39 => ?_) (fun h39 => ?_)
          · skip
            refine s_no rfl rfl ?_
            refine s_no rfl rfl ?_
            refine s_no rfl rfl ?_
            refine s_val rfl rfl (r_pickT rfl rfl rfl) ?_
            refine s_nil ?_
            refine q_then ?_
            refine c_env [(1, .pointer (some ⟨b26, 0, none⟩)), (26, .slice A1 J.us.length c2), (27, .int .i64 ((J.us.length : Nat) : Int)), (28, .int .i64 ((k : Nat) : Int)), (39, .bool true)] ⟨rfl, rfl, rfl, rfl, rfl, trivial⟩ ?_
            refine c_yes rfl ?_
            refine c_seq ?_
            refine c_reg ?_
            refine s_val rfl rfl (r_as rfl rfl) ?_
            refine s_nil ?_
            refine q_then ?_
            refine c_env [(1, .pointer (some ⟨b26, 0, none⟩)), (2, .bool false), (26, .slice A1 J.us.length c2), (27, .int .i64 ((J.us.length : Nat) : Int)), (28, .int .i64 ((k : Nat) : Int))] ⟨rfl, rfl, rfl, rfl, rfl, trivial⟩ ?_
            refine c_ret ?_
            refine q_blockR ?_
            refine q_thenR ?_
            refine q_thenR ?_
            refine q_blockR ?_
            refine q_thenR ?_
            refine q_ret1 rfl rfl ?_
            replace H := H.keep 0
            have e : ¬ mayJ J := by
              rintro ⟨g1, g2, g3, g4, g5, g6, g7, g8, g9, g10, g11⟩
              have g := g4 _ (at_mem hx32); have ga : x31.length ≤ 8 := g.1; first | exact (h39 g.2).elim | omega
            exact fin ⟨congrArg Value.bool (decide_eq_false e).symm, rfl⟩ H
          · skip
            refine s_val rfl rfl (r_mv rfl rfl) ?_
            refine sc (pMayL_ok (.slice A34 x31.length c35) x31) H (lX (fun F hA hR => nest_rsl (hR _ (List.mem_of_getElem? (i := 0) rfl)) hx32) l0) rfl rfl (e_fn kn43 rfl rfl) ?_
            rintro _ _ w ⟨rfl, rfl⟩ H
            refine s_val rfl rfl (r_notP rfl rfl) ?_
            refine s_val rfl rfl (r_pickF rfl rfl rfl) ?_
            refine s_nil ?_
            refine q_then ?_
            refine c_env [(1, .pointer (some ⟨b26, 0, none⟩)), (26, .slice A1 J.us.length c2), (27, .int .i64 ((J.us.length : Nat) : Int)), (28, .int .i64 ((k : Nat) : Int)), (39, .bool (decide (¬ (mayL x31))))] ⟨rfl, rfl, rfl, rfl, rfl, trivial⟩ ?_
            refine c_dec (p := ¬ (mayL x31)) rfl (fun h40 => ?_) (fun h40 => ?_)
            · skip
              refine c_seq ?_
              refine c_reg ?_
              refine s_val rfl rfl (r_as rfl rfl) ?_
              refine s_nil ?_
              refine q_then ?_
              refine c_env [(1, .pointer (some ⟨b26, 0, none⟩)), (2, .bool false), (26, .slice A1 J.us.length c2), (27, .int .i64 ((J.us.length : Nat) : Int)), (28, .int .i64 ((k : Nat) : Int))] ⟨rfl, rfl, rfl, rfl, rfl, trivial⟩ ?_
              refine c_ret ?_
              refine q_blockR ?_
              refine q_thenR ?_
              refine q_thenR ?_
              refine q_blockR ?_
              refine q_thenR ?_
              refine q_ret1 rfl rfl ?_
              replace H := H.keep 0
              have e : ¬ mayJ J := by
                rintro ⟨g1, g2, g3, g4, g5, g6, g7, g8, g9, g10, g11⟩
                have g := g4 _ (at_mem hx32); have ga : x31.length ≤ 8 := g.1; first | exact (h40 g.2).elim | omega
              exact fin ⟨congrArg Value.bool (decide_eq_false e).symm, rfl⟩ H
            · skip
              refine c_skip ?_
              refine q_blockN ?_
              refine q_then ?_
              refine c_env [(1, .pointer (some ⟨b26, 0, none⟩)), (26, .slice A1 J.us.length c2), (27, .int .i64 ((J.us.length : Nat) : Int)), (28, .int .i64 ((k : Nat) : Int))] ⟨rfl, rfl, rfl, rfl, trivial⟩ ?_
              refine c_reg ?_
              refine s_val rfl rfl (r_add (z := ((k + 1 : Nat) : Int)) rfl rfl rfl (by rw [w64 (by omega) (by omega)]; omega)) ?_
              refine s_val rfl rfl (r_mv rfl rfl) ?_
              refine s_nil ?_
              have hn2 := take_prop (Q := fun u : Value × List Pair => okSplit u.2) hn hx32 ⟨(show x31.length ≤ 8 by omega), Classical.not_not.1 h40⟩
              exact q_round (s := k) (k + 1) ⟨rfl, rfl, rfl, rfl, trivial⟩ ⟨H, by (try dsimp only); omega, hn2⟩ (by (try dsimp only); omega)
        · skip
          refine c_exit ?_
          refine q_thenE ?_
          refine q_thenE ?_
          refine q_blockE ?_
          refine q_then ?_
          refine c_env [(1, .pointer (some ⟨b26, 0, none⟩))] ⟨rfl, trivial⟩ ?_
          refine c_seq ?_
          refine c_reg ?_
          refine s_val rfl rfl (r_as rfl rfl) ?_
          refine s_nil ?_
          refine q_then ?_
          refine c_env [(1, .pointer (some ⟨b26, 0, none⟩)), (5, .int .i64 0)] ⟨rfl, rfl, trivial⟩ ?_
          refine c_seq ?_
          refine c_seq ?_
          refine c_reg ?_
          refine s_val rfl rfl (r_fa rfl fo43_8 rfl) ?_
          refine s_val rfl rfl (r_ld rfl ty41 rfl (H.cellI 0 rfl rfl)) ?_
          refine s_val rfl rfl (r_lenL rfl un41 rfl) ?_
          refine s_val rfl rfl (r_mv rfl rfl) ?_
          refine s_nil ?_
          refine q_then ?_
          refine c_env [(1, .pointer (some ⟨b26, 0, none⟩)), (5, .int .i64 0), (42, .slice A21 J.marks.length c22), (43, .int .i64 ((J.marks.length : Nat) : Int)), (44, .int .i64 0)] ⟨rfl, rfl, rfl, rfl, rfl, trivial⟩ ?_
          refine c_block ?_
          have hal : ∀ u ∈ J.us, okSplit u.2 := by rw [← take_all (xs := J.us) (k := k) (by omega)]; exact hn
          refine c_loop (σ := Nat × Int) (fun (j, last) => [(1, .pointer (some ⟨b26, 0, none⟩)), (5, .int .i64 last), (42, .slice A21 J.marks.length c22), (43, .int .i64 ((J.marks.length : Nat) : Int)), (44, .int .i64 ((j : Nat) : Int))]) (fun (j, last) w => (Hd w0 F0 w [blk b26 [.slice A1 J.us.length c2, .int .i64 J.parts, .slice A6 J.map.length c7, .slice A11 J.comb.length c12, .slice A16 J.red.length c17, .int .i64 J.chunk, .int .i64 J.window, .int .i64 J.fuel, .slice A21 J.marks.length c22] 43] [rsl (kHd kPair) (.slice A1 J.us.length c2) J.us, rsl kIns (.slice A6 J.map.length c7) J.map, rsl kIns (.slice A11 J.comb.length c12) J.comb, rsl kIns (.slice A16 J.red.length c17) J.red, rsl (kInt .i64) (.slice A21 J.marks.length c22) J.marks]) ∧ (j ≤ J.marks.length ∧ 0 ≤ last ∧ last ≤ 6) ∧ (marksUp J.us.length last (J.marks.drop j) ↔ marksUp J.us.length 0 J.marks)) (fun (j, last) => J.marks.length - j) (0, 0) ⟨rfl, rfl, rfl, rfl, rfl, trivial⟩ ⟨H, by (try dsimp only); omega, Iff.rfl⟩ ?_
          rintro ⟨j, last⟩ w ⟨H, hj, hm⟩
          refine c_seq ?_
          refine c_reg ?_
          refine s_val rfl rfl (r_lt rfl rfl rfl) ?_
          refine s_nil ?_
          refine q_then ?_
          refine c_env [(1, .pointer (some ⟨b26, 0, none⟩)), (5, .int .i64 last), (42, .slice A21 J.marks.length c22), (43, .int .i64 ((J.marks.length : Nat) : Int)), (44, .int .i64 ((j : Nat) : Int)), (45, .bool (decide (((j : Nat) : Int) < ((J.marks.length : Nat) : Int))))] ⟨rfl, rfl, rfl, rfl, rfl, rfl, trivial⟩ ?_
          refine c_seq ?_
          refine c_dec (p := ((j : Nat) : Int) < ((J.marks.length : Nat) : Int)) rfl (fun h41 => ?_) (fun h41 => ?_)
          · skip
            refine c_skip ?_
            refine q_then ?_
            refine c_env [(1, .pointer (some ⟨b26, 0, none⟩)), (5, .int .i64 last), (42, .slice A21 J.marks.length c22), (43, .int .i64 ((J.marks.length : Nat) : Int)), (44, .int .i64 ((j : Nat) : Int))] ⟨rfl, rfl, rfl, rfl, rfl, trivial⟩ ?_
            refine c_seq ?_
            refine c_block ?_
            refine c_seq ?_
            refine c_reg ?_
            obtain ⟨x42, hx43⟩ : ∃ z9, J.marks[j]? = some z9 := ⟨_, List.getElem?_eq_getElem (show j < J.marks.length by omega)⟩
            have th44 := H.thR 4 rfl hx43
            refine s_val rfl rfl (r_iaE (p := oOf A21 + j * 1) rfl sl41 rfl rfl (by omega) (by omega) th44 rfl) ?_
            refine s_val rfl rfl (r_ld rfl ty3 rfl (H.elR 4 rfl hx43 (q := 0) rfl rfl)) ?_
            refine s_val rfl rfl (r_as rfl rfl) ?_
            refine s_nil ?_
            refine q_then ?_
            refine c_env [(1, .pointer (some ⟨b26, 0, none⟩)), (5, .int .i64 last), (7, .int .i64 x42), (42, .slice A21 J.marks.length c22), (43, .int .i64 ((J.marks.length : Nat) : Int)), (44, .int .i64 ((j : Nat) : Int))] ⟨rfl, rfl, rfl, rfl, rfl, rfl, trivial⟩ ?_
            refine c_seq ?_
            refine c_seq ?_
            refine c_reg ?_
            refine s_val rfl rfl (r_mv rfl rfl) ?_
            refine s_val rfl rfl (r_mv rfl rfl) ?_
            refine s_val rfl rfl (r_add (z := last + 1) rfl rfl rfl (w64 (by omega) (by omega))) ?_
            refine s_val rfl rfl (r_fa rfl fo43_0 rfl) ?_
            refine s_val rfl rfl (r_ld rfl ty31 rfl (H.cellI 0 rfl rfl)) ?_
            refine s_val rfl rfl (r_lenL rfl un31 rfl) ?_
            refine sc (within_ok x42 (last + 1) ((J.us.length : Nat) : Int)) H l0 rfl rfl (e_fn kn42 rfl rfl) ?_
            rintro _ _ w ⟨rfl, rfl⟩ H
            refine s_val rfl rfl (r_notP rfl rfl) ?_
            refine s_nil ?_
            refine q_then ?_
            refine c_env [(1, .pointer (some ⟨b26, 0, none⟩)), (5, .int .i64 last), (7, .int .i64 x42), (42, .slice A21 J.marks.length c22), (43, .int .i64 ((J.marks.length : Nat) : Int)), (44, .int .i64 ((j : Nat) : Int)), (55, .bool (decide (¬ ((last + 1) ≤ x42 ∧ x42 ≤ ((J.us.length : Nat) : Int)))))] ⟨rfl, rfl, rfl, rfl, rfl, rfl, rfl, trivial⟩ ?_
            refine c_dec (p := ¬ ((last + 1) ≤ x42 ∧ x42 ≤ ((J.us.length : Nat) : Int))) rfl (fun h45 => ?_) (fun h45 => ?_)
            · skip
              refine c_seq ?_
              refine c_reg ?_
              refine s_val rfl rfl (r_as rfl rfl) ?_
              refine s_nil ?_
              refine q_then ?_
              refine c_env [(1, .pointer (some ⟨b26, 0, none⟩)), (2, .bool false), (5, .int .i64 last), (7, .int .i64 x42), (42, .slice A21 J.marks.length c22), (43, .int .i64 ((J.marks.length : Nat) : Int)), (44, .int .i64 ((j : Nat) : Int))] ⟨rfl, rfl, rfl, rfl, rfl, rfl, rfl, trivial⟩ ?_
              refine c_ret ?_
              refine q_thenR ?_
              refine q_blockR ?_
              refine q_thenR ?_
              refine q_thenR ?_
              refine q_blockR ?_
              refine q_thenR ?_
              refine q_ret1 rfl rfl ?_
              replace H := H.keep 0
              have e : ¬ mayJ J := by
                rintro ⟨g1, g2, g3, g4, g5, g6, g7, g8, g9, g10, g11⟩
                have g := hm.2 g5; rw [drop_at hx43] at g; have g0 := g.1; omega
              exact fin ⟨congrArg Value.bool (decide_eq_false e).symm, rfl⟩ H
            · skip
              refine c_skip ?_
              refine q_then ?_
              refine c_env [(1, .pointer (some ⟨b26, 0, none⟩)), (5, .int .i64 last), (7, .int .i64 x42), (42, .slice A21 J.marks.length c22), (43, .int .i64 ((J.marks.length : Nat) : Int)), (44, .int .i64 ((j : Nat) : Int))] ⟨rfl, rfl, rfl, rfl, rfl, rfl, trivial⟩ ?_
              refine c_reg ?_
              refine s_val rfl rfl (r_mv rfl rfl) ?_
              refine s_val rfl rfl (r_as rfl rfl) ?_
              refine s_nil ?_
              refine q_blockN ?_
              refine q_then ?_
              refine c_env [(1, .pointer (some ⟨b26, 0, none⟩)), (5, .int .i64 x42), (42, .slice A21 J.marks.length c22), (43, .int .i64 ((J.marks.length : Nat) : Int)), (44, .int .i64 ((j : Nat) : Int))] ⟨rfl, rfl, rfl, rfl, rfl, trivial⟩ ?_
              refine c_reg ?_
              refine s_val rfl rfl (r_add (z := ((j + 1 : Nat) : Int)) rfl rfl rfl (by rw [w64 (by omega) (by omega)]; omega)) ?_
              refine s_val rfl rfl (r_mv rfl rfl) ?_
              refine s_nil ?_
              have hm2 : marksUp J.us.length x42 (J.marks.drop (j + 1)) ↔ marksUp J.us.length 0 J.marks := by rw [← hm, drop_at hx43]; exact ⟨fun g => ⟨by omega, g⟩, fun g => g.2⟩
              exact q_round (s := (j, last)) (j + 1, x42) ⟨rfl, rfl, rfl, rfl, rfl, trivial⟩ ⟨H, by (try dsimp only); omega, hm2⟩ (by (try dsimp only); omega)
          · skip
            refine c_exit ?_
            refine q_thenE ?_
            refine q_thenE ?_
            refine q_blockE ?_
            refine q_then ?_
            refine c_env [(1, .pointer (some ⟨b26, 0, none⟩))] ⟨rfl, trivial⟩ ?_
            refine c_seq ?_
            refine c_reg ?_
            refine s_val rfl rfl (r_fa rfl fo43_2 rfl) ?_
            refine s_val rfl rfl (r_ld rfl ty22 rfl (H.cellI 0 rfl rfl)) ?_
            refine sc (jruns_ok (.slice A6 J.map.length c7) J.map) H (lR 1 rfl l0) rfl rfl (e_fn kn44 rfl rfl) ?_
            rintro _ _ w ⟨rfl, rfl⟩ H
            refine s_val rfl rfl (r_mv rfl rfl) ?_
            refine s_dec (d := 61) (p := 0 < (J.map).length ∧ badI J.map < 0) rfl (fun h46 => ?_) (fun h46 => ?_)
            · skip
              refine s_val rfl rfl (r_fa rfl fo43_4 rfl) ?_
              refine s_val rfl rfl (r_ld rfl ty22 rfl (H.cellI 0 rfl rfl)) ?_
              refine sc (jruns_ok (.slice A16 J.red.length c17) J.red) H (lR 3 rfl l0) rfl rfl (e_fn kn44 rfl rfl) ?_
              rintro _ _ w ⟨rfl, rfl⟩ H
              refine s_val rfl rfl (r_pickT rfl rfl rfl) ?_
              refine s_val rfl rfl (r_mv rfl rfl) ?_
              refine s_dec (d := 66) (p := 0 < (J.red).length ∧ badI J.red < 0) rfl (fun h47 => ?_) (fun h47 => ?_)
              · skip
                refine s_val rfl rfl (r_fa rfl fo43_3 rfl) ?_
                refine s_val rfl rfl (r_ld rfl ty22 rfl (H.cellI 0 rfl rfl)) ?_
                refine sc (pMay_ok (.slice A11 J.comb.length c12) J.comb) H (lR 2 rfl l0) rfl rfl (e_fn kn45 rfl rfl) ?_
                rintro _ _ w ⟨rfl, rfl⟩ H
                refine s_val rfl rfl (r_pickT rfl rfl rfl) ?_
                refine s_val rfl rfl (r_mv rfl rfl) ?_
                refine s_dec (d := 71) (p := badI J.comb < 0) rfl (fun h48 => ?_) (fun h48 => ?_)
                · skip
                  refine s_val rfl rfl (r_fa rfl fo43_5 rfl) ?_
                  refine s_val rfl rfl (r_ld rfl ty3 rfl (H.cellI 0 rfl rfl)) ?_
                  refine sc (within_ok J.chunk 1 7) H l0 rfl rfl (e_fn kn42 rfl rfl) ?_
                  rintro _ _ w ⟨rfl, rfl⟩ H
                  refine s_val rfl rfl (r_pickT rfl rfl rfl) ?_
                  refine s_val rfl rfl (r_mv rfl rfl) ?_
                  refine s_dec (d := 76) (p := 1 ≤ J.chunk ∧ J.chunk ≤ 7) rfl (fun h49 => ?_) (fun h49 => ?_)
                  · skip
                    refine s_val rfl rfl (r_fa rfl fo43_6 rfl) ?_
                    refine s_val rfl rfl (r_ld rfl ty3 rfl (H.cellI 0 rfl rfl)) ?_
                    refine sc (within_ok J.window 1 4) H l0 rfl rfl (e_fn kn42 rfl rfl) ?_
                    rintro _ _ w ⟨rfl, rfl⟩ H
                    refine s_val rfl rfl (r_pickT rfl rfl rfl) ?_
                    refine s_val rfl rfl (r_mv rfl rfl) ?_
                    refine s_dec (d := 81) (p := 1 ≤ J.window ∧ J.window ≤ 4) rfl (fun h50 => ?_) (fun h50 => ?_)
                    · skip
                      refine s_val rfl rfl (r_fa rfl fo43_7 rfl) ?_
                      refine s_val rfl rfl (r_ld rfl ty3 rfl (H.cellI 0 rfl rfl)) ?_
                      refine sc (within_ok J.fuel 1 2000) H l0 rfl rfl (e_fn kn42 rfl rfl) ?_
                      rintro _ _ w ⟨rfl, rfl⟩ H
                      refine s_val rfl rfl (r_pickT rfl rfl rfl) ?_
                      refine s_val rfl rfl (r_as rfl rfl) ?_
                      refine s_nil ?_
                      refine q_then ?_
                      refine c_env [(2, .bool (decide (1 ≤ J.fuel ∧ J.fuel ≤ 2000)))] ⟨rfl, trivial⟩ ?_
                      refine c_ret ?_
                      refine q_ret1 rfl rfl ?_
                      replace H := H.keep 0
                      have hmk : marksUp J.us.length 0 J.marks := hm.1 (by rw [List.drop_eq_nil_of_le (by omega)]; trivial)
                      have e : (1 ≤ J.fuel ∧ J.fuel ≤ 2000) ↔ mayJ J := ⟨fun g => ⟨by omega, by omega, by omega, hal, hmk, by omega, by omega, by omega, by omega, by omega, by omega⟩, fun g => by have g6 := g.2.2.2.2.2; omega⟩
                      exact fin ⟨congrArg Value.bool (decide_eq_decide.2 e), rfl⟩ H
                    · skip
                      refine s_no rfl rfl ?_
                      refine s_no rfl rfl ?_
                      refine s_no rfl rfl ?_
                      refine s_val rfl rfl (r_pickF rfl rfl rfl) ?_
                      refine s_val rfl rfl (r_as rfl rfl) ?_
                      refine s_nil ?_
                      refine q_then ?_
                      refine c_env [(2, .bool false)] ⟨rfl, trivial⟩ ?_
                      refine c_ret ?_
                      refine q_ret1 rfl rfl ?_
                      replace H := H.keep 0
                      have e : ¬ mayJ J := by
                        rintro ⟨g1, g2, g3, g4, g5, g6, g7, g8, g9, g10, g11⟩
                        omega
                      exact fin ⟨congrArg Value.bool (decide_eq_false e).symm, rfl⟩ H
                  · skip
                    refine s_no rfl rfl ?_
                    refine s_no rfl rfl ?_
                    refine s_no rfl rfl ?_
                    refine s_val rfl rfl (r_pickF rfl rfl rfl) ?_
                    refine s_val rfl rfl (r_mv rfl rfl) ?_
                    refine s_no rfl rfl ?_
                    refine s_no rfl rfl ?_
                    refine s_no rfl rfl ?_
                    refine s_val rfl rfl (r_pickF rfl rfl rfl) ?_
                    refine s_val rfl rfl (r_as rfl rfl) ?_
                    refine s_nil ?_
                    refine q_then ?_
                    refine c_env [(2, .bool false)] ⟨rfl, trivial⟩ ?_
                    refine c_ret ?_
                    refine q_ret1 rfl rfl ?_
                    replace H := H.keep 0
                    have e : ¬ mayJ J := by
                      rintro ⟨g1, g2, g3, g4, g5, g6, g7, g8, g9, g10, g11⟩
                      omega
                    exact fin ⟨congrArg Value.bool (decide_eq_false e).symm, rfl⟩ H
                · skip
                  refine s_no rfl rfl ?_
                  refine s_no rfl rfl ?_
                  refine s_no rfl rfl ?_
                  refine s_val rfl rfl (r_pickF rfl rfl rfl) ?_
                  refine s_val rfl rfl (r_mv rfl rfl) ?_
                  refine s_no rfl rfl ?_
                  refine s_no rfl rfl ?_
                  refine s_no rfl rfl ?_
                  refine s_val rfl rfl (r_pickF rfl rfl rfl) ?_
                  refine s_val rfl rfl (r_mv rfl rfl) ?_
                  refine s_no rfl rfl ?_
                  refine s_no rfl rfl ?_
                  refine s_no rfl rfl ?_
                  refine s_val rfl rfl (r_pickF rfl rfl rfl) ?_
                  refine s_val rfl rfl (r_as rfl rfl) ?_
                  refine s_nil ?_
                  refine q_then ?_
                  refine c_env [(2, .bool false)] ⟨rfl, trivial⟩ ?_
                  refine c_ret ?_
                  refine q_ret1 rfl rfl ?_
                  replace H := H.keep 0
                  have e : ¬ mayJ J := by
                    rintro ⟨g1, g2, g3, g4, g5, g6, g7, g8, g9, g10, g11⟩
                    omega
                  exact fin ⟨congrArg Value.bool (decide_eq_false e).symm, rfl⟩ H
              · skip
                refine s_no rfl rfl ?_
                refine s_no rfl rfl ?_
                refine s_no rfl rfl ?_
                refine s_val rfl rfl (r_pickF rfl rfl rfl) ?_
                refine s_val rfl rfl (r_mv rfl rfl) ?_
                refine s_no rfl rfl ?_
                refine s_no rfl rfl ?_
                refine s_no rfl rfl ?_
                refine s_val rfl rfl (r_pickF rfl rfl rfl) ?_
                refine s_val rfl rfl (r_mv rfl rfl) ?_
                refine s_no rfl rfl ?_
                refine s_no rfl rfl ?_
                refine s_no rfl rfl ?_
                refine s_val rfl rfl (r_pickF rfl rfl rfl) ?_
                refine s_val rfl rfl (r_mv rfl rfl) ?_
                refine s_no rfl rfl ?_
                refine s_no rfl rfl ?_
                refine s_no rfl rfl ?_
                refine s_val rfl rfl (r_pickF rfl rfl rfl) ?_
                refine s_val rfl rfl (r_as rfl rfl) ?_
                refine s_nil ?_
                refine q_then ?_
                refine c_env [(2, .bool false)] ⟨rfl, trivial⟩ ?_
                refine c_ret ?_
                refine q_ret1 rfl rfl ?_
                replace H := H.keep 0
                have e : ¬ mayJ J := by
                  rintro ⟨g1, g2, g3, g4, g5, g6, g7, g8, g9, g10, g11⟩
                  omega
                exact fin ⟨congrArg Value.bool (decide_eq_false e).symm, rfl⟩ H
            · skip
              refine s_no rfl rfl ?_
              refine s_no rfl rfl ?_
              refine s_no rfl rfl ?_
              refine s_val rfl rfl (r_pickF rfl rfl rfl) ?_
              refine s_val rfl rfl (r_mv rfl rfl) ?_
              refine s_no rfl rfl ?_
              refine s_no rfl rfl ?_
              refine s_no rfl rfl ?_
              refine s_val rfl rfl (r_pickF rfl rfl rfl) ?_
              refine s_val rfl rfl (r_mv rfl rfl) ?_
              refine s_no rfl rfl ?_
              refine s_no rfl rfl ?_
              refine s_no rfl rfl ?_
              refine s_val rfl rfl (r_pickF rfl rfl rfl) ?_
              refine s_val rfl rfl (r_mv rfl rfl) ?_
              refine s_no rfl rfl ?_
              refine s_no rfl rfl ?_
              refine s_no rfl rfl ?_
              refine s_val rfl rfl (r_pickF rfl rfl rfl) ?_
              refine s_val rfl rfl (r_mv rfl rfl) ?_
              refine s_no rfl rfl ?_
              refine s_no rfl rfl ?_
              refine s_no rfl rfl ?_
              refine s_val rfl rfl (r_pickF rfl rfl rfl) ?_
              refine s_val rfl rfl (r_as rfl rfl) ?_
              refine s_nil ?_
              refine q_then ?_
              refine c_env [(2, .bool false)] ⟨rfl, trivial⟩ ?_
              refine c_ret ?_
              refine q_ret1 rfl rfl ?_
              replace H := H.keep 0
              have e : ¬ mayJ J := by
                rintro ⟨g1, g2, g3, g4, g5, g6, g7, g8, g9, g10, g11⟩
                omega
              exact fin ⟨congrArg Value.bool (decide_eq_false e).symm, rfl⟩ H

set_option maxHeartbeats 1000000 in
theorem greatJob_ok (vS vM vC vR vK : Value) (J : Job) :
    Cn Tryz.prog 21 [.agg #[vS, .int .i64 J.parts, vM, vC, vR, .int .i64 J.chunk, .int .i64 J.window, .int .i64 J.fuel, vK]] [] [rsl (kHd kPair) vS J.us, rsl kIns vM J.map, rsl kIns vC J.comb, rsl kIns vR J.red, rsl (kInt .i64) vK J.marks] (fun v Bs => v = .bool (greatJ J) ∧ Bs = []) := by
  intro w0 F0 H
  obtain ⟨A1, c2, rfl, hc3, hm4, hp5⟩ := H.fR 0 rfl
  obtain ⟨A6, c7, rfl, hc8, hm9, hp10⟩ := H.fR 1 rfl
  obtain ⟨A11, c12, rfl, hc13, hm14, hp15⟩ := H.fR 2 rfl
  obtain ⟨A16, c17, rfl, hc18, hm19, hp20⟩ := H.fR 3 rfl
  obtain ⟨A21, c22, rfl, hc23, hm24, hp25⟩ := H.fR 4 rfl
  refine enter (args := [.agg #[.slice A1 J.us.length c2, .int .i64 J.parts, .slice A6 J.map.length c7, .slice A11 J.comb.length c12, .slice A16 J.red.length c17, .int .i64 J.chunk, .int .i64 J.window, .int .i64 J.fuel, .slice A21 J.marks.length c22]]) Tryz.func21 rfl rfl (Nat.le_of_ble_eq_true rfl) ?_
  refine c_seq ?_
  refine c_reg ?_
  refine s_box rfl rfl rfl rfl H (fun b26 w H => ?_)
  refine s_val rfl rfl (r_as rfl rfl) ?_
  refine s_nil ?_
  refine q_then ?_
  replace H : Hd _ _ _ [blk b26 [.slice A1 J.us.length c2, .int .i64 J.parts, .slice A6 J.map.length c7, .slice A11 J.comb.length c12, .slice A16 J.red.length c17, .int .i64 J.chunk, .int .i64 J.window, .int .i64 J.fuel, .slice A21 J.marks.length c22] 43] [rsl (kHd kPair) (.slice A1 J.us.length c2) J.us, rsl kIns (.slice A6 J.map.length c7) J.map, rsl kIns (.slice A11 J.comb.length c12) J.comb, rsl kIns (.slice A16 J.red.length c17) J.red, rsl (kInt .i64) (.slice A21 J.marks.length c22) J.marks] := H
  refine c_env [(1, .pointer (some ⟨b26, 0, none⟩)), (2, .bool false)] ⟨rfl, rfl, trivial⟩ ?_
  refine c_seq ?_
  refine c_seq ?_
  refine c_reg ?_
  refine s_val rfl rfl (r_as rfl rfl) ?_
  refine s_nil ?_
  refine q_then ?_
  refine c_env [(1, .pointer (some ⟨b26, 0, none⟩)), (2, .bool false), (3, .int .i64 0)] ⟨rfl, rfl, rfl, trivial⟩ ?_
  refine c_block ?_
  refine c_loop (σ := Nat) (fun k => [(1, .pointer (some ⟨b26, 0, none⟩)), (3, .int .i64 ((k : Nat) : Int))]) (fun k w => (Hd w0 F0 w [blk b26 [.slice A1 J.us.length c2, .int .i64 J.parts, .slice A6 J.map.length c7, .slice A11 J.comb.length c12, .slice A16 J.red.length c17, .int .i64 J.chunk, .int .i64 J.window, .int .i64 J.fuel, .slice A21 J.marks.length c22] 43] [rsl (kHd kPair) (.slice A1 J.us.length c2) J.us, rsl kIns (.slice A6 J.map.length c7) J.map, rsl kIns (.slice A11 J.comb.length c12) J.comb, rsl kIns (.slice A16 J.red.length c17) J.red, rsl (kInt .i64) (.slice A21 J.marks.length c22) J.marks]) ∧ (k ≤ J.us.length) ∧ (∀ u ∈ J.us.take k, greatP u.2 10 = false)) (fun k => J.us.length - k) 0 ⟨rfl, rfl, trivial⟩ ⟨H, by omega, by simp⟩ ?_
  rintro k w ⟨H, hk, hn⟩
  refine c_seq ?_
  refine c_seq ?_
  refine c_reg ?_
  refine s_val rfl rfl (r_mv rfl rfl) ?_
  refine s_val rfl rfl (r_fa rfl fo43_0 rfl) ?_
  refine s_val rfl rfl (r_ld rfl ty31 rfl (H.cellI 0 rfl rfl)) ?_
  refine s_val rfl rfl (r_lenL rfl un31 rfl) ?_
  refine s_val rfl rfl (r_lt rfl rfl rfl) ?_
  refine s_val rfl rfl (r_mv rfl rfl) ?_
  refine s_dec (d := 9) (p := ((k : Nat) : Int) < ((J.us.length : Nat) : Int)) rfl (fun h27 => ?_) (fun h27 => ?_)
  · skip
    refine s_val rfl rfl (r_fa rfl fo43_0 rfl) ?_
    refine s_val rfl rfl (r_ld rfl ty31 rfl (H.cellI 0 rfl rfl)) ?_
    refine s_val rfl rfl (r_lenL rfl un31 rfl) ?_
    refine s_val rfl rfl (r_le rfl rfl rfl) ?_
    refine s_val rfl rfl (r_pickT rfl rfl rfl) ?_
    refine s_nil ?_
    refine q_then ?_
    refine c_env [(1, .pointer (some ⟨b26, 0, none⟩)), (3, .int .i64 ((k : Nat) : Int)), (14, .bool (decide (((J.us.length : Nat) : Int) ≤ 8)))] ⟨rfl, rfl, rfl, trivial⟩ ?_
    refine c_dec (p := ((J.us.length : Nat) : Int) ≤ 8) rfl (fun h28 => ?_) (fun h28 => ?_)
    · skip
      refine c_skip ?_
      refine q_then ?_
      refine c_env [(1, .pointer (some ⟨b26, 0, none⟩)), (3, .int .i64 ((k : Nat) : Int))] ⟨rfl, rfl, trivial⟩ ?_
      refine c_seq ?_
      refine c_block ?_
      refine c_seq ?_
      refine c_reg ?_
      refine s_val rfl rfl (r_fa rfl fo43_0 rfl) ?_
      refine s_val rfl rfl (r_ld rfl ty31 rfl (H.cellI 0 rfl rfl)) ?_
      refine s_val rfl rfl (r_mv rfl rfl) ?_
      obtain ⟨⟨u31, x29⟩, hx30⟩ : ∃ z9, J.us[k]? = some z9 := ⟨_, List.getElem?_eq_getElem (show k < J.us.length by omega)⟩
      obtain ⟨A32, c33, rfl, hc34, hm35⟩ := H.nestR 0 rfl hx30
      have th36 := H.thRd 0 rfl hx30
      refine s_val rfl rfl (r_iaE (p := oOf A1 + k * 1) rfl sl31 rfl rfl (by omega) (by omega) th36 rfl) ?_
      refine s_val rfl rfl (r_ld rfl ty23 rfl (H.elRd 0 rfl hx30 rfl)) ?_
      refine sc (greatPairs_ok (.slice A32 x29.length c33) x29 10) H (lX (fun F hA hR => nest_rsl (hR _ (List.mem_of_getElem? (i := 0) rfl)) hx30) l0) rfl rfl (e_fn kn14 rfl rfl) ?_
      rintro _ _ w ⟨rfl, rfl⟩ H
      refine s_nil ?_
      refine q_then ?_
      refine c_env [(1, .pointer (some ⟨b26, 0, none⟩)), (3, .int .i64 ((k : Nat) : Int)), (22, .bool (greatP x29 10))] ⟨rfl, rfl, rfl, trivial⟩ ?_
      refine c_cond (b := greatP x29 10) rfl (fun h37 => ?_) (fun h37 => ?_)
      · skip
        refine c_seq ?_
        refine c_reg ?_
        refine s_val rfl rfl (r_as rfl rfl) ?_
        refine s_nil ?_
        refine q_then ?_
        refine c_env [(1, .pointer (some ⟨b26, 0, none⟩)), (2, .bool true), (3, .int .i64 ((k : Nat) : Int))] ⟨rfl, rfl, rfl, trivial⟩ ?_
        refine c_ret ?_
        refine q_blockR ?_
        refine q_thenR ?_
        refine q_thenR ?_
        refine q_blockR ?_
        refine q_thenR ?_
        refine q_ret1 rfl rfl ?_
        replace H := H.keep 0
        exact fin ⟨congrArg Value.bool (greatJ_hit hx30 h37), rfl⟩ H
      · skip
        refine c_skip ?_
        refine q_blockN ?_
        refine q_then ?_
        refine c_env [(1, .pointer (some ⟨b26, 0, none⟩)), (3, .int .i64 ((k : Nat) : Int))] ⟨rfl, rfl, trivial⟩ ?_
        refine c_reg ?_
        refine s_val rfl rfl (r_mv rfl rfl) ?_
        refine s_val rfl rfl (r_add (z := ((k + 1 : Nat) : Int)) rfl rfl rfl (by rw [w64 (by omega) (by omega)]; omega)) ?_
        refine s_val rfl rfl (r_as rfl rfl) ?_
        refine s_nil ?_
        have hn2 := take_prop (Q := fun u : Value × List Pair => greatP u.2 10 = false) hn hx30 (show greatP x29 10 = false by simpa using h37)
        exact q_round (s := k) (k + 1) ⟨rfl, rfl, trivial⟩ ⟨H, by (try dsimp only); omega, hn2⟩ (by (try dsimp only); omega)
    · skip
      refine c_exit ?_
      refine q_thenE ?_
      refine q_thenE ?_
      refine q_blockE ?_
      refine q_then ?_
      refine c_env [(1, .pointer (some ⟨b26, 0, none⟩))] ⟨rfl, trivial⟩ ?_
      refine c_seq ?_
      refine c_reg ?_
      refine s_val rfl rfl (r_fa rfl fo43_0 rfl) ?_
      refine s_val rfl rfl (r_ld rfl ty31 rfl (H.cellI 0 rfl rfl)) ?_
      refine s_val rfl rfl (r_lenL rfl un31 rfl) ?_
      refine s_val rfl rfl (r_gt rfl rfl rfl) ?_
      refine s_val rfl rfl (r_mv rfl rfl) ?_
      refine s_dec (d := 27) (p := (8 : Int) < ((J.us.length : Nat) : Int)) rfl (fun h38 => ?_) (fun h38 => ?_)
      · skip
        refine s_no rfl rfl ?_
        refine s_no rfl rfl ?_
        refine s_no rfl rfl ?_
        refine s_no rfl rfl ?_
        refine s_val rfl rfl (r_pickT rfl rfl rfl) ?_
        refine s_val rfl rfl (r_mv rfl rfl) ?_
        refine s_no rfl rfl ?_
        refine s_no rfl rfl ?_
        refine s_no rfl rfl ?_
        refine s_val rfl rfl (r_pickT rfl rfl rfl) ?_
        refine s_val rfl rfl (r_mv rfl rfl) ?_
        refine s_no rfl rfl ?_
        refine s_no rfl rfl ?_
        refine s_no rfl rfl ?_
        refine s_val rfl rfl (r_pickT rfl rfl rfl) ?_
        refine s_val rfl rfl (r_mv rfl rfl) ?_
        refine s_no rfl rfl ?_
        refine s_no rfl rfl ?_
        refine s_no rfl rfl ?_
        refine s_val rfl rfl (r_pickT rfl rfl rfl) ?_
        refine s_val rfl rfl (r_as rfl rfl) ?_
        refine s_nil ?_
        refine q_then ?_
        refine c_env [(2, .bool true)] ⟨rfl, trivial⟩ ?_
        refine c_ret ?_
        refine q_ret1 rfl rfl ?_
        replace H := H.keep 0
        exact fin ⟨congrArg Value.bool (greatJ_of (by first | exact .inl (by omega) | exact .inr (.inl (by omega)) | exact .inr (.inr (.inl h38)) | exact .inr (.inr (.inr h38)))), rfl⟩ H
      · skip
        refine s_val rfl rfl (r_fa rfl fo43_8 rfl) ?_
        refine s_val rfl rfl (r_ld rfl ty41 rfl (H.cellI 0 rfl rfl)) ?_
        refine s_val rfl rfl (r_lenL rfl un41 rfl) ?_
        refine s_val rfl rfl (r_gt rfl rfl rfl) ?_
        refine s_val rfl rfl (r_pickF rfl rfl rfl) ?_
        refine s_val rfl rfl (r_mv rfl rfl) ?_
        refine s_dec (d := 33) (p := (10 : Int) < ((J.marks.length : Nat) : Int)) rfl (fun h39 => ?_) (fun h39 => ?_)
        · skip
          refine s_no rfl rfl ?_
          refine s_no rfl rfl ?_
          refine s_no rfl rfl ?_
          refine s_val rfl rfl (r_pickT rfl rfl rfl) ?_
          refine s_val rfl rfl (r_mv rfl rfl) ?_
          refine s_no rfl rfl ?_
          refine s_no rfl rfl ?_
          refine s_no rfl rfl ?_
          refine s_val rfl rfl (r_pickT rfl rfl rfl) ?_
          refine s_val rfl rfl (r_mv rfl rfl) ?_
          refine s_no rfl rfl ?_
          refine s_no rfl rfl ?_
          refine s_no rfl rfl ?_
          refine s_val rfl rfl (r_pickT rfl rfl rfl) ?_
          refine s_val rfl rfl (r_as rfl rfl) ?_
          refine s_nil ?_
          refine q_then ?_
          refine c_env [(2, .bool true)] ⟨rfl, trivial⟩ ?_
          refine c_ret ?_
          refine q_ret1 rfl rfl ?_
          replace H := H.keep 0
          exact fin ⟨congrArg Value.bool (greatJ_of (by first | exact .inl (by omega) | exact .inr (.inl (by omega)) | exact .inr (.inr (.inl h39)) | exact .inr (.inr (.inr h39)))), rfl⟩ H
        · skip
          refine s_val rfl rfl (r_fa rfl fo43_2 rfl) ?_
          refine s_val rfl rfl (r_ld rfl ty22 rfl (H.cellI 0 rfl rfl)) ?_
          refine sc (greatCode_ok (.slice A6 J.map.length c7) J.map) H (lR 1 rfl l0) rfl rfl (e_fn kn12 rfl rfl) ?_
          rintro _ _ w ⟨rfl, rfl⟩ H
          refine s_val rfl rfl (r_pickF rfl rfl rfl) ?_
          refine s_val rfl rfl (r_mv rfl rfl) ?_
          refine s_boo (d := 38) (b := greatC J.map) rfl (fun h40 => ?_) (fun h40 => ?_)
          · skip
            refine s_no rfl rfl ?_
            refine s_no rfl rfl ?_
            refine s_no rfl rfl ?_
            refine s_val rfl rfl (r_pickT rfl rfl rfl) ?_
            refine s_val rfl rfl (r_mv rfl rfl) ?_
            refine s_no rfl rfl ?_
            refine s_no rfl rfl ?_
            refine s_no rfl rfl ?_
            refine s_val rfl rfl (r_pickT rfl rfl rfl) ?_
            refine s_val rfl rfl (r_as rfl rfl) ?_
            refine s_nil ?_
            refine q_then ?_
            refine c_env [(2, .bool true)] ⟨rfl, trivial⟩ ?_
            refine c_ret ?_
            refine q_ret1 rfl rfl ?_
            replace H := H.keep 0
            exact fin ⟨congrArg Value.bool (greatJ_of (by first | exact .inl (by omega) | exact .inr (.inl (by omega)) | exact .inr (.inr (.inl h40)) | exact .inr (.inr (.inr h40)))), rfl⟩ H
          · skip
            refine s_val rfl rfl (r_fa rfl fo43_3 rfl) ?_
            refine s_val rfl rfl (r_ld rfl ty22 rfl (H.cellI 0 rfl rfl)) ?_
            refine sc (greatCode_ok (.slice A11 J.comb.length c12) J.comb) H (lR 2 rfl l0) rfl rfl (e_fn kn12 rfl rfl) ?_
            rintro _ _ w ⟨rfl, rfl⟩ H
            refine s_val rfl rfl (r_pickF rfl rfl rfl) ?_
            refine s_val rfl rfl (r_mv rfl rfl) ?_
            refine s_boo (d := 43) (b := greatC J.comb) rfl (fun h41 => ?_) (fun h41 => ?_)
            · skip
              refine s_no rfl rfl ?_
              refine s_no rfl rfl ?_
              refine s_no rfl rfl ?_
              refine s_val rfl rfl (r_pickT rfl rfl rfl) ?_
              refine s_val rfl rfl (r_as rfl rfl) ?_
              refine s_nil ?_
              refine q_then ?_
              refine c_env [(2, .bool true)] ⟨rfl, trivial⟩ ?_
              refine c_ret ?_
              refine q_ret1 rfl rfl ?_
              replace H := H.keep 0
              exact fin ⟨congrArg Value.bool (greatJ_of (by first | exact .inl (by omega) | exact .inr (.inl (by omega)) | exact .inr (.inr (.inl h41)) | exact .inr (.inr (.inr h41)))), rfl⟩ H
            · skip
              refine s_val rfl rfl (r_fa rfl fo43_4 rfl) ?_
              refine s_val rfl rfl (r_ld rfl ty22 rfl (H.cellI 0 rfl rfl)) ?_
              refine sc (greatCode_ok (.slice A16 J.red.length c17) J.red) H (lR 3 rfl l0) rfl rfl (e_fn kn12 rfl rfl) ?_
              rintro _ _ w ⟨rfl, rfl⟩ H
              refine s_val rfl rfl (r_pickF rfl rfl rfl) ?_
              refine s_val rfl rfl (r_as rfl rfl) ?_
              refine s_nil ?_
              refine q_then ?_
              refine c_env [(2, .bool (greatC J.red))] ⟨rfl, trivial⟩ ?_
              refine c_ret ?_
              refine q_ret1 rfl rfl ?_
              replace H := H.keep 0
              exact fin ⟨congrArg Value.bool (greatJ_fin hn (by omega) (by omega) (by omega) (by simpa using h40) (by simpa using h41)), rfl⟩ H
  · skip
    refine s_no rfl rfl ?_
    refine s_no rfl rfl ?_
    refine s_no rfl rfl ?_
    refine s_no rfl rfl ?_
    refine s_val rfl rfl (r_pickF rfl rfl rfl) ?_
    refine s_nil ?_
    refine q_then ?_
    refine c_env [(1, .pointer (some ⟨b26, 0, none⟩)), (3, .int .i64 ((k : Nat) : Int)), (14, .bool false)] ⟨rfl, rfl, rfl, trivial⟩ ?_
    refine c_no rfl ?_
    refine c_exit ?_
    refine q_thenE ?_
    refine q_thenE ?_
    refine q_blockE ?_
    refine q_then ?_
    refine c_env [(1, .pointer (some ⟨b26, 0, none⟩))] ⟨rfl, trivial⟩ ?_
    refine c_seq ?_
    refine c_reg ?_
    refine s_val rfl rfl (r_fa rfl fo43_0 rfl) ?_
    refine s_val rfl rfl (r_ld rfl ty31 rfl (H.cellI 0 rfl rfl)) ?_
    refine s_val rfl rfl (r_lenL rfl un31 rfl) ?_
    refine s_val rfl rfl (r_gt rfl rfl rfl) ?_
    refine s_val rfl rfl (r_mv rfl rfl) ?_
    refine s_dec (d := 27) (p := (8 : Int) < ((J.us.length : Nat) : Int)) rfl (fun h42 => ?_) (fun h42 => ?_)
    · skip
      refine s_no rfl rfl ?_
      refine s_no rfl rfl ?_
      refine s_no rfl rfl ?_
      refine s_no rfl rfl ?_
      refine s_val rfl rfl (r_pickT rfl rfl rfl) ?_
      refine s_val rfl rfl (r_mv rfl rfl) ?_
      refine s_no rfl rfl ?_
      refine s_no rfl rfl ?_
      refine s_no rfl rfl ?_
      refine s_val rfl rfl (r_pickT rfl rfl rfl) ?_
      refine s_val rfl rfl (r_mv rfl rfl) ?_
      refine s_no rfl rfl ?_
      refine s_no rfl rfl ?_
      refine s_no rfl rfl ?_
      refine s_val rfl rfl (r_pickT rfl rfl rfl) ?_
      refine s_val rfl rfl (r_mv rfl rfl) ?_
      refine s_no rfl rfl ?_
      refine s_no rfl rfl ?_
      refine s_no rfl rfl ?_
      refine s_val rfl rfl (r_pickT rfl rfl rfl) ?_
      refine s_val rfl rfl (r_as rfl rfl) ?_
      refine s_nil ?_
      refine q_then ?_
      refine c_env [(2, .bool true)] ⟨rfl, trivial⟩ ?_
      refine c_ret ?_
      refine q_ret1 rfl rfl ?_
      replace H := H.keep 0
      exact fin ⟨congrArg Value.bool (greatJ_of (by first | exact .inl (by omega) | exact .inr (.inl (by omega)) | exact .inr (.inr (.inl h42)) | exact .inr (.inr (.inr h42)))), rfl⟩ H
    · skip
      refine s_val rfl rfl (r_fa rfl fo43_8 rfl) ?_
      refine s_val rfl rfl (r_ld rfl ty41 rfl (H.cellI 0 rfl rfl)) ?_
      refine s_val rfl rfl (r_lenL rfl un41 rfl) ?_
      refine s_val rfl rfl (r_gt rfl rfl rfl) ?_
      refine s_val rfl rfl (r_pickF rfl rfl rfl) ?_
      refine s_val rfl rfl (r_mv rfl rfl) ?_
      refine s_dec (d := 33) (p := (10 : Int) < ((J.marks.length : Nat) : Int)) rfl (fun h43 => ?_) (fun h43 => ?_)
      · skip
        refine s_no rfl rfl ?_
        refine s_no rfl rfl ?_
        refine s_no rfl rfl ?_
        refine s_val rfl rfl (r_pickT rfl rfl rfl) ?_
        refine s_val rfl rfl (r_mv rfl rfl) ?_
        refine s_no rfl rfl ?_
        refine s_no rfl rfl ?_
        refine s_no rfl rfl ?_
        refine s_val rfl rfl (r_pickT rfl rfl rfl) ?_
        refine s_val rfl rfl (r_mv rfl rfl) ?_
        refine s_no rfl rfl ?_
        refine s_no rfl rfl ?_
        refine s_no rfl rfl ?_
        refine s_val rfl rfl (r_pickT rfl rfl rfl) ?_
        refine s_val rfl rfl (r_as rfl rfl) ?_
        refine s_nil ?_
        refine q_then ?_
        refine c_env [(2, .bool true)] ⟨rfl, trivial⟩ ?_
        refine c_ret ?_
        refine q_ret1 rfl rfl ?_
        replace H := H.keep 0
        exact fin ⟨congrArg Value.bool (greatJ_of (by first | exact .inl (by omega) | exact .inr (.inl (by omega)) | exact .inr (.inr (.inl h43)) | exact .inr (.inr (.inr h43)))), rfl⟩ H
      · skip
        refine s_val rfl rfl (r_fa rfl fo43_2 rfl) ?_
        refine s_val rfl rfl (r_ld rfl ty22 rfl (H.cellI 0 rfl rfl)) ?_
        refine sc (greatCode_ok (.slice A6 J.map.length c7) J.map) H (lR 1 rfl l0) rfl rfl (e_fn kn12 rfl rfl) ?_
        rintro _ _ w ⟨rfl, rfl⟩ H
        refine s_val rfl rfl (r_pickF rfl rfl rfl) ?_
        refine s_val rfl rfl (r_mv rfl rfl) ?_
        refine s_boo (d := 38) (b := greatC J.map) rfl (fun h44 => ?_) (fun h44 => ?_)
        · skip
          refine s_no rfl rfl ?_
          refine s_no rfl rfl ?_
          refine s_no rfl rfl ?_
          refine s_val rfl rfl (r_pickT rfl rfl rfl) ?_
          refine s_val rfl rfl (r_mv rfl rfl) ?_
          refine s_no rfl rfl ?_
          refine s_no rfl rfl ?_
          refine s_no rfl rfl ?_
          refine s_val rfl rfl (r_pickT rfl rfl rfl) ?_
          refine s_val rfl rfl (r_as rfl rfl) ?_
          refine s_nil ?_
          refine q_then ?_
          refine c_env [(2, .bool true)] ⟨rfl, trivial⟩ ?_
          refine c_ret ?_
          refine q_ret1 rfl rfl ?_
          replace H := H.keep 0
          exact fin ⟨congrArg Value.bool (greatJ_of (by first | exact .inl (by omega) | exact .inr (.inl (by omega)) | exact .inr (.inr (.inl h44)) | exact .inr (.inr (.inr h44)))), rfl⟩ H
        · skip
          refine s_val rfl rfl (r_fa rfl fo43_3 rfl) ?_
          refine s_val rfl rfl (r_ld rfl ty22 rfl (H.cellI 0 rfl rfl)) ?_
          refine sc (greatCode_ok (.slice A11 J.comb.length c12) J.comb) H (lR 2 rfl l0) rfl rfl (e_fn kn12 rfl rfl) ?_
          rintro _ _ w ⟨rfl, rfl⟩ H
          refine s_val rfl rfl (r_pickF rfl rfl rfl) ?_
          refine s_val rfl rfl (r_mv rfl rfl) ?_
          refine s_boo (d := 43) (b := greatC J.comb) rfl (fun h45 => ?_) (fun h45 => ?_)
          · skip
            refine s_no rfl rfl ?_
            refine s_no rfl rfl ?_
            refine s_no rfl rfl ?_
            refine s_val rfl rfl (r_pickT rfl rfl rfl) ?_
            refine s_val rfl rfl (r_as rfl rfl) ?_
            refine s_nil ?_
            refine q_then ?_
            refine c_env [(2, .bool true)] ⟨rfl, trivial⟩ ?_
            refine c_ret ?_
            refine q_ret1 rfl rfl ?_
            replace H := H.keep 0
            exact fin ⟨congrArg Value.bool (greatJ_of (by first | exact .inl (by omega) | exact .inr (.inl (by omega)) | exact .inr (.inr (.inl h45)) | exact .inr (.inr (.inr h45)))), rfl⟩ H
          · skip
            refine s_val rfl rfl (r_fa rfl fo43_4 rfl) ?_
            refine s_val rfl rfl (r_ld rfl ty22 rfl (H.cellI 0 rfl rfl)) ?_
            refine sc (greatCode_ok (.slice A16 J.red.length c17) J.red) H (lR 3 rfl l0) rfl rfl (e_fn kn12 rfl rfl) ?_
            rintro _ _ w ⟨rfl, rfl⟩ H
            refine s_val rfl rfl (r_pickF rfl rfl rfl) ?_
            refine s_val rfl rfl (r_as rfl rfl) ?_
            refine s_nil ?_
            refine q_then ?_
            refine c_env [(2, .bool (greatC J.red))] ⟨rfl, trivial⟩ ?_
            refine c_ret ?_
            refine q_ret1 rfl rfl ?_
            replace H := H.keep 0
            exact fin ⟨congrArg Value.bool (greatJ_fin hn (by omega) (by omega) (by omega) (by simpa using h44) (by simpa using h45)), rfl⟩ H

set_option maxHeartbeats 1000000 in
theorem sameRuns_ok (vus : Value) (us : List (Value × List Pair)) (vvs : Value) (vs : List (Value × List Pair)) :
    Cn Tryz.prog 29 [vus, vvs] [] [rsl (kHd kPair) vus us, rsl (kHd kPair) vvs vs] (fun v Bs => v = .bool (decide ((us : List (Value × List Pair)).map (·.2) = (vs : List (Value × List Pair)).map (·.2))) ∧ Bs = []) := by
  intro w0 F0 H
  obtain ⟨A1, c2, rfl, hc3, hm4, hp5⟩ := H.fR 0 rfl
  obtain ⟨A6, c7, rfl, hc8, hm9, hp10⟩ := H.fR 1 rfl
  refine enter (args := [.slice A1 us.length c2, .slice A6 vs.length c7]) Tryz.func29 rfl rfl (Nat.le_of_ble_eq_true rfl) ?_
  refine c_seq ?_
  refine c_reg ?_
  refine s_val rfl rfl (r_as rfl rfl) ?_
  refine s_nil ?_
  refine q_then ?_
  replace H : Hd _ _ _ [] [rsl (kHd kPair) (.slice A1 us.length c2) us, rsl (kHd kPair) (.slice A6 vs.length c7) vs] := H
  refine c_env [(0, .slice A1 us.length c2), (1, .slice A6 vs.length c7), (4, .bool false)] ⟨rfl, rfl, rfl, trivial⟩ ?_
  refine c_seq ?_
  refine c_seq ?_
  refine c_reg ?_
  refine s_val rfl rfl (r_mv rfl rfl) ?_
  refine s_val rfl rfl (r_lenL rfl un31 rfl) ?_
  refine s_val rfl rfl (r_mv rfl rfl) ?_
  refine s_val rfl rfl (r_lenL rfl un31 rfl) ?_
  refine s_val rfl rfl (r_ne rfl rfl rfl) ?_
  refine s_nil ?_
  refine q_then ?_
  refine c_env [(0, .slice A1 us.length c2), (1, .slice A6 vs.length c7), (4, .bool false), (10, .bool (decide (((us.length : Nat) : Int) ≠ ((vs.length : Nat) : Int))))] ⟨rfl, rfl, rfl, rfl, trivial⟩ ?_
  refine c_dec (p := ((us.length : Nat) : Int) ≠ ((vs.length : Nat) : Int)) rfl (fun h11 => ?_) (fun h11 => ?_)
  · skip
    refine c_seq ?_
    refine c_reg ?_
    refine s_val rfl rfl (r_as rfl rfl) ?_
    refine s_nil ?_
    refine q_then ?_
    refine c_env [(0, .slice A1 us.length c2), (1, .slice A6 vs.length c7), (4, .bool false)] ⟨rfl, rfl, rfl, trivial⟩ ?_
    refine c_ret ?_
    refine q_thenR ?_
    refine q_ret1 rfl rfl ?_
    have e : ¬ us.map (·.2) = vs.map (·.2) := fun e => by have := congrArg List.length e; simp only [List.length_map] at this; omega
    exact fin ⟨by rw [decide_eq_false e], rfl⟩ H
  · skip
    refine c_skip ?_
    refine q_then ?_
    refine c_env [(0, .slice A1 us.length c2), (1, .slice A6 vs.length c7), (4, .bool false)] ⟨rfl, rfl, rfl, trivial⟩ ?_
    refine c_seq ?_
    refine c_seq ?_
    refine c_reg ?_
    refine s_val rfl rfl (r_as rfl rfl) ?_
    refine s_nil ?_
    refine q_then ?_
    refine c_env [(0, .slice A1 us.length c2), (1, .slice A6 vs.length c7), (4, .bool false), (5, .int .i64 0)] ⟨rfl, rfl, rfl, rfl, trivial⟩ ?_
    refine c_block ?_
    have hle : us.length = vs.length := by omega
    refine c_loop (σ := Nat) (fun k => [(0, .slice A1 us.length c2), (1, .slice A6 vs.length c7), (5, .int .i64 ((k : Nat) : Int))]) (fun k w => (Hd w0 F0 w [] [rsl (kHd kPair) (.slice A1 us.length c2) us, rsl (kHd kPair) (.slice A6 vs.length c7) vs]) ∧ (k ≤ us.length) ∧ (us.length = vs.length) ∧ ((us.take k).map (·.2) = (vs.take k).map (·.2))) (fun k => us.length - k) 0 ⟨rfl, rfl, rfl, trivial⟩ ⟨H, by (try dsimp only); omega, hle, rfl⟩ ?_
    rintro k w ⟨H, hk, hle, ht⟩
    refine c_seq ?_
    refine c_seq ?_
    refine c_reg ?_
    refine s_val rfl rfl (r_mv rfl rfl) ?_
    refine s_val rfl rfl (r_mv rfl rfl) ?_
    refine s_val rfl rfl (r_lenL rfl un31 rfl) ?_
    refine s_val rfl rfl (r_lt rfl rfl rfl) ?_
    refine s_nil ?_
    refine q_then ?_
    refine c_env [(0, .slice A1 us.length c2), (1, .slice A6 vs.length c7), (5, .int .i64 ((k : Nat) : Int)), (14, .bool (decide (((k : Nat) : Int) < ((us.length : Nat) : Int))))] ⟨rfl, rfl, rfl, rfl, trivial⟩ ?_
    refine c_dec (p := ((k : Nat) : Int) < ((us.length : Nat) : Int)) rfl (fun h12 => ?_) (fun h12 => ?_)
    · skip
      refine c_skip ?_
      refine q_then ?_
      refine c_env [(0, .slice A1 us.length c2), (1, .slice A6 vs.length c7), (5, .int .i64 ((k : Nat) : Int))] ⟨rfl, rfl, rfl, trivial⟩ ?_
      refine c_seq ?_
      refine c_block ?_
      refine c_seq ?_
      refine c_ord (.e 0 (.e 1 (.e 2 (.e 3 (.e 4 (.e 5 (.e 6 (.e 7 (.m 8 (.e 9 .z)))))))))) (fun w => ∃ Ar, Hd w0 F0 w (Ar) [rsl (kHd kPair) (.slice A1 us.length c2) us, rsl (kHd kPair) (.slice A6 vs.length c7) vs]) mo (by kernel_rfl) (fun w H => ⟨_, H⟩) H (fun w H => ?_)
      refine d_val rfl rfl rfl (fun w ⟨Ar, H⟩ => r_mv rfl rfl) ?_
      refine d_val rfl rfl rfl (fun w ⟨Ar, H⟩ => r_mv rfl rfl) ?_
      obtain ⟨⟨u15, x13⟩, hx14⟩ : ∃ z9, us[k]? = some z9 := ⟨_, List.getElem?_eq_getElem (show k < us.length by omega)⟩
      obtain ⟨A16, c17, rfl, hc18, hm19⟩ := H.nestR 0 rfl hx14
      have th20 := H.thRd 0 rfl hx14
      refine d_val rfl rfl rfl (fun w ⟨Ar, H⟩ => r_iaE (p := oOf A1 + k * 1) rfl sl31 rfl rfl (by omega) (by omega) th20 rfl) ?_
      refine d_val rfl rfl rfl (fun w ⟨Ar, H⟩ => r_ld rfl ty23 rfl (H.elRd 0 rfl hx14 rfl)) ?_
      refine d_val rfl rfl rfl (fun w ⟨Ar, H⟩ => r_mv rfl rfl) ?_
      refine d_val rfl rfl rfl (fun w ⟨Ar, H⟩ => r_mv rfl rfl) ?_
      obtain ⟨⟨u23, x21⟩, hx22⟩ : ∃ z9, vs[k]? = some z9 := ⟨_, List.getElem?_eq_getElem (show k < vs.length by omega)⟩
      obtain ⟨A24, c25, rfl, hc26, hm27⟩ := H.nestR 1 rfl hx22
      have th28 := H.thRd 1 rfl hx22
      refine d_val rfl rfl rfl (fun w ⟨Ar, H⟩ => r_iaE (p := oOf A6 + k * 1) rfl sl31 rfl rfl (by omega) (by omega) th28 rfl) ?_
      refine d_val rfl rfl rfl (fun w ⟨Ar, H⟩ => r_ld rfl ty23 rfl (H.elRd 1 rfl hx22 rfl)) ?_
      refine d_main rfl ?_
      refine sc (samePairs_ok (.slice A16 x13.length c17) (.slice A24 x21.length c25) x13 x21) H (lX (fun F hA hR => nest_rsl (hR _ (List.mem_of_getElem? (i := 0) rfl)) hx14) (lX (fun F hA hR => nest_rsl (hR _ (List.mem_of_getElem? (i := 1) rfl)) hx22) l0)) rfl rfl (e_fn kn19 rfl rfl) ?_
      rintro _ _ w ⟨rfl, rfl⟩ H
      refine d_back ⟨_, H⟩ ?_
      refine d_val rfl rfl rfl (fun w ⟨Ar, H⟩ => r_notP rfl rfl) ?_
      refine d_nil ?_
      refine q_then ?_
      refine c_env [(0, .slice A1 us.length c2), (1, .slice A6 vs.length c7), (5, .int .i64 ((k : Nat) : Int)), (26, .bool (decide (¬ (x13 = x21))))] ⟨rfl, rfl, rfl, rfl, trivial⟩ ?_
      refine c_dec (p := ¬ (x13 = x21)) rfl (fun h29 => ?_) (fun h29 => ?_)
      · skip
        refine c_seq ?_
        refine c_reg ?_
        refine s_val rfl rfl (r_as rfl rfl) ?_
        refine s_nil ?_
        refine q_then ?_
        refine c_env [(0, .slice A1 us.length c2), (1, .slice A6 vs.length c7), (4, .bool false), (5, .int .i64 ((k : Nat) : Int))] ⟨rfl, rfl, rfl, rfl, trivial⟩ ?_
        refine c_ret ?_
        refine q_blockR ?_
        refine q_thenR ?_
        refine q_thenR ?_
        refine q_blockR ?_
        refine q_thenR ?_
        refine q_ret1 rfl rfl ?_
        have e : ¬ us.map (·.2) = vs.map (·.2) := fun e => h29 (runs_at hx14 hx22 e)
        exact fin ⟨by rw [decide_eq_false e], rfl⟩ H
      · skip
        refine c_skip ?_
        refine q_blockN ?_
        refine q_then ?_
        refine c_env [(0, .slice A1 us.length c2), (1, .slice A6 vs.length c7), (5, .int .i64 ((k : Nat) : Int))] ⟨rfl, rfl, rfl, trivial⟩ ?_
        refine c_reg ?_
        refine s_val rfl rfl (r_mv rfl rfl) ?_
        refine s_val rfl rfl (r_add (z := ((k + 1 : Nat) : Int)) rfl rfl rfl (by rw [w64 (by omega) (by omega)]; omega)) ?_
        refine s_val rfl rfl (r_as rfl rfl) ?_
        refine s_nil ?_
        have e : x13 = x21 := Classical.not_not.1 h29
        have ht2 := runs_more hx14 hx22 e ht
        exact q_round (s := k) (k + 1) ⟨rfl, rfl, rfl, trivial⟩ ⟨H, by (try dsimp only); omega, hle, ht2⟩ (by (try dsimp only); omega)
    · skip
      refine c_exit ?_
      refine q_thenE ?_
      refine q_thenE ?_
      refine q_blockE ?_
      refine q_then ?_
      refine c_env [] trivial ?_
      refine c_seq ?_
      refine c_reg ?_
      refine s_val rfl rfl (r_as rfl rfl) ?_
      refine s_nil ?_
      refine q_then ?_
      refine c_env [(4, .bool true)] ⟨rfl, trivial⟩ ?_
      refine c_ret ?_
      refine q_ret1 rfl rfl ?_
      have e : us.map (·.2) = vs.map (·.2) := by have := ht; rw [List.take_of_length_le (by omega), List.take_of_length_le (by omega)] at this; exact this
      exact fin ⟨by rw [decide_eq_true e], rfl⟩ H

set_option maxHeartbeats 1000000 in
theorem partNum_ok (key : ByteArray) (hb0 : key.size ≤ 9223372036854775807) :
    Cn Tryz.prog 68 [.string key] [] [] (fun v Bs => v = .int .u32 (numK key key.size) ∧ Bs = []) := by
  intro w0 F0 H
  refine enter (args := [.string key]) Tryz.func68 rfl rfl (Nat.le_of_ble_eq_true rfl) ?_
  refine c_seq ?_
  refine c_reg ?_
  refine s_val rfl rfl (r_as rfl rfl) ?_
  refine s_nil ?_
  refine q_then ?_
  refine c_env [(0, .string key), (2, .int .u32 0)] ⟨rfl, rfl, trivial⟩ ?_
  refine c_seq ?_
  refine c_reg ?_
  refine s_val rfl rfl (r_as rfl rfl) ?_
  refine s_nil ?_
  refine q_then ?_
  refine c_env [(0, .string key), (2, .int .u32 0), (3, .int .u32 7)] ⟨rfl, rfl, rfl, trivial⟩ ?_
  refine c_seq ?_
  refine c_seq ?_
  refine c_reg ?_
  refine s_val rfl rfl (r_mv rfl rfl) ?_
  refine s_val rfl rfl (r_lenS rfl un9 rfl) ?_
  refine s_val rfl rfl (r_mv rfl rfl) ?_
  refine s_nil ?_
  refine q_then ?_
  refine c_env [(0, .string key), (2, .int .u32 0), (3, .int .u32 7), (6, .int .i64 ((key.size : Nat) : Int)), (7, .int .i64 0)] ⟨rfl, rfl, rfl, rfl, rfl, trivial⟩ ?_
  refine c_block ?_
  refine c_loop (σ := Nat) (fun k => [(0, .string key), (2, .int .u32 0), (3, .int .u32 (numK key k)), (6, .int .i64 ((key.size : Nat) : Int)), (7, .int .i64 ((k : Nat) : Int))]) (fun k w => (Hd w0 F0 w [] []) ∧ (k ≤ key.size)) (fun k => key.size - k) 0 ⟨rfl, rfl, rfl, rfl, rfl, trivial⟩ ⟨H, by (try dsimp only); omega⟩ ?_
  rintro k w ⟨H, hk⟩
  refine c_seq ?_
  refine c_reg ?_
  refine s_val rfl rfl (r_lt rfl rfl rfl) ?_
  refine s_nil ?_
  refine q_then ?_
  refine c_env [(0, .string key), (2, .int .u32 0), (3, .int .u32 (numK key k)), (6, .int .i64 ((key.size : Nat) : Int)), (7, .int .i64 ((k : Nat) : Int)), (8, .bool (decide (((k : Nat) : Int) < ((key.size : Nat) : Int))))] ⟨rfl, rfl, rfl, rfl, rfl, rfl, trivial⟩ ?_
  refine c_seq ?_
  refine c_dec (p := ((k : Nat) : Int) < ((key.size : Nat) : Int)) rfl (fun h1 => ?_) (fun h1 => ?_)
  · skip
    refine c_skip ?_
    refine q_then ?_
    refine c_env [(0, .string key), (2, .int .u32 0), (3, .int .u32 (numK key k)), (6, .int .i64 ((key.size : Nat) : Int)), (7, .int .i64 ((k : Nat) : Int))] ⟨rfl, rfl, rfl, rfl, rfl, trivial⟩ ?_
    refine c_seq ?_
    refine c_block ?_
    refine c_seq ?_
    refine c_reg ?_
    refine s_val rfl rfl (r_mv rfl rfl) ?_
    refine s_val rfl rfl (r_as rfl rfl) ?_
    refine s_nil ?_
    refine q_then ?_
    refine c_env [(0, .string key), (2, .int .u32 0), (3, .int .u32 (numK key k)), (4, .int .i64 ((k : Nat) : Int)), (6, .int .i64 ((key.size : Nat) : Int)), (7, .int .i64 ((k : Nat) : Int))] ⟨rfl, rfl, rfl, rfl, rfl, rfl, trivial⟩ ?_
    refine c_reg ?_
    refine s_val rfl rfl (r_mv rfl rfl) ?_
    refine s_val rfl rfl (r_mul (z := IntKind.u32.wrap (31 * numK key k)) rfl rfl rfl rfl) ?_
    refine s_val rfl rfl (r_mv rfl rfl) ?_
    refine s_val rfl rfl (r_mv rfl rfl) ?_
    obtain ⟨b, hb⟩ : ∃ b, key[k]? = some b := ⟨_, getElem?_pos key k (by omega)⟩
    refine s_val rfl rfl (r_idxS rfl un9 rfl rfl (by omega) hb) ?_
    refine s_val rfl rfl (r_i2i (z := ((b).toNat : Int)) rfl rfl un5 un87 (wu32b b)) ?_
    refine s_val rfl rfl (r_add (z := IntKind.u32.wrap (IntKind.u32.wrap (31 * numK key k) + (b.toNat : Int))) rfl rfl rfl rfl) ?_
    refine s_val rfl rfl (r_as rfl rfl) ?_
    refine s_nil ?_
    refine q_blockN ?_
    refine q_then ?_
    refine c_env [(0, .string key), (2, .int .u32 0), (3, .int .u32 (IntKind.u32.wrap (IntKind.u32.wrap (31 * numK key k) + (b.toNat : Int)))), (6, .int .i64 ((key.size : Nat) : Int)), (7, .int .i64 ((k : Nat) : Int))] ⟨rfl, rfl, rfl, rfl, rfl, trivial⟩ ?_
    refine c_reg ?_
    refine s_val rfl rfl (r_add (z := ((k + 1 : Nat) : Int)) rfl rfl rfl (by rw [w64 (by omega) (by omega)]; omega)) ?_
    refine s_val rfl rfl (r_mv rfl rfl) ?_
    refine s_nil ?_
    exact q_round (s := k) (k + 1) ⟨rfl, rfl, congrArg (fun z => some (Value.int .u32 z)) (numK_step hb).symm, rfl, rfl, trivial⟩ ⟨H, by (try dsimp only); omega⟩ (by (try dsimp only); omega)
  · skip
    refine c_exit ?_
    refine q_thenE ?_
    refine q_thenE ?_
    refine q_blockE ?_
    refine q_then ?_
    refine c_env [(2, .int .u32 0), (3, .int .u32 (numK key k))] ⟨rfl, rfl, trivial⟩ ?_
    refine c_seq ?_
    refine c_reg ?_
    refine s_val rfl rfl (r_mv rfl rfl) ?_
    refine s_val rfl rfl (r_as rfl rfl) ?_
    refine s_nil ?_
    refine q_then ?_
    refine c_env [(2, .int .u32 (numK key k))] ⟨rfl, trivial⟩ ?_
    refine c_ret ?_
    refine q_ret1 rfl rfl ?_
    obtain rfl : k = key.size := by omega
    exact fin ⟨rfl, rfl⟩ H

set_option maxHeartbeats 1000000 in
theorem partOf_ok (key : ByteArray) (n : Int) (hb0 : key.size ≤ 9223372036854775807) (hn : n ≤ 9223372036854775807) :
    Cn Tryz.prog 51 [.string key, .int .i64 n] [] [] (fun v Bs => v = .int .i64 (partO key n) ∧ Bs = []) := by
  intro w0 F0 H
  refine enter (args := [.string key, .int .i64 n]) Tryz.func51 rfl rfl (Nat.le_of_ble_eq_true rfl) ?_
  refine c_seq ?_
  refine c_reg ?_
  refine s_val rfl rfl (r_as rfl rfl) ?_
  refine s_nil ?_
  refine q_then ?_
  refine c_env [(0, .string key), (1, .int .i64 n), (4, .int .i64 0)] ⟨rfl, rfl, rfl, trivial⟩ ?_
  refine c_seq ?_
  refine c_seq ?_
  refine c_reg ?_
  refine s_val rfl rfl (r_mv rfl rfl) ?_
  refine s_val rfl rfl (r_lt rfl rfl rfl) ?_
  refine s_nil ?_
  refine q_then ?_
  refine c_env [(0, .string key), (1, .int .i64 n), (4, .int .i64 0), (6, .bool (decide (n < 1)))] ⟨rfl, rfl, rfl, rfl, trivial⟩ ?_
  refine c_dec (p := n < 1) rfl (fun h1 => ?_) (fun h1 => ?_)
  · skip
    refine c_seq ?_
    refine c_reg ?_
    refine s_val rfl rfl (r_as rfl rfl) ?_
    refine s_nil ?_
    refine q_then ?_
    refine c_env [(0, .string key), (1, .int .i64 n), (4, .int .i64 (-1))] ⟨rfl, rfl, rfl, trivial⟩ ?_
    refine c_ret ?_
    refine q_thenR ?_
    refine q_ret1 rfl rfl ?_
    exact fin ⟨congrArg (Value.int .i64) (if_pos h1).symm, rfl⟩ H
  · skip
    refine c_skip ?_
    refine q_then ?_
    refine c_env [(0, .string key), (1, .int .i64 n), (4, .int .i64 0)] ⟨rfl, rfl, rfl, trivial⟩ ?_
    refine c_seq ?_
    refine c_reg ?_
    refine s_val rfl rfl (r_mv rfl rfl) ?_
    refine sc (partNum_ok key (by first | omega | decide)) H l0 rfl rfl (e_fn kn68 rfl rfl) ?_
    rintro _ _ w ⟨rfl, rfl⟩ H
    refine s_val rfl rfl (r_i2i (z := numK key key.size) rfl rfl un87 un86 (wu64 (numK_range key key.size).1 (by have := (numK_range key key.size).2; omega))) ?_
    refine s_val rfl rfl (r_mv rfl rfl) ?_
    refine s_val rfl rfl (r_i2i (z := n) rfl rfl un3 un86 (wu64 (by omega) (by omega))) ?_
    refine s_val rfl rfl (r_rem (z := (numK key key.size) % n) rfl rfl rfl (by omega) (Int.tmod_eq_emod_of_nonneg (numK_range key key.size).1)) ?_
    refine s_val rfl rfl (r_i2i (z := (numK key key.size) % n) rfl rfl un86 un3 (w64 (by have := Int.emod_nonneg (numK key key.size) (show n ≠ 0 by omega); omega) (by have := Int.emod_lt_of_pos (numK key key.size) (show 0 < n by omega); omega))) ?_
    refine s_val rfl rfl (r_as rfl rfl) ?_
    refine s_nil ?_
    refine q_then ?_
    refine c_env [(4, .int .i64 ((numK key key.size) % n))] ⟨rfl, trivial⟩ ?_
    refine c_ret ?_
    refine q_ret1 rfl rfl ?_
    exact fin ⟨congrArg (Value.int .i64) (if_neg h1).symm, rfl⟩ H

set_option maxHeartbeats 1000000 in
theorem only_ok (vxs : Value) (xs : List Pair) (n : Int) (p : Int) (hb : xs.length ≤ 1000000) (hn : n ≤ 9223372036854775807) (hk : ∀ x ∈ xs, x.key.size ≤ 9223372036854775807) :
    Cn Tryz.prog 28 [vxs, .int .i64 n, .int .i64 p] [] [rsl kPair vxs xs] (fun v Bs => Bs = [osl kPair v (onlyP xs n p)]) := by
  intro w0 F0 H
  obtain ⟨A1, c2, rfl, hc3, hm4, hp5⟩ := H.fR 0 rfl
  refine enter (args := [.slice A1 xs.length c2, .int .i64 n, .int .i64 p]) Tryz.func28 rfl rfl (Nat.le_of_ble_eq_true rfl) ?_
  refine c_seq ?_
  refine c_reg ?_
  refine s_val rfl rfl (r_as rfl rfl) ?_
  refine s_nil ?_
  refine q_then ?_
  replace H : Hd _ _ _ [] [rsl kPair (.slice A1 xs.length c2) xs] := H
  refine c_env [(0, .slice A1 xs.length c2), (1, .int .i64 n), (2, .int .i64 p), (6, .slice none 0 0)] ⟨rfl, rfl, rfl, rfl, trivial⟩ ?_
  refine c_seq ?_
  refine c_reg ?_
  refine s_val rfl rfl (r_as rfl rfl) ?_
  refine s_nil ?_
  refine q_then ?_
  refine c_env [(0, .slice A1 xs.length c2), (1, .int .i64 n), (2, .int .i64 p), (6, .slice none 0 0), (7, .slice none 0 0)] ⟨rfl, rfl, rfl, rfl, rfl, trivial⟩ ?_
  refine c_seq ?_
  refine c_seq ?_
  refine c_reg ?_
  refine s_val rfl rfl (r_mv rfl rfl) ?_
  refine s_val rfl rfl (r_lenL rfl un23 rfl) ?_
  refine s_val rfl rfl (r_mv rfl rfl) ?_
  refine s_nil ?_
  refine q_then ?_
  refine c_env [(1, .int .i64 n), (2, .int .i64 p), (6, .slice none 0 0), (7, .slice none 0 0), (10, .slice A1 xs.length c2), (11, .int .i64 ((xs.length : Nat) : Int)), (12, .int .i64 0)] ⟨rfl, rfl, rfl, rfl, rfl, rfl, rfl, trivial⟩ ?_
  refine c_block ?_
  replace H := H.newnil kPair
  refine c_loop (σ := Nat × Value) (fun (k, l) => [(1, .int .i64 n), (2, .int .i64 p), (6, .slice none 0 0), (7, l), (10, .slice A1 xs.length c2), (11, .int .i64 ((xs.length : Nat) : Int)), (12, .int .i64 ((k : Nat) : Int))]) (fun (k, l) w => (Hd w0 F0 w [osl kPair l (onlyP (xs.take k) n p)] [rsl kPair (.slice A1 xs.length c2) xs]) ∧ (k ≤ xs.length)) (fun (k, l) => xs.length - k) (0, .slice none 0 0) ⟨rfl, rfl, rfl, rfl, rfl, rfl, rfl, trivial⟩ ⟨H, by (try dsimp only); omega⟩ ?_
  rintro ⟨k, l⟩ w ⟨H, hk0⟩
  have hjl := only_len (xs.take k) n p
  have hjt : (xs.take k).length ≤ xs.length := by simp; omega
  refine c_seq ?_
  refine c_reg ?_
  refine s_val rfl rfl (r_lt rfl rfl rfl) ?_
  refine s_nil ?_
  refine q_then ?_
  refine c_env [(1, .int .i64 n), (2, .int .i64 p), (6, .slice none 0 0), (7, l), (10, .slice A1 xs.length c2), (11, .int .i64 ((xs.length : Nat) : Int)), (12, .int .i64 ((k : Nat) : Int)), (13, .bool (decide (((k : Nat) : Int) < ((xs.length : Nat) : Int))))] ⟨rfl, rfl, rfl, rfl, rfl, rfl, rfl, rfl, trivial⟩ ?_
  refine c_seq ?_
  refine c_dec (p := ((k : Nat) : Int) < ((xs.length : Nat) : Int)) rfl (fun h6 => ?_) (fun h6 => ?_)
  · skip
    refine c_skip ?_
    refine q_then ?_
    refine c_env [(1, .int .i64 n), (2, .int .i64 p), (6, .slice none 0 0), (7, l), (10, .slice A1 xs.length c2), (11, .int .i64 ((xs.length : Nat) : Int)), (12, .int .i64 ((k : Nat) : Int))] ⟨rfl, rfl, rfl, rfl, rfl, rfl, rfl, trivial⟩ ?_
    refine c_seq ?_
    refine c_block ?_
    refine c_seq ?_
    refine c_reg ?_
    obtain ⟨x7, hx8⟩ : ∃ z9, xs[k]? = some z9 := ⟨_, List.getElem?_eq_getElem (show k < xs.length by omega)⟩
    have th9 := H.thR 0 rfl hx8
    refine s_val rfl rfl (r_iaE (p := oOf A1 + k * 2) rfl sl23 rfl rfl (by omega) (by omega) th9 rfl) ?_
    refine s_val rfl rfl (r_ldA (cs := [.string x7.key, .string x7.val]) rfl ty56 rfl rfl (H.elsR 0 rfl hx8 rfl)) ?_
    refine s_alloc rfl rfl rfl zr56 H (fun b10 w H => ?_)
    refine s_st rfl rfl rfl ty56 rfl rfl H rfl (Nat.le_of_ble_eq_true rfl) (fun u hu => by simp [Value.cells] at hu; rcases hu with rfl | rfl <;> rfl) (fun w H => ?_)
    replace H : Hd _ _ _ [blk b10 [.string x7.key, .string x7.val] 56, osl kPair l (onlyP (xs.take k) n p)] [rsl kPair (.slice A1 xs.length c2) xs] := H
    refine s_nil ?_
    refine q_then ?_
    refine c_env [(1, .int .i64 n), (2, .int .i64 p), (6, .slice none 0 0), (7, l), (9, .pointer (some ⟨b10, 0, none⟩)), (10, .slice A1 xs.length c2), (11, .int .i64 ((xs.length : Nat) : Int)), (12, .int .i64 ((k : Nat) : Int))] ⟨rfl, rfl, rfl, rfl, rfl, rfl, rfl, rfl, trivial⟩ ?_
    refine c_seq ?_
    have hkx := hk _ (at_mem hx8)
    refine c_reg ?_
    refine s_val rfl rfl (r_fa rfl fo56_0 rfl) ?_
    refine s_val rfl rfl (r_ld rfl ty9 rfl (H.cellI 0 rfl rfl)) ?_
    refine s_val rfl rfl (r_mv rfl rfl) ?_
    refine sc (partOf_ok x7.key n (by first | omega | decide) (by first | omega | decide)) H l0 rfl rfl (e_fn kn51 rfl rfl) ?_
    rintro _ _ w ⟨rfl, rfl⟩ H
    refine s_val rfl rfl (r_mv rfl rfl) ?_
    refine s_val rfl rfl (r_eq rfl rfl rfl) ?_
    refine s_nil ?_
    refine q_then ?_
    refine c_env [(1, .int .i64 n), (2, .int .i64 p), (6, .slice none 0 0), (7, l), (9, .pointer (some ⟨b10, 0, none⟩)), (10, .slice A1 xs.length c2), (11, .int .i64 ((xs.length : Nat) : Int)), (12, .int .i64 ((k : Nat) : Int)), (21, .bool (decide ((partO x7.key n) = p)))] ⟨rfl, rfl, rfl, rfl, rfl, rfl, rfl, rfl, rfl, trivial⟩ ?_
    refine c_dec (p := (partO x7.key n) = p) rfl (fun h11 => ?_) (fun h11 => ?_)
    · skip
      refine c_reg ?_
      refine s_val rfl rfl (r_mv rfl rfl) ?_
      refine s_val rfl rfl (r_ldA (cs := [.string x7.key, .string x7.val]) rfl ty56 rfl rfl (H.cellsI 0 rfl rfl)) ?_
      refine s_bsl (parts := [(0, .tmp 23)]) (vs := [.agg #[.string x7.key, .string x7.val]]) (cs := [.string x7.key, .string x7.val]) rfl rfl rfl sl23 zr56 rfl (by decide) (by decide) rfl rfl H (fun b12 w H => ?_)
      replace H := H.pick 2 rfl
      refine s_appF (xs := onlyP (xs.take k) n p) (ys := [x7]) rfl rfl rfl sl23 zr56 rfl (by decide) rfl rfl H (by omega) (fun F hA hR => blk_rsl (hA _ (List.mem_of_getElem? (i := 0) rfl)) rfl (by decide) (RepsR.flat_eq.2 rfl)) (fun v13 w H => ?_)
      refine s_val rfl rfl (r_as rfl rfl) ?_
      refine s_nil ?_
      refine q_blockN ?_
      refine q_then ?_
      replace H : Hd _ _ _ [osl kPair v13 ((onlyP (xs.take k) n p) ++ [x7]), blk b12 [.string x7.key, .string x7.val] 56, blk b10 [.string x7.key, .string x7.val] 56] [rsl kPair (.slice A1 xs.length c2) xs] := H
      refine c_env [(1, .int .i64 n), (2, .int .i64 p), (6, .slice none 0 0), (7, v13), (10, .slice A1 xs.length c2), (11, .int .i64 ((xs.length : Nat) : Int)), (12, .int .i64 ((k : Nat) : Int))] ⟨rfl, rfl, rfl, rfl, rfl, rfl, rfl, trivial⟩ ?_
      refine c_reg ?_
      refine s_val rfl rfl (r_add (z := ((k + 1 : Nat) : Int)) rfl rfl rfl (by rw [w64 (by omega) (by omega)]; omega)) ?_
      refine s_val rfl rfl (r_mv rfl rfl) ?_
      refine s_nil ?_
      rw [← only_yes hx8 h11] at H
      replace H := H.keep 1
      exact q_round (s := (k, undef)) (k + 1, v13) ⟨rfl, rfl, rfl, rfl, rfl, rfl, rfl, trivial⟩ ⟨H, by (try dsimp only); omega⟩ (by (try dsimp only); omega)
    · skip
      refine c_skip ?_
      refine q_blockN ?_
      refine q_then ?_
      refine c_env [(1, .int .i64 n), (2, .int .i64 p), (6, .slice none 0 0), (7, l), (10, .slice A1 xs.length c2), (11, .int .i64 ((xs.length : Nat) : Int)), (12, .int .i64 ((k : Nat) : Int))] ⟨rfl, rfl, rfl, rfl, rfl, rfl, rfl, trivial⟩ ?_
      refine c_reg ?_
      refine s_val rfl rfl (r_add (z := ((k + 1 : Nat) : Int)) rfl rfl rfl (by rw [w64 (by omega) (by omega)]; omega)) ?_
      refine s_val rfl rfl (r_mv rfl rfl) ?_
      refine s_nil ?_
      rw [← only_no hx8 h11] at H
      replace H := H.pick 1 rfl
      replace H := H.keep 1
      exact q_round (s := (k, undef)) (k + 1, l) ⟨rfl, rfl, rfl, rfl, rfl, rfl, rfl, trivial⟩ ⟨H, by (try dsimp only); omega⟩ (by (try dsimp only); omega)
  · skip
    refine c_exit ?_
    refine q_thenE ?_
    refine q_thenE ?_
    refine q_blockE ?_
    refine q_then ?_
    refine c_env [(6, .slice none 0 0), (7, l)] ⟨rfl, rfl, trivial⟩ ?_
    refine c_seq ?_
    refine c_reg ?_
    refine s_val rfl rfl (r_mv rfl rfl) ?_
    refine s_val rfl rfl (r_as rfl rfl) ?_
    refine s_nil ?_
    refine q_then ?_
    refine c_env [(6, l)] ⟨rfl, trivial⟩ ?_
    refine c_ret ?_
    refine q_ret1 rfl rfl ?_
    rw [List.take_of_length_le (show xs.length ≤ k by omega)] at H
    exact fin rfl H

end Go.Proofs.YtlpgdkbokakniaaGreatDoor.X

set_option linter.unusedVariables false
set_option linter.unusedSimpArgs false
namespace Go.Proofs.YtlpgdkbokakniaaGreatDoor.X
open Go
set_option maxHeartbeats 1000000 in
theorem two_ok (vxs : Value) (xs : List Pair) (vys : Value) (ys : List Pair) (hb : xs.length + ys.length ≤ 1000000) :
    Cn Tryz.prog 41 [vxs, vys] [] [rsl kPair vxs xs, rsl kPair vys ys] (fun v Bs => Bs = [osl kPair v (srt (xs ++ ys))]) := by
  intro w0 F0 H
  obtain ⟨A1, c2, rfl, hc3, hm4, hp5⟩ := H.fR 0 rfl
  obtain ⟨A6, c7, rfl, hc8, hm9, hp10⟩ := H.fR 1 rfl
  refine enter (args := [.slice A1 xs.length c2, .slice A6 ys.length c7]) Tryz.func41 rfl rfl (Nat.le_of_ble_eq_true rfl) ?_
  refine c_seq ?_
  refine c_reg ?_
  refine s_val rfl rfl (r_as rfl rfl) ?_
  refine s_nil ?_
  refine q_then ?_
  replace H : Hd _ _ _ [] [rsl kPair (.slice A1 xs.length c2) xs, rsl kPair (.slice A6 ys.length c7) ys] := H
  refine c_env [(0, .slice A1 xs.length c2), (1, .slice A6 ys.length c7), (4, .slice none 0 0)] ⟨rfl, rfl, rfl, trivial⟩ ?_
  refine c_seq ?_
  refine c_seq ?_
  refine c_reg ?_
  refine s_val rfl rfl (r_mv rfl rfl) ?_
  refine sc (sorted_ok (.slice A1 xs.length c2) xs (by first | omega | decide | (simp only [List.length_append, List.length_cons, List.length_nil, srt_len]; omega))) H (lR 0 rfl l0) rfl rfl (e_fn kn27 rfl rfl) ?_
  rintro _ _ w ⟨rfl, rfl⟩ H
  refine s_val rfl rfl (r_notP rfl rfl) ?_
  refine s_val rfl rfl (r_mv rfl rfl) ?_
  refine s_dec (d := 9) (p := ¬ (Ord xs)) rfl (fun h11 => ?_) (fun h11 => ?_)
  · skip
    refine s_no rfl rfl ?_
    refine s_no rfl rfl ?_
    refine s_no rfl rfl ?_
    refine s_val rfl rfl (r_pickT rfl rfl rfl) ?_
    refine s_nil ?_
    refine q_then ?_
    refine c_env [(0, .slice A1 xs.length c2), (1, .slice A6 ys.length c7), (4, .slice none 0 0), (13, .bool true)] ⟨rfl, rfl, rfl, rfl, trivial⟩ ?_
    refine c_yes rfl ?_
    refine c_seq ?_
    refine c_reg ?_
    refine s_val rfl rfl (r_mv rfl rfl) ?_
    replace H := H.newnil kPair
    refine s_appF (xs := []) (ys := xs) rfl rfl rfl sl23 zr56 rfl (by decide) rfl rfl H (by first | omega | (simp only [List.length_append, List.length_cons, List.length_nil]; omega)) (fun F hA hR => hR _ (List.mem_of_getElem? (i := 0) rfl)) (fun v12 w H => ?_)
    refine s_val rfl rfl (r_mv rfl rfl) ?_
    refine s_appF (xs := [] ++ xs) (ys := ys) rfl rfl rfl sl23 zr56 rfl (by decide) rfl rfl H (by first | omega | (simp only [List.length_append, List.length_cons, List.length_nil]; omega)) (fun F hA hR => hR _ (List.mem_of_getElem? (i := 1) rfl)) (fun v13 w H => ?_)
    replace H : Hd _ _ _ [osl kPair v13 (([] ++ xs) ++ ys)] [rsl kPair (.slice A1 xs.length c2) xs, rsl kPair (.slice A6 ys.length c7) ys] := H
    refine sc (pairSort_ok v13 (([] ++ xs) ++ ys) (by first | omega | decide | (simp only [List.length_append, List.length_cons, List.length_nil, srt_len]; omega))) H (lA 0 rfl own_rd l0) rfl rfl (e_fn kn15 rfl rfl) ?_
    rintro v14 _ w rfl H
    refine s_val rfl rfl (r_as rfl rfl) ?_
    refine s_nil ?_
    refine q_then ?_
    replace H : Hd _ _ _ [osl kPair v14 (srt (([] ++ xs) ++ ys)), osl kPair v13 (([] ++ xs) ++ ys)] [rsl kPair (.slice A1 xs.length c2) xs, rsl kPair (.slice A6 ys.length c7) ys] := H
    refine c_env [(0, .slice A1 xs.length c2), (1, .slice A6 ys.length c7), (4, v14)] ⟨rfl, rfl, rfl, trivial⟩ ?_
    refine c_ret ?_
    refine q_thenR ?_
    refine q_ret1 rfl rfl ?_
    replace H := H.keep 1
    replace H : Hd w0 F0 w [osl kPair v14 (srt (xs ++ ys))] [rsl kPair (.slice A1 xs.length c2) xs, rsl kPair (.slice A6 ys.length c7) ys] := H
    exact fin rfl H
  · skip
    refine s_val rfl rfl (r_mv rfl rfl) ?_
    refine sc (sorted_ok (.slice A6 ys.length c7) ys (by first | omega | decide | (simp only [List.length_append, List.length_cons, List.length_nil, srt_len]; omega))) H (lR 1 rfl l0) rfl rfl (e_fn kn27 rfl rfl) ?_
    rintro _ _ w ⟨rfl, rfl⟩ H
    refine s_val rfl rfl (r_notP rfl rfl) ?_
    refine s_val rfl rfl (r_pickF rfl rfl rfl) ?_
    refine s_nil ?_
    refine q_then ?_
    refine c_env [(0, .slice A1 xs.length c2), (1, .slice A6 ys.length c7), (4, .slice none 0 0), (13, .bool (decide (¬ (Ord ys))))] ⟨rfl, rfl, rfl, rfl, trivial⟩ ?_
    refine c_dec (p := ¬ (Ord ys)) rfl (fun h15 => ?_) (fun h15 => ?_)
    · skip
      refine c_seq ?_
      refine c_reg ?_
      refine s_val rfl rfl (r_mv rfl rfl) ?_
      replace H := H.newnil kPair
      refine s_appF (xs := []) (ys := xs) rfl rfl rfl sl23 zr56 rfl (by decide) rfl rfl H (by first | omega | (simp only [List.length_append, List.length_cons, List.length_nil]; omega)) (fun F hA hR => hR _ (List.mem_of_getElem? (i := 0) rfl)) (fun v16 w H => ?_)
      refine s_val rfl rfl (r_mv rfl rfl) ?_
      refine s_appF (xs := [] ++ xs) (ys := ys) rfl rfl rfl sl23 zr56 rfl (by decide) rfl rfl H (by first | omega | (simp only [List.length_append, List.length_cons, List.length_nil]; omega)) (fun F hA hR => hR _ (List.mem_of_getElem? (i := 1) rfl)) (fun v17 w H => ?_)
      replace H : Hd _ _ _ [osl kPair v17 (([] ++ xs) ++ ys)] [rsl kPair (.slice A1 xs.length c2) xs, rsl kPair (.slice A6 ys.length c7) ys] := H
      refine sc (pairSort_ok v17 (([] ++ xs) ++ ys) (by first | omega | decide | (simp only [List.length_append, List.length_cons, List.length_nil, srt_len]; omega))) H (lA 0 rfl own_rd l0) rfl rfl (e_fn kn15 rfl rfl) ?_
      rintro v18 _ w rfl H
      refine s_val rfl rfl (r_as rfl rfl) ?_
      refine s_nil ?_
      refine q_then ?_
      replace H : Hd _ _ _ [osl kPair v18 (srt (([] ++ xs) ++ ys)), osl kPair v17 (([] ++ xs) ++ ys)] [rsl kPair (.slice A1 xs.length c2) xs, rsl kPair (.slice A6 ys.length c7) ys] := H
      refine c_env [(0, .slice A1 xs.length c2), (1, .slice A6 ys.length c7), (4, v18)] ⟨rfl, rfl, rfl, trivial⟩ ?_
      refine c_ret ?_
      refine q_thenR ?_
      refine q_ret1 rfl rfl ?_
      replace H := H.keep 1
      replace H : Hd w0 F0 w [osl kPair v18 (srt (xs ++ ys))] [rsl kPair (.slice A1 xs.length c2) xs, rsl kPair (.slice A6 ys.length c7) ys] := H
      exact fin rfl H
    · skip
      refine c_skip ?_
      refine q_then ?_
      refine c_env [(0, .slice A1 xs.length c2), (1, .slice A6 ys.length c7), (4, .slice none 0 0)] ⟨rfl, rfl, rfl, trivial⟩ ?_
      refine c_seq ?_
      have hoxs : Ord xs := Classical.not_not.1 h11
      have hoys : Ord ys := Classical.not_not.1 h15
      refine c_reg ?_
      refine s_val rfl rfl (r_as rfl rfl) ?_
      refine s_nil ?_
      refine q_then ?_
      refine c_env [(0, .slice A1 xs.length c2), (1, .slice A6 ys.length c7), (4, .slice none 0 0), (5, .slice none 0 0)] ⟨rfl, rfl, rfl, rfl, trivial⟩ ?_
      refine c_seq ?_
      refine c_block ?_
      replace H := H.newnil kPair
      replace H := H.dupR 1 rfl
      replace H := H.dupR 1 rfl
      refine c_loop (σ := Value × Value × List Pair × List Pair × Value × List Pair) (fun (u, v, al, bl, q, zs) => [(0, u), (1, v), (4, .slice none 0 0), (5, q)]) (fun (u, v, al, bl, q, zs) w => (Hd w0 F0 w [osl kPair q zs] [rsl kPair u al, rsl kPair v bl, rsl kPair (.slice A1 xs.length c2) xs, rsl kPair (.slice A6 ys.length c7) ys]) ∧ (Ord al) ∧ (Ord bl) ∧ (zs.length + (al.length + bl.length) = xs.length + ys.length) ∧ (zs ++ srt (al ++ bl) = srt (xs ++ ys))) (fun (u, v, al, bl, q, zs) => al.length + bl.length) (.slice A1 xs.length c2, .slice A6 ys.length c7, xs, ys, .slice none 0 0, []) ⟨rfl, rfl, rfl, rfl, trivial⟩ ⟨H, hoxs, hoys, by (try dsimp only); simp only [List.length_nil]; omega, rfl⟩ ?_
      rintro ⟨u, v, al, bl, q, zs⟩ w ⟨H, ha, hb2, hl, hz⟩
      refine c_seq ?_
      refine c_seq ?_
      refine c_reg ?_
      refine s_val rfl rfl (r_mv rfl rfl) ?_
      obtain ⟨A19, c20, rfl, hc21, hm22, hp23⟩ := H.fR 0 rfl
      refine s_val rfl rfl (r_lenL rfl un23 rfl) ?_
      refine s_val rfl rfl (r_gt rfl rfl rfl) ?_
      refine s_val rfl rfl (r_mv rfl rfl) ?_
      refine s_dec (d := 22) (p := (0 : Int) < ((al.length : Nat) : Int)) rfl (fun h24 => ?_) (fun h24 => ?_)
      · skip
        refine s_val rfl rfl (r_mv rfl rfl) ?_
        obtain ⟨A25, c26, rfl, hc27, hm28, hp29⟩ := H.fR 1 rfl
        refine s_val rfl rfl (r_lenL rfl un23 rfl) ?_
        refine s_val rfl rfl (r_gt rfl rfl rfl) ?_
        refine s_val rfl rfl (r_pickT rfl rfl rfl) ?_
        refine s_nil ?_
        refine q_then ?_
        replace H : Hd _ _ _ [osl kPair q zs] [rsl kPair (.slice A19 al.length c20) al, rsl kPair (.slice A25 bl.length c26) bl, rsl kPair (.slice A1 xs.length c2) xs, rsl kPair (.slice A6 ys.length c7) ys] := H
        refine c_env [(0, .slice A19 al.length c20), (1, .slice A25 bl.length c26), (4, .slice none 0 0), (5, q), (26, .bool (decide ((0 : Int) < ((bl.length : Nat) : Int))))] ⟨rfl, rfl, rfl, rfl, rfl, trivial⟩ ?_
        refine c_dec (p := (0 : Int) < ((bl.length : Nat) : Int)) rfl (fun h30 => ?_) (fun h30 => ?_)
        · skip
          refine c_skip ?_
          refine q_then ?_
          refine c_env [(0, .slice A19 al.length c20), (1, .slice A25 bl.length c26), (4, .slice none 0 0), (5, q)] ⟨rfl, rfl, rfl, rfl, trivial⟩ ?_
          refine c_block ?_
          refine c_seq ?_
          refine c_seq ?_
          refine c_draw mo (by kernel_rfl) H ?_
          refine u_val rfl rfl (fun w H => r_mv rfl rfl) ?_
          obtain ⟨x31, hx32⟩ : ∃ z9, bl[0]? = some z9 := ⟨_, List.getElem?_eq_getElem (show 0 < bl.length by omega)⟩
          have th33 := H.thR 1 rfl hx32
          refine u_val rfl rfl (fun w H => r_iaE (p := oOf A25 + 0 * 2) rfl sl23 rfl rfl (by omega) (by omega) th33 (by omega)) ?_
          refine u_val rfl rfl (fun w H => r_fa rfl fo56_0 rfl) ?_
          refine u_val rfl rfl (fun w H => r_ld rfl ty9 rfl (H.elR 1 rfl hx32 (q := 0) rfl rfl)) ?_
          refine u_val rfl rfl (fun w H => r_mv rfl rfl) ?_
          obtain ⟨x34, hx35⟩ : ∃ z9, al[0]? = some z9 := ⟨_, List.getElem?_eq_getElem (show 0 < al.length by omega)⟩
          have th36 := H.thR 0 rfl hx35
          refine u_val rfl rfl (fun w H => r_iaE (p := oOf A19 + 0 * 2) rfl sl23 rfl rfl (by omega) (by omega) th36 (by omega)) ?_
          refine u_val rfl rfl (fun w H => r_fa rfl fo56_0 rfl) ?_
          refine u_val rfl rfl (fun w H => r_ld rfl ty9 rfl (H.elR 0 rfl hx35 (q := 0) rfl rfl)) ?_
          refine u_val rfl rfl (fun w H => r_ltS rfl rfl rfl) ?_
          refine u_end (fun w H => ?_)
          refine q_then ?_
          refine c_env [(0, .slice A19 al.length c20), (1, .slice A25 bl.length c26), (4, .slice none 0 0), (5, q), (35, .bool (decide (ltS x31.key x34.key = true)))] ⟨rfl, rfl, rfl, rfl, rfl, trivial⟩ ?_
          refine c_dec (p := ltS x31.key x34.key = true) rfl (fun h37 => ?_) (fun h37 => ?_)
          · skip
            refine c_seq ?_
            refine c_reg ?_
            refine s_val rfl rfl (r_mv rfl rfl) ?_
            refine s_val rfl rfl (r_mv rfl rfl) ?_
            have th38 := H.thR 1 rfl hx32
            refine s_val rfl rfl (r_iaE (p := oOf A25 + 0 * 2) rfl sl23 rfl rfl (by omega) (by omega) th38 (by omega)) ?_
            refine s_val rfl rfl (r_ldA (cs := [.string x31.key, .string x31.val]) rfl ty56 rfl rfl (H.elsR 1 rfl hx32 rfl)) ?_
            refine s_bsl (parts := [(0, .tmp 39)]) (vs := [.agg #[.string x31.key, .string x31.val]]) (cs := [.string x31.key, .string x31.val]) rfl rfl rfl sl23 zr56 rfl (by decide) (by decide) rfl rfl H (fun b39 w H => ?_)
            replace H := H.pick 1 rfl
            refine s_appF (xs := zs) (ys := [x31]) rfl rfl rfl sl23 zr56 rfl (by decide) rfl rfl H (by first | omega | (simp only [List.length_append, List.length_cons, List.length_nil]; omega)) (fun F hA hR => blk_rsl (hA _ (List.mem_of_getElem? (i := 0) rfl)) rfl (by decide) (RepsR.flat_eq.2 rfl)) (fun v40 w H => ?_)
            refine s_val rfl rfl (r_as rfl rfl) ?_
            refine s_nil ?_
            refine q_then ?_
            replace H : Hd _ _ _ [osl kPair v40 (zs ++ [x31]), blk b39 [.string x31.key, .string x31.val] 56] [rsl kPair (.slice A19 al.length c20) al, rsl kPair (.slice A25 bl.length c26) bl, rsl kPair (.slice A1 xs.length c2) xs, rsl kPair (.slice A6 ys.length c7) ys] := H
            refine c_env [(0, .slice A19 al.length c20), (1, .slice A25 bl.length c26), (4, .slice none 0 0), (5, v40)] ⟨rfl, rfl, rfl, rfl, trivial⟩ ?_
            refine c_seq ?_
            refine c_reg ?_
            refine s_val rfl rfl (r_mv rfl rfl) ?_
            refine s_val rfl rfl (r_cutS rfl sl23 rfl rfl (by omega) (by omega) rfl) ?_
            refine s_val rfl rfl (r_as rfl rfl) ?_
            refine s_nil ?_
            refine q_then ?_
            refine c_env [(0, .slice A19 al.length c20), (1, .slice (cutA A25 c26 1 2) (bl.length - 1) (c26 - 1)), (4, .slice none 0 0), (5, v40)] ⟨rfl, rfl, rfl, rfl, trivial⟩ ?_
            refine c_exit ?_
            refine q_thenE ?_
            refine q_blockE ?_
            replace H := H.keep 1
            replace H := H.sufR 1 rfl (n := 1) (by omega)
            replace H : Hd w0 F0 w [osl kPair v40 (zs ++ [x31])] [rsl kPair (.slice A19 al.length c20) al, rsl kPair (.slice (cutA A25 c26 1 2) (bl.length - 1) (c26 - 1)) (bl.drop 1), rsl kPair (.slice A1 xs.length c2) xs, rsl kPair (.slice A6 ys.length c7) ys] := H.pickR [1, 0, 3, 4]
            have hz2 : (zs ++ [x31]) ++ srt (al ++ bl.drop 1) = srt (xs ++ ys) := by rw [← hz, mer_b hx35 hx32 ha hb2 h37, List.append_assoc]; rfl
            exact q_round (s := (undef, undef, al, bl, undef, zs)) (.slice A19 al.length c20, .slice (cutA A25 c26 1 2) (bl.length - 1) (c26 - 1), al, bl.drop 1, v40, zs ++ [x31]) ⟨rfl, rfl, rfl, rfl, trivial⟩ ⟨H, ha, ord_drop hb2 1, by (try dsimp only); simp only [List.length_append, List.length_cons, List.length_nil, List.length_drop]; omega, hz2⟩ (by (try dsimp only); simp only [List.length_drop]; omega)
          · skip
            refine c_skip ?_
            refine q_then ?_
            refine c_env [(0, .slice A19 al.length c20), (1, .slice A25 bl.length c26), (4, .slice none 0 0), (5, q)] ⟨rfl, rfl, rfl, rfl, trivial⟩ ?_
            refine c_seq ?_
            refine c_reg ?_
            refine s_val rfl rfl (r_mv rfl rfl) ?_
            refine s_val rfl rfl (r_mv rfl rfl) ?_
            have th41 := H.thR 0 rfl hx35
            refine s_val rfl rfl (r_iaE (p := oOf A19 + 0 * 2) rfl sl23 rfl rfl (by omega) (by omega) th41 (by omega)) ?_
            refine s_val rfl rfl (r_ldA (cs := [.string x34.key, .string x34.val]) rfl ty56 rfl rfl (H.elsR 0 rfl hx35 rfl)) ?_
            refine s_bsl (parts := [(0, .tmp 47)]) (vs := [.agg #[.string x34.key, .string x34.val]]) (cs := [.string x34.key, .string x34.val]) rfl rfl rfl sl23 zr56 rfl (by decide) (by decide) rfl rfl H (fun b42 w H => ?_)
            replace H := H.pick 1 rfl
            refine s_appF (xs := zs) (ys := [x34]) rfl rfl rfl sl23 zr56 rfl (by decide) rfl rfl H (by first | omega | (simp only [List.length_append, List.length_cons, List.length_nil]; omega)) (fun F hA hR => blk_rsl (hA _ (List.mem_of_getElem? (i := 0) rfl)) rfl (by decide) (RepsR.flat_eq.2 rfl)) (fun v43 w H => ?_)
            refine s_val rfl rfl (r_as rfl rfl) ?_
            refine s_nil ?_
            refine q_then ?_
            replace H : Hd _ _ _ [osl kPair v43 (zs ++ [x34]), blk b42 [.string x34.key, .string x34.val] 56] [rsl kPair (.slice A19 al.length c20) al, rsl kPair (.slice A25 bl.length c26) bl, rsl kPair (.slice A1 xs.length c2) xs, rsl kPair (.slice A6 ys.length c7) ys] := H
            refine c_env [(0, .slice A19 al.length c20), (1, .slice A25 bl.length c26), (4, .slice none 0 0), (5, v43)] ⟨rfl, rfl, rfl, rfl, trivial⟩ ?_
            refine c_reg ?_
            refine s_val rfl rfl (r_mv rfl rfl) ?_
            refine s_val rfl rfl (r_cutS rfl sl23 rfl rfl (by omega) (by omega) rfl) ?_
            refine s_val rfl rfl (r_as rfl rfl) ?_
            refine s_nil ?_
            refine q_blockN ?_
            replace H := H.keep 1
            replace H := H.sufR 0 rfl (n := 1) (by omega)
            replace H : Hd w0 F0 w [osl kPair v43 (zs ++ [x34])] [rsl kPair (.slice (cutA A19 c20 1 2) (al.length - 1) (c20 - 1)) (al.drop 1), rsl kPair (.slice A25 bl.length c26) bl, rsl kPair (.slice A1 xs.length c2) xs, rsl kPair (.slice A6 ys.length c7) ys] := H.pickR [0, 2, 3, 4]
            have hz2 : (zs ++ [x34]) ++ srt (al.drop 1 ++ bl) = srt (xs ++ ys) := by rw [← hz, mer_a hx35 hx32 ha hb2 h37, List.append_assoc]; rfl
            exact q_round (s := (undef, undef, al, bl, undef, zs)) (.slice (cutA A19 c20 1 2) (al.length - 1) (c20 - 1), .slice A25 bl.length c26, al.drop 1, bl, v43, zs ++ [x34]) ⟨rfl, rfl, rfl, rfl, trivial⟩ ⟨H, ord_drop ha 1, hb2, by (try dsimp only); simp only [List.length_append, List.length_cons, List.length_nil, List.length_drop]; omega, hz2⟩ (by (try dsimp only); simp only [List.length_drop]; omega)
        · skip
          refine c_exit ?_
          refine q_thenE ?_
          refine q_thenE ?_
          refine q_blockE ?_
          refine q_then ?_
          refine c_env [(0, .slice A19 al.length c20), (1, .slice A25 bl.length c26), (4, .slice none 0 0), (5, q)] ⟨rfl, rfl, rfl, rfl, trivial⟩ ?_
          refine c_seq ?_
          refine c_reg ?_
          refine s_val rfl rfl (r_mv rfl rfl) ?_
          refine s_val rfl rfl (r_mv rfl rfl) ?_
          refine s_appF (xs := zs) (ys := al) rfl rfl rfl sl23 zr56 rfl (by decide) rfl rfl H (by first | omega | (simp only [List.length_append, List.length_cons, List.length_nil]; omega)) (fun F hA hR => hR _ (List.mem_of_getElem? (i := 0) rfl)) (fun v44 w H => ?_)
          refine s_val rfl rfl (r_mv rfl rfl) ?_
          refine s_appF (xs := zs ++ al) (ys := bl) rfl rfl rfl sl23 zr56 rfl (by decide) rfl rfl H (by first | omega | (simp only [List.length_append, List.length_cons, List.length_nil]; omega)) (fun F hA hR => hR _ (List.mem_of_getElem? (i := 1) rfl)) (fun v45 w H => ?_)
          refine s_val rfl rfl (r_as rfl rfl) ?_
          refine s_nil ?_
          refine q_then ?_
          replace H : Hd _ _ _ [osl kPair v45 ((zs ++ al) ++ bl)] [rsl kPair (.slice A19 al.length c20) al, rsl kPair (.slice A25 bl.length c26) bl, rsl kPair (.slice A1 xs.length c2) xs, rsl kPair (.slice A6 ys.length c7) ys] := H
          refine c_env [(4, v45)] ⟨rfl, trivial⟩ ?_
          refine c_ret ?_
          refine q_ret1 rfl rfl ?_
          replace H : Hd w0 F0 w [osl kPair v45 (srt (xs ++ ys))] [rsl kPair (.slice A19 al.length c20) al, rsl kPair (.slice A25 bl.length c26) bl, rsl kPair (.slice A1 xs.length c2) xs, rsl kPair (.slice A6 ys.length c7) ys] := by rw [← hz, mer_end ha hb2 (by omega), ← List.append_assoc]; exact H
          replace H := H.dropR
          replace H := H.dropR
          exact fin rfl H
      · skip
        refine s_no rfl rfl ?_
        refine s_no rfl rfl ?_
        refine s_no rfl rfl ?_
        refine s_val rfl rfl (r_pickF rfl rfl rfl) ?_
        refine s_nil ?_
        refine q_then ?_
        replace H : Hd _ _ _ [osl kPair q zs] [rsl kPair (.slice A19 al.length c20) al, rsl kPair v bl, rsl kPair (.slice A1 xs.length c2) xs, rsl kPair (.slice A6 ys.length c7) ys] := H
        refine c_env [(0, .slice A19 al.length c20), (1, v), (4, .slice none 0 0), (5, q), (26, .bool false)] ⟨rfl, rfl, rfl, rfl, rfl, trivial⟩ ?_
        refine c_no rfl ?_
        refine c_exit ?_
        refine q_thenE ?_
        refine q_thenE ?_
        refine q_blockE ?_
        refine q_then ?_
        refine c_env [(0, .slice A19 al.length c20), (1, v), (4, .slice none 0 0), (5, q)] ⟨rfl, rfl, rfl, rfl, trivial⟩ ?_
        refine c_seq ?_
        refine c_reg ?_
        refine s_val rfl rfl (r_mv rfl rfl) ?_
        refine s_val rfl rfl (r_mv rfl rfl) ?_
        refine s_appF (xs := zs) (ys := al) rfl rfl rfl sl23 zr56 rfl (by decide) rfl rfl H (by first | omega | (simp only [List.length_append, List.length_cons, List.length_nil]; omega)) (fun F hA hR => hR _ (List.mem_of_getElem? (i := 0) rfl)) (fun v46 w H => ?_)
        refine s_val rfl rfl (r_mv rfl rfl) ?_
        obtain ⟨A47, c48, rfl, hc49, hm50, hp51⟩ := H.fR 1 rfl
        refine s_appF (xs := zs ++ al) (ys := bl) rfl rfl rfl sl23 zr56 rfl (by decide) rfl rfl H (by first | omega | (simp only [List.length_append, List.length_cons, List.length_nil]; omega)) (fun F hA hR => hR _ (List.mem_of_getElem? (i := 1) rfl)) (fun v52 w H => ?_)
        refine s_val rfl rfl (r_as rfl rfl) ?_
        refine s_nil ?_
        refine q_then ?_
        replace H : Hd _ _ _ [osl kPair v52 ((zs ++ al) ++ bl)] [rsl kPair (.slice A19 al.length c20) al, rsl kPair (.slice A47 bl.length c48) bl, rsl kPair (.slice A1 xs.length c2) xs, rsl kPair (.slice A6 ys.length c7) ys] := H
        refine c_env [(4, v52)] ⟨rfl, trivial⟩ ?_
        refine c_ret ?_
        refine q_ret1 rfl rfl ?_
        replace H : Hd w0 F0 w [osl kPair v52 (srt (xs ++ ys))] [rsl kPair (.slice A19 al.length c20) al, rsl kPair (.slice A47 bl.length c48) bl, rsl kPair (.slice A1 xs.length c2) xs, rsl kPair (.slice A6 ys.length c7) ys] := by rw [← hz, mer_end ha hb2 (by omega), ← List.append_assoc]; exact H
        replace H := H.dropR
        replace H := H.dropR
        exact fin rfl H

set_option maxHeartbeats 1000000 in
theorem runs_ok (vus : Value) (us : List (Value × List Pair)) (hb : (flat2 us).length ≤ 1000000) :
    Cn Tryz.prog 18 [vus] [] [rsl (kHd kPair) vus us] (fun v Bs => Bs = [osl kPair v (srt (flat2 us))]) := by
  intro w0 F0 H
  obtain ⟨A1, c2, rfl, hc3, hm4, hp5⟩ := H.fR 0 rfl
  refine enter (args := [.slice A1 us.length c2]) Tryz.func18 rfl rfl (Nat.le_of_ble_eq_true rfl) ?_
  refine c_seq ?_
  refine c_reg ?_
  refine s_val rfl rfl (r_as rfl rfl) ?_
  refine s_nil ?_
  refine q_then ?_
  replace H : Hd _ _ _ [] [rsl (kHd kPair) (.slice A1 us.length c2) us] := H
  refine c_env [(0, .slice A1 us.length c2), (2, .slice none 0 0)] ⟨rfl, rfl, trivial⟩ ?_
  refine c_seq ?_
  refine c_reg ?_
  refine s_val rfl rfl (r_as rfl rfl) ?_
  refine s_nil ?_
  refine q_then ?_
  refine c_env [(0, .slice A1 us.length c2), (2, .slice none 0 0), (3, .slice none 0 0)] ⟨rfl, rfl, rfl, trivial⟩ ?_
  refine c_seq ?_
  refine c_seq ?_
  refine c_reg ?_
  refine s_val rfl rfl (r_mv rfl rfl) ?_
  refine s_val rfl rfl (r_lenL rfl un31 rfl) ?_
  refine s_val rfl rfl (r_mv rfl rfl) ?_
  refine s_nil ?_
  refine q_then ?_
  refine c_env [(2, .slice none 0 0), (3, .slice none 0 0), (6, .slice A1 us.length c2), (7, .int .i64 ((us.length : Nat) : Int)), (8, .int .i64 0)] ⟨rfl, rfl, rfl, rfl, rfl, trivial⟩ ?_
  refine c_block ?_
  replace H := H.newnil kPair
  refine c_loop (σ := Nat × Value) (fun (k, q) => [(2, .slice none 0 0), (3, q), (6, .slice A1 us.length c2), (7, .int .i64 ((us.length : Nat) : Int)), (8, .int .i64 ((k : Nat) : Int))]) (fun (k, q) w => (Hd w0 F0 w [osl kPair q (srt (flat2 (us.take k)))] [rsl (kHd kPair) (.slice A1 us.length c2) us]) ∧ (k ≤ us.length)) (fun (k, q) => us.length - k) (0, .slice none 0 0) ⟨rfl, rfl, rfl, rfl, rfl, trivial⟩ ⟨H, by (try dsimp only); omega⟩ ?_
  rintro ⟨k, q⟩ w ⟨H, hk⟩
  have hsl := srt_len (flat2 (us.take k))
  refine c_seq ?_
  refine c_reg ?_
  refine s_val rfl rfl (r_lt rfl rfl rfl) ?_
  refine s_nil ?_
  refine q_then ?_
  refine c_env [(2, .slice none 0 0), (3, q), (6, .slice A1 us.length c2), (7, .int .i64 ((us.length : Nat) : Int)), (8, .int .i64 ((k : Nat) : Int)), (9, .bool (decide (((k : Nat) : Int) < ((us.length : Nat) : Int))))] ⟨rfl, rfl, rfl, rfl, rfl, rfl, trivial⟩ ?_
  refine c_seq ?_
  refine c_dec (p := ((k : Nat) : Int) < ((us.length : Nat) : Int)) rfl (fun h6 => ?_) (fun h6 => ?_)
  · skip
    refine c_skip ?_
    refine q_then ?_
    refine c_env [(2, .slice none 0 0), (3, q), (6, .slice A1 us.length c2), (7, .int .i64 ((us.length : Nat) : Int)), (8, .int .i64 ((k : Nat) : Int))] ⟨rfl, rfl, rfl, rfl, rfl, trivial⟩ ?_
    refine c_seq ?_
    refine c_block ?_
    refine c_seq ?_
    refine c_reg ?_
    obtain ⟨⟨u9, x7⟩, hx8⟩ : ∃ z9, us[k]? = some z9 := ⟨_, List.getElem?_eq_getElem (show k < us.length by omega)⟩
    obtain ⟨A10, c11, rfl, hc12, hm13⟩ := H.nestR 0 rfl hx8
    have th14 := H.thRd 0 rfl hx8
    refine s_val rfl rfl (r_iaE (p := oOf A1 + k * 1) rfl sl31 rfl rfl (by omega) (by omega) th14 rfl) ?_
    refine s_val rfl rfl (r_ld rfl ty23 rfl (H.elRd 0 rfl hx8 rfl)) ?_
    refine s_val rfl rfl (r_as rfl rfl) ?_
    refine s_nil ?_
    refine q_then ?_
    refine c_env [(2, .slice none 0 0), (3, q), (5, .slice A10 x7.length c11), (6, .slice A1 us.length c2), (7, .int .i64 ((us.length : Nat) : Int)), (8, .int .i64 ((k : Nat) : Int))] ⟨rfl, rfl, rfl, rfl, rfl, rfl, trivial⟩ ?_
    have hfl := flat2_le us (k + 1)
    rw [flat2_step hx8, List.length_append] at hfl
    refine c_reg ?_
    refine s_val rfl rfl (r_mv rfl rfl) ?_
    refine s_val rfl rfl (r_mv rfl rfl) ?_
    refine sc (two_ok q (srt (flat2 (us.take k))) (.slice A10 x7.length c11) x7 (by first | omega | decide | (simp only [List.length_append, List.length_cons, List.length_nil, srt_len]; omega))) H (lA 0 rfl own_rd (lX (fun F hA hR => nest_rsl (hR _ (List.mem_of_getElem? (i := 0) rfl)) hx8) l0)) rfl rfl (e_fn kn41 rfl rfl) ?_
    rintro v15 _ w rfl H
    refine s_val rfl rfl (r_as rfl rfl) ?_
    refine s_nil ?_
    refine q_blockN ?_
    refine q_then ?_
    replace H : Hd _ _ _ [osl kPair v15 (srt ((srt (flat2 (us.take k))) ++ x7)), osl kPair q (srt (flat2 (us.take k)))] [rsl (kHd kPair) (.slice A1 us.length c2) us] := H
    refine c_env [(2, .slice none 0 0), (3, v15), (6, .slice A1 us.length c2), (7, .int .i64 ((us.length : Nat) : Int)), (8, .int .i64 ((k : Nat) : Int))] ⟨rfl, rfl, rfl, rfl, rfl, trivial⟩ ?_
    refine c_reg ?_
    refine s_val rfl rfl (r_add (z := ((k + 1 : Nat) : Int)) rfl rfl rfl (by rw [w64 (by omega) (by omega)]; omega)) ?_
    refine s_val rfl rfl (r_mv rfl rfl) ?_
    refine s_nil ?_
    replace H := H.keep 1
    replace H : Hd w0 F0 w [osl kPair v15 (srt (flat2 (us.take (k + 1))))] [rsl (kHd kPair) (.slice A1 us.length c2) us] := by rw [flat2_step hx8, ← srt_app_srt]; exact H
    exact q_round (s := (k, undef)) (k + 1, v15) ⟨rfl, rfl, rfl, rfl, rfl, trivial⟩ ⟨H, by (try dsimp only); omega⟩ (by (try dsimp only); omega)
  · skip
    refine c_exit ?_
    refine q_thenE ?_
    refine q_thenE ?_
    refine q_blockE ?_
    refine q_then ?_
    refine c_env [(2, .slice none 0 0), (3, q)] ⟨rfl, rfl, trivial⟩ ?_
    refine c_seq ?_
    refine c_reg ?_
    refine s_val rfl rfl (r_mv rfl rfl) ?_
    refine s_val rfl rfl (r_as rfl rfl) ?_
    refine s_nil ?_
    refine q_then ?_
    refine c_env [(2, q)] ⟨rfl, trivial⟩ ?_
    refine c_ret ?_
    refine q_ret1 rfl rfl ?_
    replace H : Hd w0 F0 w [osl kPair q (srt (flat2 us))] [rsl (kHd kPair) (.slice A1 us.length c2) us] := by rw [List.take_of_length_le (show us.length ≤ k by omega)] at H; exact H
    exact fin rfl H

end Go.Proofs.YtlpgdkbokakniaaGreatDoor.X

set_option linter.unusedVariables false
set_option linter.unusedSimpArgs false
namespace Go.Proofs.YtlpgdkbokakniaaGreatDoor.X
open Go
set_option maxHeartbeats 4000000 in
theorem mapped_ok (vS vM vC vR vK : Value) (J : Job) (hJ : OkJ J) (s : Nat) (hs : s < J.us.length) :
    Cn Tryz.prog 49 [.agg #[vS, .int .i64 J.parts, vM, vC, vR, .int .i64 J.chunk, .int .i64 J.window, .int .i64 J.fuel, vK], .int .i64 ((s : Nat) : Int)] [] [rsl (kHd kPair) vS J.us, rsl kIns vM J.map, rsl kIns vC J.comb, rsl kIns vR J.red, rsl (kInt .i64) vK J.marks, gl] (fun v Bs => ∃ u, v = .tuple #[u, .int .i64 (mapM dg J s).2] ∧ Bs = [osl kPair u (mapM dg J s).1]) := by
  intro w0 F0 H
  obtain ⟨A1, c2, rfl, hc3, hm4, hp5⟩ := H.fR 0 rfl
  obtain ⟨A6, c7, rfl, hc8, hm9, hp10⟩ := H.fR 1 rfl
  obtain ⟨A11, c12, rfl, hc13, hm14, hp15⟩ := H.fR 2 rfl
  obtain ⟨A16, c17, rfl, hc18, hm19, hp20⟩ := H.fR 3 rfl
  obtain ⟨A21, c22, rfl, hc23, hm24, hp25⟩ := H.fR 4 rfl
  have hus := hJ.us
  have hpt := hJ.parts
  have hfu := hJ.fuel
  refine enter (args := [.agg #[.slice A1 J.us.length c2, .int .i64 J.parts, .slice A6 J.map.length c7, .slice A11 J.comb.length c12, .slice A16 J.red.length c17, .int .i64 J.chunk, .int .i64 J.window, .int .i64 J.fuel, .slice A21 J.marks.length c22], .int .i64 ((s : Nat) : Int)]) Tryz.func49 rfl rfl (Nat.le_of_ble_eq_true rfl) ?_
  refine c_seq ?_
  refine c_reg ?_
  refine s_box rfl rfl rfl rfl H (fun b26 w H => ?_)
  refine s_val rfl rfl (r_as rfl rfl) ?_
  refine s_val rfl rfl (r_as rfl rfl) ?_
  refine s_nil ?_
  refine q_then ?_
  replace H : Hd _ _ _ [blk b26 [.slice A1 J.us.length c2, .int .i64 J.parts, .slice A6 J.map.length c7, .slice A11 J.comb.length c12, .slice A16 J.red.length c17, .int .i64 J.chunk, .int .i64 J.window, .int .i64 J.fuel, .slice A21 J.marks.length c22] 43] [rsl (kHd kPair) (.slice A1 J.us.length c2) J.us, rsl kIns (.slice A6 J.map.length c7) J.map, rsl kIns (.slice A11 J.comb.length c12) J.comb, rsl kIns (.slice A16 J.red.length c17) J.red, rsl (kInt .i64) (.slice A21 J.marks.length c22) J.marks, gl] := H
  refine c_env [(1, .int .i64 ((s : Nat) : Int)), (2, .pointer (some ⟨b26, 0, none⟩)), (4, .slice none 0 0), (5, .int .i64 0)] ⟨rfl, rfl, rfl, rfl, trivial⟩ ?_
  refine c_seq ?_
  refine c_reg ?_
  refine s_val rfl rfl (r_as rfl rfl) ?_
  refine s_nil ?_
  refine q_then ?_
  refine c_env [(1, .int .i64 ((s : Nat) : Int)), (2, .pointer (some ⟨b26, 0, none⟩)), (4, .slice none 0 0), (5, .int .i64 0), (6, .slice none 0 0)] ⟨rfl, rfl, rfl, rfl, rfl, trivial⟩ ?_
  refine c_seq ?_
  refine c_seq ?_
  refine c_reg ?_
  refine s_val rfl rfl (r_fa rfl fo43_0 rfl) ?_
  refine s_val rfl rfl (r_ld rfl ty31 rfl (H.cellI 0 rfl rfl)) ?_
  refine s_val rfl rfl (r_mv rfl rfl) ?_
  obtain ⟨⟨u29, x27⟩, hx28⟩ : ∃ z9, J.us[s]? = some z9 := ⟨_, List.getElem?_eq_getElem (show s < J.us.length by omega)⟩
  obtain ⟨A30, c31, rfl, hc32, hm33⟩ := H.nestR 0 rfl hx28
  have th34 := H.thRd 0 rfl hx28
  refine s_val rfl rfl (r_iaE (p := oOf A1 + s * 1) rfl sl31 rfl rfl (by omega) (by omega) th34 rfl) ?_
  refine s_val rfl rfl (r_ld rfl ty23 rfl (H.elRd 0 rfl hx28 rfl)) ?_
  refine s_val rfl rfl (r_lenL rfl un23 rfl) ?_
  refine s_val rfl rfl (r_mv rfl rfl) ?_
  refine s_nil ?_
  refine q_then ?_
  refine c_env [(2, .pointer (some ⟨b26, 0, none⟩)), (4, .slice none 0 0), (5, .int .i64 0), (6, .slice none 0 0), (15, .slice A30 x27.length c31), (16, .int .i64 ((x27.length : Nat) : Int)), (17, .int .i64 0)] ⟨rfl, rfl, rfl, rfl, rfl, rfl, rfl, trivial⟩ ?_
  refine c_block ?_
  have hrec := recs_at hx28
  have hrl : x27.length ≤ 8 := (hJ.split _ (at_mem hx28)).1
  replace H := H.addR (R := rsl kPair (.slice A30 x27.length c31) x27) fun _ h => nest_rsl (h _ (List.mem_of_getElem? (i := 0) rfl)) hx28
  replace H := H.newnil kPair
  replace H := H.pick 1 rfl
  replace H := H.pick 1 rfl
  refine c_loop (σ := Nat × Value × List Pair) (fun (i, q, out) => [(2, .pointer (some ⟨b26, 0, none⟩)), (6, q), (15, .slice A30 x27.length c31), (16, .int .i64 ((x27.length : Nat) : Int)), (17, .int .i64 ((i : Nat) : Int))]) (fun (i, q, out) w => (Hd w0 F0 w [osl kPair q out, blk b26 [.slice A1 J.us.length c2, .int .i64 J.parts, .slice A6 J.map.length c7, .slice A11 J.comb.length c12, .slice A16 J.red.length c17, .int .i64 J.chunk, .int .i64 J.window, .int .i64 J.fuel, .slice A21 J.marks.length c22] 43] [rsl kPair (.slice A30 x27.length c31) x27, rsl (kHd kPair) (.slice A1 J.us.length c2) J.us, rsl kIns (.slice A6 J.map.length c7) J.map, rsl kIns (.slice A11 J.comb.length c12) J.comb, rsl kIns (.slice A16 J.red.length c17) J.red, rsl (kInt .i64) (.slice A21 J.marks.length c22) J.marks, gl]) ∧ (i ≤ x27.length) ∧ (mapGo dg J.map J.fuel (x27.drop i) out = mapGo dg J.map J.fuel x27 []) ∧ (out.length ≤ 40)) (fun (i, q, out) => x27.length - i) (0, .slice none 0 0, []) ⟨rfl, rfl, rfl, rfl, rfl, trivial⟩ ⟨H, Nat.zero_le _, rfl, Nat.zero_le _⟩ ?_
  rintro ⟨i, q, out⟩ w ⟨H, hi, hgo, ho⟩
  refine c_seq ?_
  refine c_reg ?_
  refine s_val rfl rfl (r_lt rfl rfl rfl) ?_
  refine s_nil ?_
  refine q_then ?_
  refine c_env [(2, .pointer (some ⟨b26, 0, none⟩)), (6, q), (15, .slice A30 x27.length c31), (16, .int .i64 ((x27.length : Nat) : Int)), (17, .int .i64 ((i : Nat) : Int)), (18, .bool (decide (((i : Nat) : Int) < ((x27.length : Nat) : Int))))] ⟨rfl, rfl, rfl, rfl, rfl, rfl, trivial⟩ ?_
  refine c_seq ?_
  refine c_dec (p := ((i : Nat) : Int) < ((x27.length : Nat) : Int)) rfl (fun h35 => ?_) (fun h35 => ?_)
  · skip
    refine c_skip ?_
    refine q_then ?_
    refine c_env [(2, .pointer (some ⟨b26, 0, none⟩)), (6, q), (15, .slice A30 x27.length c31), (16, .int .i64 ((x27.length : Nat) : Int)), (17, .int .i64 ((i : Nat) : Int))] ⟨rfl, rfl, rfl, rfl, rfl, trivial⟩ ?_
    refine c_seq ?_
    refine c_block ?_
    refine c_seq ?_
    refine c_reg ?_
    obtain ⟨x36, hx37⟩ : ∃ z9, x27[i]? = some z9 := ⟨_, List.getElem?_eq_getElem (show i < x27.length by omega)⟩
    have th38 := H.thR 0 rfl hx37
    refine s_val rfl rfl (r_iaE (p := oOf A30 + i * 2) rfl sl23 rfl rfl (by omega) (by omega) th38 rfl) ?_
    refine s_val rfl rfl (r_ldA (cs := [.string x36.key, .string x36.val]) rfl ty56 rfl rfl (H.elsR 0 rfl hx37 rfl)) ?_
    refine s_alloc rfl rfl rfl zr56 H (fun b39 w H => ?_)
    refine s_st rfl rfl rfl ty56 rfl rfl H rfl (Nat.le_of_ble_eq_true rfl) (fun u hu => by simp [Value.cells] at hu; rcases hu with rfl | rfl <;> rfl) (fun w H => ?_)
    replace H : Hd _ _ _ [blk b39 [.string x36.key, .string x36.val] 56, osl kPair q out, blk b26 [.slice A1 J.us.length c2, .int .i64 J.parts, .slice A6 J.map.length c7, .slice A11 J.comb.length c12, .slice A16 J.red.length c17, .int .i64 J.chunk, .int .i64 J.window, .int .i64 J.fuel, .slice A21 J.marks.length c22] 43] [rsl kPair (.slice A30 x27.length c31) x27, rsl (kHd kPair) (.slice A1 J.us.length c2) J.us, rsl kIns (.slice A6 J.map.length c7) J.map, rsl kIns (.slice A11 J.comb.length c12) J.comb, rsl kIns (.slice A16 J.red.length c17) J.red, rsl (kInt .i64) (.slice A21 J.marks.length c22) J.marks, gl] := H
    refine s_nil ?_
    refine q_then ?_
    refine c_env [(2, .pointer (some ⟨b26, 0, none⟩)), (6, q), (8, .pointer (some ⟨b39, 0, none⟩)), (15, .slice A30 x27.length c31), (16, .int .i64 ((x27.length : Nat) : Int)), (17, .int .i64 ((i : Nat) : Int))] ⟨rfl, rfl, rfl, rfl, rfl, rfl, trivial⟩ ?_
    refine c_seq ?_
    refine c_reg ?_
    refine s_val rfl rfl (r_fa rfl fo43_2 rfl) ?_
    refine s_val rfl rfl (r_ld rfl ty22 rfl (H.cellI 2 rfl rfl)) ?_
    refine s_val rfl rfl (r_fa rfl fo56_0 rfl) ?_
    refine s_val rfl rfl (r_ld rfl ty9 rfl (H.cellI 0 rfl rfl)) ?_
    refine s_val rfl rfl (r_fa rfl fo56_1 rfl) ?_
    refine s_val rfl rfl (r_ld rfl ty9 rfl (H.cellI 0 rfl rfl)) ?_
    refine s_bsl (parts := [(0, .tmp 27)]) (vs := [.string x36.val]) (cs := [.string x36.val]) rfl rfl rfl sl75 zr9 rfl (by decide) (by decide) rfl rfl H (fun b40 w H => ?_)
    refine s_val rfl rfl (r_fa rfl fo43_7 rfl) ?_
    refine s_val rfl rfl (r_ld rfl ty3 rfl (H.cellI 3 rfl rfl)) ?_
    refine sc (vmRun_ok (.slice A6 J.map.length c7) J.map x36.key (.slice (some ⟨b40, 0, none⟩) 1 1) [x36.val] J.fuel hJ.map hJ.f64) H (lR 2 rfl (lA 0 rfl (fun F h => blk_rsl h rfl (by decide) (RepsR.flat_eq.2 rfl)) (lR 6 rfl l0))) rfl rfl (e_fn kn54 rfl rfl) ?_
    rintro _ _ w ⟨u41, rfl, rfl⟩ H
    have hrt := run_told dg J.map x36.key [x36.val] J.fuel
    refine s_val rfl rfl (r_mv rfl rfl) ?_
    refine s_val rfl rfl (r_ex rfl rfl rfl) ?_
    refine s_val rfl rfl (r_ex rfl rfl rfl) ?_
    refine s_val rfl rfl (r_as rfl rfl) ?_
    refine s_val rfl rfl (r_as rfl rfl) ?_
    refine s_nil ?_
    refine q_then ?_
    replace H : Hd _ _ _ [osl kPair u41 ((runM dg J.map x36.key [x36.val] J.fuel).1), blk b40 [.string x36.val] 9, blk b39 [.string x36.key, .string x36.val] 56, osl kPair q out, blk b26 [.slice A1 J.us.length c2, .int .i64 J.parts, .slice A6 J.map.length c7, .slice A11 J.comb.length c12, .slice A16 J.red.length c17, .int .i64 J.chunk, .int .i64 J.window, .int .i64 J.fuel, .slice A21 J.marks.length c22] 43] [rsl kPair (.slice A30 x27.length c31) x27, rsl (kHd kPair) (.slice A1 J.us.length c2) J.us, rsl kIns (.slice A6 J.map.length c7) J.map, rsl kIns (.slice A11 J.comb.length c12) J.comb, rsl kIns (.slice A16 J.red.length c17) J.red, rsl (kInt .i64) (.slice A21 J.marks.length c22) J.marks, gl] := H
    refine c_env [(2, .pointer (some ⟨b26, 0, none⟩)), (6, q), (9, u41), (10, .int .i64 ((runM dg J.map x36.key [x36.val] J.fuel).2)), (15, .slice A30 x27.length c31), (16, .int .i64 ((x27.length : Nat) : Int)), (17, .int .i64 ((i : Nat) : Int))] ⟨rfl, rfl, rfl, rfl, rfl, rfl, rfl, trivial⟩ ?_
    refine c_seq ?_
    refine c_seq ?_
    refine c_reg ?_
    refine s_val rfl rfl (r_mv rfl rfl) ?_
    refine s_val rfl rfl (r_ne rfl rfl rfl) ?_
    refine s_nil ?_
    refine q_then ?_
    refine c_env [(2, .pointer (some ⟨b26, 0, none⟩)), (6, q), (9, u41), (10, .int .i64 ((runM dg J.map x36.key [x36.val] J.fuel).2)), (15, .slice A30 x27.length c31), (16, .int .i64 ((x27.length : Nat) : Int)), (17, .int .i64 ((i : Nat) : Int)), (35, .bool (decide (((runM dg J.map x36.key [x36.val] J.fuel).2) ≠ 0)))] ⟨rfl, rfl, rfl, rfl, rfl, rfl, rfl, rfl, trivial⟩ ?_
    refine c_dec (p := ((runM dg J.map x36.key [x36.val] J.fuel).2) ≠ 0) rfl (fun h42 => ?_) (fun h42 => ?_)
    · skip
      refine c_seq ?_
      refine c_reg ?_
      refine s_val rfl rfl (r_mv rfl rfl) ?_
      refine s_val rfl rfl (r_as rfl rfl) ?_
      refine s_val rfl rfl (r_as rfl rfl) ?_
      refine s_nil ?_
      refine q_then ?_
      refine c_env [(2, .pointer (some ⟨b26, 0, none⟩)), (4, .slice none 0 0), (5, .int .i64 ((runM dg J.map x36.key [x36.val] J.fuel).2)), (6, q), (9, u41), (15, .slice A30 x27.length c31), (16, .int .i64 ((x27.length : Nat) : Int)), (17, .int .i64 ((i : Nat) : Int))] ⟨rfl, rfl, rfl, rfl, rfl, rfl, rfl, rfl, trivial⟩ ?_
      refine c_ret ?_
      refine q_thenR ?_
      refine q_blockR ?_
      refine q_thenR ?_
      refine q_thenR ?_
      refine q_blockR ?_
      refine q_thenR ?_
      refine q_ret2 rfl rfl rfl ?_
      have e : mapM dg J s = ([], (runM dg J.map x36.key [x36.val] J.fuel).2) := by unfold mapM; rw [hrec]; exact hgo.symm.trans (map_why hx37 h42)
      replace H := H.keep 0
      replace H := H.newnil kPair
      replace H := H.dropR
      replace H : Hd _ _ _ [osl kPair (.slice none 0 0) []] [rsl (kHd kPair) (.slice A1 J.us.length c2) J.us, rsl kIns (.slice A6 J.map.length c7) J.map, rsl kIns (.slice A11 J.comb.length c12) J.comb, rsl kIns (.slice A16 J.red.length c17) J.red, rsl (kInt .i64) (.slice A21 J.marks.length c22) J.marks, gl] := H
      exact fin ⟨_, by rw [e], by rw [e]⟩ H
    · skip
      refine c_skip ?_
      refine q_then ?_
      refine c_env [(2, .pointer (some ⟨b26, 0, none⟩)), (6, q), (9, u41), (15, .slice A30 x27.length c31), (16, .int .i64 ((x27.length : Nat) : Int)), (17, .int .i64 ((i : Nat) : Int))] ⟨rfl, rfl, rfl, rfl, rfl, rfl, trivial⟩ ?_
      refine c_seq ?_
      refine c_reg ?_
      refine s_val rfl rfl (r_mv rfl rfl) ?_
      refine s_val rfl rfl (r_mv rfl rfl) ?_
      replace H := H.pick 3 rfl
      obtain ⟨A43, c44, rfl, hc45, hm46, hp47⟩ := H.fA 1 rfl
      refine s_appF (xs := out) (ys := (runM dg J.map x36.key [x36.val] J.fuel).1) rfl rfl rfl sl23 zr56 rfl (by decide) rfl rfl H (by first | omega | (rw [List.length_append]; omega)) (fun F hA hR => own_rd F (hA _ (List.mem_of_getElem? (i := 0) rfl))) (fun v48 w H => ?_)
      refine s_val rfl rfl (r_as rfl rfl) ?_
      refine s_nil ?_
      refine q_then ?_
      replace H : Hd _ _ _ [osl kPair v48 (out ++ ((runM dg J.map x36.key [x36.val] J.fuel).1)), osl kPair (.slice A43 (((runM dg J.map x36.key [x36.val] J.fuel).1).length) c44) ((runM dg J.map x36.key [x36.val] J.fuel).1), blk b40 [.string x36.val] 9, blk b39 [.string x36.key, .string x36.val] 56, blk b26 [.slice A1 J.us.length c2, .int .i64 J.parts, .slice A6 J.map.length c7, .slice A11 J.comb.length c12, .slice A16 J.red.length c17, .int .i64 J.chunk, .int .i64 J.window, .int .i64 J.fuel, .slice A21 J.marks.length c22] 43] [rsl kPair (.slice A30 x27.length c31) x27, rsl (kHd kPair) (.slice A1 J.us.length c2) J.us, rsl kIns (.slice A6 J.map.length c7) J.map, rsl kIns (.slice A11 J.comb.length c12) J.comb, rsl kIns (.slice A16 J.red.length c17) J.red, rsl (kInt .i64) (.slice A21 J.marks.length c22) J.marks, gl] := H
      refine c_env [(2, .pointer (some ⟨b26, 0, none⟩)), (6, v48), (15, .slice A30 x27.length c31), (16, .int .i64 ((x27.length : Nat) : Int)), (17, .int .i64 ((i : Nat) : Int))] ⟨rfl, rfl, rfl, rfl, rfl, trivial⟩ ?_
      refine c_seq ?_
      refine c_reg ?_
      refine s_val rfl rfl (r_mv rfl rfl) ?_
      obtain ⟨A49, c50, rfl, hc51, hm52, hp53⟩ := H.fA 0 rfl
      refine s_val rfl rfl (r_lenL rfl un23 rfl) ?_
      refine s_val rfl rfl (r_gt rfl rfl rfl) ?_
      refine s_nil ?_
      refine q_then ?_
      replace H : Hd _ _ _ [osl kPair (.slice A49 ((out ++ ((runM dg J.map x36.key [x36.val] J.fuel).1)).length) c50) (out ++ ((runM dg J.map x36.key [x36.val] J.fuel).1)), osl kPair (.slice A43 (((runM dg J.map x36.key [x36.val] J.fuel).1).length) c44) ((runM dg J.map x36.key [x36.val] J.fuel).1), blk b40 [.string x36.val] 9, blk b39 [.string x36.key, .string x36.val] 56, blk b26 [.slice A1 J.us.length c2, .int .i64 J.parts, .slice A6 J.map.length c7, .slice A11 J.comb.length c12, .slice A16 J.red.length c17, .int .i64 J.chunk, .int .i64 J.window, .int .i64 J.fuel, .slice A21 J.marks.length c22] 43] [rsl kPair (.slice A30 x27.length c31) x27, rsl (kHd kPair) (.slice A1 J.us.length c2) J.us, rsl kIns (.slice A6 J.map.length c7) J.map, rsl kIns (.slice A11 J.comb.length c12) J.comb, rsl kIns (.slice A16 J.red.length c17) J.red, rsl (kInt .i64) (.slice A21 J.marks.length c22) J.marks, gl] := H
      refine c_env [(2, .pointer (some ⟨b26, 0, none⟩)), (6, .slice A49 ((out ++ ((runM dg J.map x36.key [x36.val] J.fuel).1)).length) c50), (15, .slice A30 x27.length c31), (16, .int .i64 ((x27.length : Nat) : Int)), (17, .int .i64 ((i : Nat) : Int)), (42, .bool (decide ((40 : Int) < (((out ++ ((runM dg J.map x36.key [x36.val] J.fuel).1)).length : Nat) : Int))))] ⟨rfl, rfl, rfl, rfl, rfl, rfl, trivial⟩ ?_
      refine c_dec (p := (40 : Int) < (((out ++ ((runM dg J.map x36.key [x36.val] J.fuel).1)).length : Nat) : Int)) rfl (fun h54 => ?_) (fun h54 => ?_)
      · skip
        refine c_seq ?_
        refine c_reg ?_
        refine s_val rfl rfl (r_as rfl rfl) ?_
        refine s_val rfl rfl (r_as rfl rfl) ?_
        refine s_nil ?_
        refine q_then ?_
        refine c_env [(2, .pointer (some ⟨b26, 0, none⟩)), (4, .slice none 0 0), (5, .int .i64 5), (6, .slice A49 ((out ++ ((runM dg J.map x36.key [x36.val] J.fuel).1)).length) c50), (15, .slice A30 x27.length c31), (16, .int .i64 ((x27.length : Nat) : Int)), (17, .int .i64 ((i : Nat) : Int))] ⟨rfl, rfl, rfl, rfl, rfl, rfl, rfl, trivial⟩ ?_
        refine c_ret ?_
        refine q_blockR ?_
        refine q_thenR ?_
        refine q_thenR ?_
        refine q_blockR ?_
        refine q_thenR ?_
        refine q_ret2 rfl rfl rfl ?_
        have hap : (out ++ (runM dg J.map x36.key [x36.val] J.fuel).1).length = out.length + (runM dg J.map x36.key [x36.val] J.fuel).1.length := List.length_append
        have e : mapM dg J s = ([], 5) := by unfold mapM; rw [hrec]; exact hgo.symm.trans (map_many hx37 h42 (by omega))
        replace H := H.keep 0
        replace H := H.newnil kPair
        replace H := H.dropR
        replace H : Hd _ _ _ [osl kPair (.slice none 0 0) []] [rsl (kHd kPair) (.slice A1 J.us.length c2) J.us, rsl kIns (.slice A6 J.map.length c7) J.map, rsl kIns (.slice A11 J.comb.length c12) J.comb, rsl kIns (.slice A16 J.red.length c17) J.red, rsl (kInt .i64) (.slice A21 J.marks.length c22) J.marks, gl] := H
        exact fin ⟨_, by rw [e], by rw [e]⟩ H
      · skip
        refine c_skip ?_
        refine q_blockN ?_
        refine q_then ?_
        refine c_env [(2, .pointer (some ⟨b26, 0, none⟩)), (6, .slice A49 ((out ++ ((runM dg J.map x36.key [x36.val] J.fuel).1)).length) c50), (15, .slice A30 x27.length c31), (16, .int .i64 ((x27.length : Nat) : Int)), (17, .int .i64 ((i : Nat) : Int))] ⟨rfl, rfl, rfl, rfl, rfl, trivial⟩ ?_
        refine c_reg ?_
        refine s_val rfl rfl (r_add (z := ((i + 1 : Nat) : Int)) rfl rfl rfl (by rw [w64 (by omega) (by omega)]; omega)) ?_
        refine s_val rfl rfl (r_mv rfl rfl) ?_
        refine s_nil ?_
        replace H := H.pick 4 rfl
        replace H := H.pick 1 rfl
        replace H := H.keep 2
        have hap : (out ++ (runM dg J.map x36.key [x36.val] J.fuel).1).length = out.length + (runM dg J.map x36.key [x36.val] J.fuel).1.length := List.length_append
        have hl2 : (out ++ (runM dg J.map x36.key [x36.val] J.fuel).1).length ≤ 40 := by omega
        have hg2 := (map_on (out := out) hx37 h42 (by omega)).trans hgo
        replace H := H.pick 1 rfl
        replace H := H.pick 1 rfl
        exact q_round (s := (i, undef, out)) (i + 1, .slice A49 ((out ++ ((runM dg J.map x36.key [x36.val] J.fuel).1)).length) c50, out ++ (runM dg J.map x36.key [x36.val] J.fuel).1) ⟨rfl, rfl, rfl, rfl, rfl, trivial⟩ ⟨H, by (try dsimp only); omega, hg2, hl2⟩ (by (try dsimp only); omega)
  · skip
    refine c_exit ?_
    refine q_thenE ?_
    refine q_thenE ?_
    refine q_blockE ?_
    refine q_then ?_
    refine c_env [(6, q)] ⟨rfl, trivial⟩ ?_
    refine c_seq ?_
    refine c_reg ?_
    refine s_val rfl rfl (r_mv rfl rfl) ?_
    refine s_val rfl rfl (r_as rfl rfl) ?_
    refine s_val rfl rfl (r_as rfl rfl) ?_
    refine s_nil ?_
    refine q_then ?_
    refine c_env [(4, q), (5, .int .i64 0)] ⟨rfl, rfl, trivial⟩ ?_
    refine c_ret ?_
    refine q_ret2 rfl rfl rfl ?_
    replace H := H.keep 1
    have e : mapM dg J s = (out, 0) := by unfold mapM; rw [hrec]; exact hgo.symm.trans (map_end (by omega))
    replace H := H.dropR
    replace H : Hd _ _ _ [osl kPair q out] [rsl (kHd kPair) (.slice A1 J.us.length c2) J.us, rsl kIns (.slice A6 J.map.length c7) J.map, rsl kIns (.slice A11 J.comb.length c12) J.comb, rsl kIns (.slice A16 J.red.length c17) J.red, rsl (kInt .i64) (.slice A21 J.marks.length c22) J.marks, gl] := H
    exact fin ⟨_, by rw [e], by rw [e]⟩ H

set_option maxHeartbeats 4000000 in
theorem split_ok (vS vM vC vR vK : Value) (J : Job) (hJ : OkJ J) (s : Nat) (hs : s < J.us.length) :
    Cn Tryz.prog 25 [.agg #[vS, .int .i64 J.parts, vM, vC, vR, .int .i64 J.chunk, .int .i64 J.window, .int .i64 J.fuel, vK], .int .i64 ((s : Nat) : Int)] [] [rsl (kHd kPair) vS J.us, rsl kIns vM J.map, rsl kIns vC J.comb, rsl kIns vR J.red, rsl (kInt .i64) vK J.marks, gl] (fun v Bs => ∃ u, v = .tuple #[u, .int .i64 (splitM dg J s).2] ∧ Bs = [osl kPair u (splitM dg J s).1]) := by
  intro w0 F0 H
  obtain ⟨A1, c2, rfl, hc3, hm4, hp5⟩ := H.fR 0 rfl
  obtain ⟨A6, c7, rfl, hc8, hm9, hp10⟩ := H.fR 1 rfl
  obtain ⟨A11, c12, rfl, hc13, hm14, hp15⟩ := H.fR 2 rfl
  obtain ⟨A16, c17, rfl, hc18, hm19, hp20⟩ := H.fR 3 rfl
  obtain ⟨A21, c22, rfl, hc23, hm24, hp25⟩ := H.fR 4 rfl
  have hus := hJ.us
  have hpt := hJ.parts
  have hfu := hJ.fuel
  refine enter (args := [.agg #[.slice A1 J.us.length c2, .int .i64 J.parts, .slice A6 J.map.length c7, .slice A11 J.comb.length c12, .slice A16 J.red.length c17, .int .i64 J.chunk, .int .i64 J.window, .int .i64 J.fuel, .slice A21 J.marks.length c22], .int .i64 ((s : Nat) : Int)]) Tryz.func25 rfl rfl (Nat.le_of_ble_eq_true rfl) ?_
  refine c_seq ?_
  refine c_reg ?_
  refine s_box rfl rfl rfl rfl H (fun b26 w H => ?_)
  refine s_val rfl rfl (r_as rfl rfl) ?_
  refine s_val rfl rfl (r_as rfl rfl) ?_
  refine s_nil ?_
  refine q_then ?_
  replace H : Hd _ _ _ [blk b26 [.slice A1 J.us.length c2, .int .i64 J.parts, .slice A6 J.map.length c7, .slice A11 J.comb.length c12, .slice A16 J.red.length c17, .int .i64 J.chunk, .int .i64 J.window, .int .i64 J.fuel, .slice A21 J.marks.length c22] 43] [rsl (kHd kPair) (.slice A1 J.us.length c2) J.us, rsl kIns (.slice A6 J.map.length c7) J.map, rsl kIns (.slice A11 J.comb.length c12) J.comb, rsl kIns (.slice A16 J.red.length c17) J.red, rsl (kInt .i64) (.slice A21 J.marks.length c22) J.marks, gl] := H
  refine c_env [(1, .int .i64 ((s : Nat) : Int)), (2, .pointer (some ⟨b26, 0, none⟩)), (4, .slice none 0 0), (5, .int .i64 0)] ⟨rfl, rfl, rfl, rfl, trivial⟩ ?_
  refine c_seq ?_
  refine c_seq ?_
  refine c_reg ?_
  refine s_val rfl rfl (r_ldA (cs := [.slice A1 J.us.length c2, .int .i64 J.parts, .slice A6 J.map.length c7, .slice A11 J.comb.length c12, .slice A16 J.red.length c17, .int .i64 J.chunk, .int .i64 J.window, .int .i64 J.fuel, .slice A21 J.marks.length c22]) rfl ty43 rfl rfl (H.cellsI 0 rfl rfl)) ?_
  refine sc (jmay_ok (.slice A1 J.us.length c2) (.slice A6 J.map.length c7) (.slice A11 J.comb.length c12) (.slice A16 J.red.length c17) (.slice A21 J.marks.length c22) J) H (lR 0 rfl (lR 1 rfl (lR 2 rfl (lR 3 rfl (lR 4 rfl l0))))) rfl rfl (e_fn kn22 rfl rfl) ?_
  rintro _ _ w ⟨rfl, rfl⟩ H
  refine s_val rfl rfl (r_notP rfl rfl) ?_
  refine s_val rfl rfl (r_mv rfl rfl) ?_
  refine s_dec (d := 11) (p := ¬ (mayJ J)) rfl (fun h27 => ?_) (fun h27 => ?_)
  · exact (h27 hJ.may).elim
  · skip
    refine s_val rfl rfl (r_mv rfl rfl) ?_
    refine s_val rfl rfl (r_lt rfl rfl rfl) ?_
    refine s_val rfl rfl (r_pickF rfl rfl rfl) ?_
    refine s_val rfl rfl (r_mv rfl rfl) ?_
    refine s_dec (d := 15) (p := ((s : Nat) : Int) < 0) rfl (fun h28 => ?_) (fun h28 => ?_)
    · exfalso; omega
    · skip
      refine s_val rfl rfl (r_mv rfl rfl) ?_
      refine s_val rfl rfl (r_fa rfl fo43_0 rfl) ?_
      refine s_val rfl rfl (r_ld rfl ty31 rfl (H.cellI 0 rfl rfl)) ?_
      refine s_val rfl rfl (r_lenL rfl un31 rfl) ?_
      refine s_val rfl rfl (r_ge rfl rfl rfl) ?_
      refine s_val rfl rfl (r_pickF rfl rfl rfl) ?_
      refine s_nil ?_
      refine q_then ?_
      refine c_env [(1, .int .i64 ((s : Nat) : Int)), (2, .pointer (some ⟨b26, 0, none⟩)), (4, .slice none 0 0), (5, .int .i64 0), (21, .bool (decide (((J.us.length : Nat) : Int) ≤ ((s : Nat) : Int))))] ⟨rfl, rfl, rfl, rfl, rfl, trivial⟩ ?_
      refine c_dec (p := ((J.us.length : Nat) : Int) ≤ ((s : Nat) : Int)) rfl (fun h29 => ?_) (fun h29 => ?_)
      · exfalso; omega
      · skip
        refine c_skip ?_
        refine q_then ?_
        refine c_env [(1, .int .i64 ((s : Nat) : Int)), (2, .pointer (some ⟨b26, 0, none⟩)), (4, .slice none 0 0), (5, .int .i64 0)] ⟨rfl, rfl, rfl, rfl, trivial⟩ ?_
        refine c_seq ?_
        refine c_reg ?_
        refine s_val rfl rfl (r_ldA (cs := [.slice A1 J.us.length c2, .int .i64 J.parts, .slice A6 J.map.length c7, .slice A11 J.comb.length c12, .slice A16 J.red.length c17, .int .i64 J.chunk, .int .i64 J.window, .int .i64 J.fuel, .slice A21 J.marks.length c22]) rfl ty43 rfl rfl (H.cellsI 0 rfl rfl)) ?_
        refine s_val rfl rfl (r_mv rfl rfl) ?_
        refine sc (mapped_ok (.slice A1 J.us.length c2) (.slice A6 J.map.length c7) (.slice A11 J.comb.length c12) (.slice A16 J.red.length c17) (.slice A21 J.marks.length c22) J hJ s (by omega)) H (lR 0 rfl (lR 1 rfl (lR 2 rfl (lR 3 rfl (lR 4 rfl (lR 5 rfl l0)))))) rfl rfl (e_fn kn49 rfl rfl) ?_
        rintro _ _ w ⟨u30, rfl, rfl⟩ H
        refine s_val rfl rfl (r_mv rfl rfl) ?_
        refine s_val rfl rfl (r_ex rfl rfl rfl) ?_
        refine s_val rfl rfl (r_ex rfl rfl rfl) ?_
        refine s_val rfl rfl (r_as rfl rfl) ?_
        refine s_val rfl rfl (r_as rfl rfl) ?_
        refine s_nil ?_
        refine q_then ?_
        replace H : Hd _ _ _ [osl kPair u30 ((mapM dg J s).1), blk b26 [.slice A1 J.us.length c2, .int .i64 J.parts, .slice A6 J.map.length c7, .slice A11 J.comb.length c12, .slice A16 J.red.length c17, .int .i64 J.chunk, .int .i64 J.window, .int .i64 J.fuel, .slice A21 J.marks.length c22] 43] [rsl (kHd kPair) (.slice A1 J.us.length c2) J.us, rsl kIns (.slice A6 J.map.length c7) J.map, rsl kIns (.slice A11 J.comb.length c12) J.comb, rsl kIns (.slice A16 J.red.length c17) J.red, rsl (kInt .i64) (.slice A21 J.marks.length c22) J.marks, gl] := H
        refine c_env [(2, .pointer (some ⟨b26, 0, none⟩)), (4, .slice none 0 0), (5, .int .i64 0), (6, u30), (7, .int .i64 ((mapM dg J s).2))] ⟨rfl, rfl, rfl, rfl, rfl, trivial⟩ ?_
        refine c_seq ?_
        refine c_seq ?_
        refine c_reg ?_
        refine s_val rfl rfl (r_mv rfl rfl) ?_
        refine s_val rfl rfl (r_ne rfl rfl rfl) ?_
        refine s_nil ?_
        refine q_then ?_
        refine c_env [(2, .pointer (some ⟨b26, 0, none⟩)), (4, .slice none 0 0), (5, .int .i64 0), (6, u30), (7, .int .i64 ((mapM dg J s).2)), (29, .bool (decide (((mapM dg J s).2) ≠ 0)))] ⟨rfl, rfl, rfl, rfl, rfl, rfl, trivial⟩ ?_
        refine c_dec (p := ((mapM dg J s).2) ≠ 0) rfl (fun h31 => ?_) (fun h31 => ?_)
        · skip
          refine c_seq ?_
          refine c_reg ?_
          refine s_val rfl rfl (r_mv rfl rfl) ?_
          refine s_val rfl rfl (r_as rfl rfl) ?_
          refine s_val rfl rfl (r_as rfl rfl) ?_
          refine s_nil ?_
          refine q_then ?_
          refine c_env [(2, .pointer (some ⟨b26, 0, none⟩)), (4, .slice none 0 0), (5, .int .i64 ((mapM dg J s).2)), (6, u30)] ⟨rfl, rfl, rfl, rfl, trivial⟩ ?_
          refine c_ret ?_
          refine q_thenR ?_
          refine q_ret2 rfl rfl rfl ?_
          have e : splitM dg J s = ([], (mapM dg J s).2) := if_pos h31
          replace H := H.keep 0
          replace H := H.newnil kPair
          replace H : Hd _ _ _ [osl kPair (.slice none 0 0) []] [rsl (kHd kPair) (.slice A1 J.us.length c2) J.us, rsl kIns (.slice A6 J.map.length c7) J.map, rsl kIns (.slice A11 J.comb.length c12) J.comb, rsl kIns (.slice A16 J.red.length c17) J.red, rsl (kInt .i64) (.slice A21 J.marks.length c22) J.marks, gl] := H
          exact fin ⟨_, by rw [e], by rw [e]⟩ H
        · skip
          refine c_skip ?_
          refine q_then ?_
          refine c_env [(2, .pointer (some ⟨b26, 0, none⟩)), (4, .slice none 0 0), (5, .int .i64 0), (6, u30)] ⟨rfl, rfl, rfl, rfl, trivial⟩ ?_
          refine c_seq ?_
          refine c_reg ?_
          refine s_val rfl rfl (r_fa rfl fo43_3 rfl) ?_
          refine s_val rfl rfl (r_ld rfl ty22 rfl (H.cellI 1 rfl rfl)) ?_
          refine s_val rfl rfl (r_mv rfl rfl) ?_
          refine s_val rfl rfl (r_fa rfl fo43_7 rfl) ?_
          refine s_val rfl rfl (r_ld rfl ty3 rfl (H.cellI 1 rfl rfl)) ?_
          have hml := mapM_len dg J s
          refine sc (foldCombine_ok (.slice A11 J.comb.length c12) J.comb u30 ((mapM dg J s).1) J.fuel hJ.comb hJ.f64 (by omega)) H (lR 2 rfl (lA 0 rfl own_rd (lR 5 rfl l0))) rfl rfl (e_fn kn11 rfl rfl) ?_
          rintro _ _ w ⟨u32, rfl, rfl⟩ H
          refine s_val rfl rfl (r_ex rfl rfl rfl) ?_
          refine s_val rfl rfl (r_ex rfl rfl rfl) ?_
          refine s_val rfl rfl (r_as rfl rfl) ?_
          refine s_val rfl rfl (r_as rfl rfl) ?_
          refine s_nil ?_
          refine q_then ?_
          replace H : Hd _ _ _ [osl kPair u32 ((combM dg J.comb (mapM dg J s).1 J.fuel).1), osl kPair u30 ((mapM dg J s).1), blk b26 [.slice A1 J.us.length c2, .int .i64 J.parts, .slice A6 J.map.length c7, .slice A11 J.comb.length c12, .slice A16 J.red.length c17, .int .i64 J.chunk, .int .i64 J.window, .int .i64 J.fuel, .slice A21 J.marks.length c22] 43] [rsl (kHd kPair) (.slice A1 J.us.length c2) J.us, rsl kIns (.slice A6 J.map.length c7) J.map, rsl kIns (.slice A11 J.comb.length c12) J.comb, rsl kIns (.slice A16 J.red.length c17) J.red, rsl (kInt .i64) (.slice A21 J.marks.length c22) J.marks, gl] := H
          refine c_env [(4, u32), (5, .int .i64 ((combM dg J.comb (mapM dg J s).1 J.fuel).2))] ⟨rfl, rfl, trivial⟩ ?_
          refine c_ret ?_
          refine q_ret2 rfl rfl rfl ?_
          have e : splitM dg J s = combM dg J.comb (mapM dg J s).1 J.fuel := if_neg h31
          replace H := H.keep 1
          replace H : Hd _ _ _ [osl kPair u32 ((combM dg J.comb (mapM dg J s).1 J.fuel).1)] [rsl (kHd kPair) (.slice A1 J.us.length c2) J.us, rsl kIns (.slice A6 J.map.length c7) J.map, rsl kIns (.slice A11 J.comb.length c12) J.comb, rsl kIns (.slice A16 J.red.length c17) J.red, rsl (kInt .i64) (.slice A21 J.marks.length c22) J.marks, gl] := H
          exact fin ⟨_, by rw [e], by rw [e]⟩ H

set_option maxHeartbeats 4000000 in
theorem jrun_ok (vS vM vC vR vK : Value) (J : Job) (hJ : OkJ J) (s : Nat) (p : Int) (hs : s < J.us.length) :
    Cn Tryz.prog 26 [.agg #[vS, .int .i64 J.parts, vM, vC, vR, .int .i64 J.chunk, .int .i64 J.window, .int .i64 J.fuel, vK], .int .i64 ((s : Nat) : Int), .int .i64 p] [] [rsl (kHd kPair) vS J.us, rsl kIns vM J.map, rsl kIns vC J.comb, rsl kIns vR J.red, rsl (kInt .i64) vK J.marks, gl] (fun v Bs => ∃ u, v = .tuple #[u, .int .i64 (runJ dg J s p).2] ∧ Bs = [osl kPair u (runJ dg J s p).1]) := by
  intro w0 F0 H
  obtain ⟨A1, c2, rfl, hc3, hm4, hp5⟩ := H.fR 0 rfl
  obtain ⟨A6, c7, rfl, hc8, hm9, hp10⟩ := H.fR 1 rfl
  obtain ⟨A11, c12, rfl, hc13, hm14, hp15⟩ := H.fR 2 rfl
  obtain ⟨A16, c17, rfl, hc18, hm19, hp20⟩ := H.fR 3 rfl
  obtain ⟨A21, c22, rfl, hc23, hm24, hp25⟩ := H.fR 4 rfl
  have hus := hJ.us
  have hpt := hJ.parts
  have hfu := hJ.fuel
  refine enter (args := [.agg #[.slice A1 J.us.length c2, .int .i64 J.parts, .slice A6 J.map.length c7, .slice A11 J.comb.length c12, .slice A16 J.red.length c17, .int .i64 J.chunk, .int .i64 J.window, .int .i64 J.fuel, .slice A21 J.marks.length c22], .int .i64 ((s : Nat) : Int), .int .i64 p]) Tryz.func26 rfl rfl (Nat.le_of_ble_eq_true rfl) ?_
  refine c_seq ?_
  refine c_reg ?_
  refine s_box rfl rfl rfl rfl H (fun b26 w H => ?_)
  refine s_val rfl rfl (r_as rfl rfl) ?_
  refine s_val rfl rfl (r_as rfl rfl) ?_
  refine s_nil ?_
  refine q_then ?_
  replace H : Hd _ _ _ [blk b26 [.slice A1 J.us.length c2, .int .i64 J.parts, .slice A6 J.map.length c7, .slice A11 J.comb.length c12, .slice A16 J.red.length c17, .int .i64 J.chunk, .int .i64 J.window, .int .i64 J.fuel, .slice A21 J.marks.length c22] 43] [rsl (kHd kPair) (.slice A1 J.us.length c2) J.us, rsl kIns (.slice A6 J.map.length c7) J.map, rsl kIns (.slice A11 J.comb.length c12) J.comb, rsl kIns (.slice A16 J.red.length c17) J.red, rsl (kInt .i64) (.slice A21 J.marks.length c22) J.marks, gl] := H
  refine c_env [(1, .int .i64 ((s : Nat) : Int)), (2, .int .i64 p), (3, .pointer (some ⟨b26, 0, none⟩)), (6, .slice none 0 0), (7, .int .i64 0)] ⟨rfl, rfl, rfl, rfl, rfl, trivial⟩ ?_
  refine c_seq ?_
  refine c_reg ?_
  refine s_val rfl rfl (r_ldA (cs := [.slice A1 J.us.length c2, .int .i64 J.parts, .slice A6 J.map.length c7, .slice A11 J.comb.length c12, .slice A16 J.red.length c17, .int .i64 J.chunk, .int .i64 J.window, .int .i64 J.fuel, .slice A21 J.marks.length c22]) rfl ty43 rfl rfl (H.cellsI 0 rfl rfl)) ?_
  refine s_val rfl rfl (r_mv rfl rfl) ?_
  refine sc (split_ok (.slice A1 J.us.length c2) (.slice A6 J.map.length c7) (.slice A11 J.comb.length c12) (.slice A16 J.red.length c17) (.slice A21 J.marks.length c22) J hJ s (by omega)) H (lR 0 rfl (lR 1 rfl (lR 2 rfl (lR 3 rfl (lR 4 rfl (lR 5 rfl l0)))))) rfl rfl (e_fn kn25 rfl rfl) ?_
  rintro _ _ w ⟨u27, rfl, rfl⟩ H
  refine s_val rfl rfl (r_mv rfl rfl) ?_
  refine s_val rfl rfl (r_ex rfl rfl rfl) ?_
  refine s_val rfl rfl (r_ex rfl rfl rfl) ?_
  refine s_val rfl rfl (r_as rfl rfl) ?_
  refine s_val rfl rfl (r_as rfl rfl) ?_
  refine s_nil ?_
  refine q_then ?_
  replace H : Hd _ _ _ [osl kPair u27 ((splitM dg J s).1), blk b26 [.slice A1 J.us.length c2, .int .i64 J.parts, .slice A6 J.map.length c7, .slice A11 J.comb.length c12, .slice A16 J.red.length c17, .int .i64 J.chunk, .int .i64 J.window, .int .i64 J.fuel, .slice A21 J.marks.length c22] 43] [rsl (kHd kPair) (.slice A1 J.us.length c2) J.us, rsl kIns (.slice A6 J.map.length c7) J.map, rsl kIns (.slice A11 J.comb.length c12) J.comb, rsl kIns (.slice A16 J.red.length c17) J.red, rsl (kInt .i64) (.slice A21 J.marks.length c22) J.marks, gl] := H
  refine c_env [(2, .int .i64 p), (3, .pointer (some ⟨b26, 0, none⟩)), (6, .slice none 0 0), (7, .int .i64 0), (8, u27), (9, .int .i64 ((splitM dg J s).2))] ⟨rfl, rfl, rfl, rfl, rfl, rfl, trivial⟩ ?_
  refine c_seq ?_
  refine c_seq ?_
  refine c_reg ?_
  refine s_val rfl rfl (r_mv rfl rfl) ?_
  refine s_val rfl rfl (r_ne rfl rfl rfl) ?_
  refine s_nil ?_
  refine q_then ?_
  refine c_env [(2, .int .i64 p), (3, .pointer (some ⟨b26, 0, none⟩)), (6, .slice none 0 0), (7, .int .i64 0), (8, u27), (9, .int .i64 ((splitM dg J s).2)), (17, .bool (decide (((splitM dg J s).2) ≠ 0)))] ⟨rfl, rfl, rfl, rfl, rfl, rfl, rfl, trivial⟩ ?_
  refine c_dec (p := ((splitM dg J s).2) ≠ 0) rfl (fun h28 => ?_) (fun h28 => ?_)
  · skip
    refine c_seq ?_
    refine c_reg ?_
    refine s_val rfl rfl (r_mv rfl rfl) ?_
    refine s_val rfl rfl (r_as rfl rfl) ?_
    refine s_val rfl rfl (r_as rfl rfl) ?_
    refine s_nil ?_
    refine q_then ?_
    refine c_env [(2, .int .i64 p), (3, .pointer (some ⟨b26, 0, none⟩)), (6, .slice none 0 0), (7, .int .i64 ((splitM dg J s).2)), (8, u27)] ⟨rfl, rfl, rfl, rfl, rfl, trivial⟩ ?_
    refine c_ret ?_
    refine q_thenR ?_
    refine q_ret2 rfl rfl rfl ?_
    have e : runJ dg J s p = ([], (splitM dg J s).2) := if_pos h28
    replace H := H.keep 0
    replace H := H.newnil kPair
    replace H : Hd _ _ _ [osl kPair (.slice none 0 0) []] [rsl (kHd kPair) (.slice A1 J.us.length c2) J.us, rsl kIns (.slice A6 J.map.length c7) J.map, rsl kIns (.slice A11 J.comb.length c12) J.comb, rsl kIns (.slice A16 J.red.length c17) J.red, rsl (kInt .i64) (.slice A21 J.marks.length c22) J.marks, gl] := H
    exact fin ⟨_, by rw [e], by rw [e]⟩ H
  · skip
    refine c_skip ?_
    refine q_then ?_
    refine c_env [(2, .int .i64 p), (3, .pointer (some ⟨b26, 0, none⟩)), (6, .slice none 0 0), (7, .int .i64 0), (8, u27)] ⟨rfl, rfl, rfl, rfl, rfl, trivial⟩ ?_
    refine c_seq ?_
    refine c_reg ?_
    refine s_val rfl rfl (r_mv rfl rfl) ?_
    refine s_val rfl rfl (r_fa rfl fo43_1 rfl) ?_
    refine s_val rfl rfl (r_ld rfl ty3 rfl (H.cellI 1 rfl rfl)) ?_
    refine s_val rfl rfl (r_mv rfl rfl) ?_
    have hsl := split_len dg J s
    have hsk : ∀ x ∈ (splitM dg J s).1, x.key.size ≤ 9223372036854775807 := fun x hx => by have := (split_small num_in hJ s x hx).1; omega
    refine sc (only_ok u27 ((splitM dg J s).1) J.parts p (by omega) (by omega) hsk) H (lA 0 rfl own_rd l0) rfl rfl (e_fn kn28 rfl rfl) ?_
    rintro u29 _ w rfl H
    refine s_val rfl rfl (r_as rfl rfl) ?_
    refine s_val rfl rfl (r_as rfl rfl) ?_
    refine s_nil ?_
    refine q_then ?_
    replace H : Hd _ _ _ [osl kPair u29 (onlyM dg J s p), osl kPair u27 ((splitM dg J s).1), blk b26 [.slice A1 J.us.length c2, .int .i64 J.parts, .slice A6 J.map.length c7, .slice A11 J.comb.length c12, .slice A16 J.red.length c17, .int .i64 J.chunk, .int .i64 J.window, .int .i64 J.fuel, .slice A21 J.marks.length c22] 43] [rsl (kHd kPair) (.slice A1 J.us.length c2) J.us, rsl kIns (.slice A6 J.map.length c7) J.map, rsl kIns (.slice A11 J.comb.length c12) J.comb, rsl kIns (.slice A16 J.red.length c17) J.red, rsl (kInt .i64) (.slice A21 J.marks.length c22) J.marks, gl] := H
    refine c_env [(6, u29), (7, .int .i64 0)] ⟨rfl, rfl, trivial⟩ ?_
    refine c_ret ?_
    refine q_ret2 rfl rfl rfl ?_
    have e : runJ dg J s p = (onlyM dg J s p, 0) := if_neg h28
    replace H := H.keep 1
    replace H : Hd _ _ _ [osl kPair u29 (onlyM dg J s p)] [rsl (kHd kPair) (.slice A1 J.us.length c2) J.us, rsl kIns (.slice A6 J.map.length c7) J.map, rsl kIns (.slice A11 J.comb.length c12) J.comb, rsl kIns (.slice A16 J.red.length c17) J.red, rsl (kInt .i64) (.slice A21 J.marks.length c22) J.marks, gl] := H
    exact fin ⟨_, by rw [e], by rw [e]⟩ H

end Go.Proofs.YtlpgdkbokakniaaGreatDoor.X

