/- FoldEmpty: texts F2, F3, G1, joined by a program of ours; what nothing names is left out. -/
import Derived.Test.YtlpgdkbokakniaaGreatDoorFoldEmptyQ3
import Derived.Test.YtlpgdkbokakniaaGreatDoorRows
import Derived.LaidSub
import Derived.Lib.LaidTab
import Derived.Stop.LaidErr
set_option linter.unusedVariables false
set_option linter.unusedSimpArgs false
set_option maxHeartbeats 8000000
namespace Go.Proofs.YtlpgdkbokakniaaGreatDoor.X
open Go
theorem eachF_ok (x : Pair) (kb : Nat) (key : ByteArray) :
    Cn Tryz.prog 57 [.agg #[.string x.key, .string x.val], .pointer (some ⟨kb, 0, none⟩)] [] [blk kb [.string key] 9] (fun v Bs => v = .bool (decide (x.key ≠ key)) ∧ Bs = []) := by
 intro w0 F0 H
 refine enter Tryz.func57 rfl rfl (Nat.le_of_ble_eq_true rfl) (c_seq (c_reg (s_box rfl rfl rfl rfl H (fun b1 w H => (s_1 rfl (s_nil (q_then ?_)))))))
 replace H : Hd _ _ _ [blk b1 [.string x.key, .string x.val] 56] [blk kb [.string key] 9] := H
 refine c_seq (c_reg (s_val rfl rfl (r_fa rfl fo56_0 rfl) (s_val rfl rfl (r_ld rfl ty9 rfl (H.cellI 0 rfl rfl)) (s_val rfl rfl (r_ld rfl ty9 rfl (H.cellRI 0 rfl rfl)) (s_val rfl rfl (r_neS rfl rfl rfl) (s_1 rfl (s_nil (q_then (c_ret (q_ret1 rfl rfl ?_))))))))))
 replace H := H.nil
 exact fin ⟨rfl, rfl⟩ H
theorem each_ok (vp : Value) (p : List Ins) (vps : Value) (ps : List Pair) (fuel : Int) (own : Bool) (hpa : ∀ i ∈ p, In64 i.a) (hfu : In64 fuel) (hb : ps.length ≤ 1000000) :
    Cn Tryz.prog 32 [vp, vps, .int .i64 fuel, .bool own] [] [rsl kIns vp p, rsl kPair vps ps, gl] (fun v Bs => ∃ u, v = .tuple #[u, .int .i64 (eachM dg p ps fuel own).2] ∧ Bs = [osl kPair u (eachM dg p ps fuel own).1]) := by
 intro w0 F0 H
 obtain ⟨A1, c2, rfl, hc3, hm4, hp5⟩ := H.fR 0 rfl
 obtain ⟨A6, c7, rfl, hc8, hm9, hp10⟩ := H.fR 1 rfl
 refine enter Tryz.func32 rfl rfl (Nat.le_of_ble_eq_true rfl) (c_seq (c_reg (s_k 2 rfl (s_nil (q_then ?_)))))
 replace H : Hd _ _ _ [] [rsl kIns (.slice A1 p.length c2) p, rsl kPair (.slice A6 ps.length c7) ps, gl] := H
 refine c_seq (c_reg (s_1 rfl (s_nil (q_then (c_seq (c_reg (sc tallyNew_ok H l0 rfl rfl (e_fn kn52 rfl rfl) ?_)))))))
 rintro _ _ w ⟨b11, rfl, rfl⟩ H
 replace H := H.h1 (A := blk b11 [.int .i64 0, .int .i64 0, .int .i64 0, .int .i64 0, .int .i64 0, .int .i64 0, .int .i64 0, .int .i64 0] 96)
 refine s_1 rfl (s_nil (q_then (c_seq (c_seq (c_reg (s_1 rfl (sc (pKeys_ok (.slice A6 ps.length c7) ps (by first | omega | decide)) H (lR 1 rfl l0) rfl rfl (e_fn kn53 rfl rfl) ?_)))))))
 rintro v12 _ w rfl H
 obtain ⟨A13, c14, rfl, hc15, hm16, hp17⟩ := H.fA 0 rfl
 refine s_val rfl rfl (r_lenL rfl un75 rfl) (s_1 rfl (s_nil (q_then ?_)))
 replace H : Hd _ _ _ [osl kStr (.slice A13 ((keysL ps).length) c14) (keysL ps), blk b11 [.int .i64 0, .int .i64 0, .int .i64 0, .int .i64 0, .int .i64 0, .int .i64 0, .int .i64 0, .int .i64 0] 96] [rsl kIns (.slice A1 p.length c2) p, rsl kPair (.slice A6 ps.length c7) ps, gl] := H
 refine c_block ?_
 replace H := H.newnil kPair
 refine c_loop (σ := Nat × Value × List Pair) (fun (i, q, out) => [(0, .slice A1 p.length c2), (1, .slice A6 ps.length c7), (2, .int .i64 fuel), (3, .bool own), (10, q), (11, .pointer (some ⟨b11, 0, none⟩)), (18, .slice A13 ((keysL ps).length) c14), (19, .int .i64 (((keysL ps).length : Nat) : Int)), (20, .int .i64 ((i : Nat) : Int))]) (fun (i, q, out) w => (Hd w0 F0 w [osl kPair q out, osl kStr (.slice A13 ((keysL ps).length) c14) (keysL ps), blk b11 [.int .i64 (out.length : Int), .int .i64 0, .int .i64 0, .int .i64 0, .int .i64 0, .int .i64 0, .int .i64 0, .int .i64 0] 96] [rsl kIns (.slice A1 p.length c2) p, rsl kPair (.slice A6 ps.length c7) ps, gl]) ∧ (i ≤ (keysL ps).length) ∧ (eachGo dg p ps fuel own ((keysL ps).drop i) out = eachM dg p ps fuel own) ∧ (out.length ≤ 40)) (fun (i, q, out) => (keysL ps).length - i) (0, .slice none 0 0, []) ⟨rfl, rfl, rfl, rfl, rfl, rfl, rfl, rfl, rfl, trivial⟩ ⟨H, Nat.zero_le _, rfl, Nat.zero_le _⟩ ?_
 rintro ⟨i, q, out⟩ w ⟨H, hi, hgo, ho⟩
 have hkl := keysL_len ps
 refine c_seq (c_reg (s_val rfl rfl (r_lt rfl rfl rfl) (s_nil (q_then (c_seq ?_)))))
 refine c_dec rfl (fun h18 => ?_) (fun h18 => ?_)
 ·refine c_skip (q_then (c_seq (c_block (c_seq (c_reg ?_)))))
  obtain ⟨x19, hx20⟩ : ∃ z9, (keysL ps)[i]? = some z9 := ⟨_, List.getElem?_eq_getElem (show i < (keysL ps).length by omega)⟩
  have th21 := H.thA 1 rfl hx20
  refine s_val rfl rfl (r_iaE (p := oOf A13 + i * 1) rfl sl75 rfl rfl (by omega) (by omega) th21 rfl) (s_val rfl rfl (r_ld rfl ty9 rfl (H.elA 1 rfl hx20 (q := 0) rfl rfl)) (s_alloc rfl rfl rfl zr9 H (fun b22 w H => (s_st rfl rfl rfl ty9 rfl rfl H rfl (Nat.le_of_ble_eq_true rfl) (fun u hu => by simp [Value.cells] at hu; subst hu; rfl) (fun w H => ?_)))))
  replace H := H.h4 (A := blk b22 [.string x19] 9) (B := osl kPair q out) (D := blk b11 [.int .i64 (out.length : Int), .int .i64 0, .int .i64 0, .int .i64 0, .int .i64 0, .int .i64 0, .int .i64 0, .int .i64 0] 96)
  refine s_nil (q_then (c_seq (c_ord (.e 0 (.e 1 (.e 2 (.e 3 (.e 5 (.m 4 (.m 6 (.e 7 (.e 8 (.e 9 (.e 10 (.e 11 .z)))))))))))) (fun w => ∃ Ar, Hd w0 F0 w (blk b22 [.string x19] 9 :: osl kPair q out :: osl kStr (.slice A13 ((keysL ps).length) c14) (keysL ps) :: blk b11 [.int .i64 (out.length : Int), .int .i64 0, .int .i64 0, .int .i64 0, .int .i64 0, .int .i64 0, .int .i64 0, .int .i64 0] 96 :: Ar) [rsl kIns (.slice A1 p.length c2) p, rsl kPair (.slice A6 ps.length c7) ps, gl]) mo (by kernel_rfl) (fun w H => ⟨_, H⟩) H (fun w H => (d_1 rfl (d_val rfl rfl rfl (fun w ⟨Ar, H⟩ => r_ld rfl ty9 rfl (H.cellI 0 rfl rfl)) (d_1 rfl (d_val rfl rfl rfl (fun w ⟨Ar, H⟩ => r_ld rfl ty9 rfl (H.cellI 0 rfl rfl)) (d_1 rfl (d_main rfl (sc (pOf_ok (.slice A6 ps.length c7) ps x19 (by first | omega | decide)) H (lR 1 rfl l0) rfl rfl (e_fn kn55 rfl rfl) ?_)))))))))))
  rintro v23 _ w rfl H
  replace H := H.h1 (A := osl kStr v23 (ofL ps x19)) |>.p4 |>.p4 |>.p4 |>.p4
  refine d_back ⟨_, H⟩ (d_main rfl (sc (vmRun_ok (.slice A1 p.length c2) p x19 v23 (ofL ps x19) fuel hpa hfu) H (lR 0 rfl (lA 4 rfl own_rd (lR 2 rfl l0))) rfl rfl (e_fn kn54 rfl rfl) ?_))
  rintro _ _ w ⟨u24, rfl, rfl⟩ H
  replace H := H.h1 (A := osl kPair u24 ((runM dg p x19 (ofL ps x19) fuel).1))
  have hrt := run_told dg p x19 (ofL ps x19) fuel
  replace H := H.p4.p4.p4.p4
  refine d_back ⟨_, H⟩ (d_1 rfl (d_1 rfl (d_1 rfl (d_1 rfl (d_1 rfl (d_nil (q_then (c_seq (c_block (c_seq (c_reg (s_1 rfl (s_val rfl rfl (r_ne rfl rfl rfl) (s_1 rfl (s_nil (q_then ?_))))))))))))))))
  refine c_dec rfl (fun h25 => ?_) (fun h25 => ?_)
  ·refine c_seq (c_reg (s_k 3 rfl (s_nil (q_then (c_ret (q_blockR (q_thenR (q_blockR (q_thenR (q_thenR (q_blockR (q_thenR (q_ret2 rfl rfl rfl ?_)))))))))))))
   have e : eachM dg p ps fuel own = ([], (runM dg p x19 (ofL ps x19) fuel).2) := hgo.symm.trans (go_why hx20 h25)
   replace H := H.nil |>.newnil kPair
   exact fin ⟨_, by rw [e] <;> rfl, by rw [e] <;> rfl⟩ H
  refine c_seq (c_reg (s_k 2 rfl ?_))
  refine s_boo (d := 40) (b := own) rfl (fun h26 => ?_) (fun h26 => ?_)
  ·refine s_1 rfl (s_val rfl rfl (r_fn (fs := #[]) (cs := #[.pointer (some ⟨b22, 0, none⟩)]) rfl rfl rfl) (sc (containsFP_ok 57 [.pointer (some ⟨b22, 0, none⟩)] [blk b22 [.string x19] 9] (fun y => decide (y.key ≠ x19)) kn57 (fun y => eachF_ok y b22 x19) u24 (runM dg p x19 (ofL ps x19) fuel).1) H (lA 4 rfl own_rd (lA 0 rfl (fun _ h => h) l0)) rfl rfl (e_fn kn56 rfl rfl) ?_))
   rintro _ _ w ⟨rfl, rfl⟩ H
   refine s_k 2 rfl (s_nil (q_then ?_))
   refine c_cond (b := otherKey x19 (runM dg p x19 (ofL ps x19) fuel).1) rfl (fun h27 => ?_) (fun h27 => ?_)
   ·refine c_seq (c_reg (s_k 2 rfl (s_nil (q_then (c_ret (q_blockR (q_thenR (q_blockR (q_thenR (q_thenR (q_blockR (q_thenR (q_ret2 rfl rfl rfl ?_)))))))))))))
    have e : eachM dg p ps fuel own = ([], 6) := hgo.symm.trans (go_key hx20 h25 h26 h27)
    replace H := H.nil |>.newnil kPair
    replace H : Hd _ _ _ [osl kPair (.slice none 0 0) []] [rsl kIns (.slice A1 p.length c2) p, rsl kPair (.slice A6 ps.length c7) ps, gl] := H
    exact fin ⟨_, by rw [e] <;> rfl, by rw [e] <;> rfl⟩ H
   refine c_seq (c_reg (s_k 2 rfl ?_))
   obtain ⟨A28, c29, rfl, hc30, hm31, hp32⟩ := H.fA 4 rfl
   refine s_val rfl rfl (r_lenL rfl un23 rfl) ?_
   replace H := H.p3
   replace H : Hd _ _ _ [blk b11 [.int .i64 (out.length : Int), .int .i64 0, .int .i64 0, .int .i64 0, .int .i64 0, .int .i64 0, .int .i64 0, .int .i64 0] 96, blk b22 [.string x19] 9, osl kPair q out, osl kStr (.slice A13 ((keysL ps).length) c14) (keysL ps), osl kPair (.slice A28 (((runM dg p x19 (ofL ps x19) fuel).1).length) c29) ((runM dg p x19 (ofL ps x19) fuel).1), osl kStr v23 (ofL ps x19)] [rsl kIns (.slice A1 p.length c2) p, rsl kPair (.slice A6 ps.length c7) ps, gl] := H
   refine sc (tallyAdd_ok b11 (out.length : Int) 0 0 0 0 0 0 0 ((((runM dg p x19 (ofL ps x19) fuel).1).length : Nat) : Int) (by omega) (by omega)) H l0 rfl rfl (e_fn kn58 rfl rfl) ?_
   rintro _ _ w ⟨rfl, rfl⟩ H
   replace H := H.h1 (A := blk b11 [.int .i64 (min ((out.length : Int) + ((((runM dg p x19 (ofL ps x19) fuel).1).length : Nat) : Int)) 1099511627776), .int .i64 0, .int .i64 0, .int .i64 0, .int .i64 0, .int .i64 0, .int .i64 0, .int .i64 0] 96)
   refine s_val rfl rfl (r_gt rfl rfl rfl) (s_1 rfl (s_nil (q_then ?_)))
   refine c_dec rfl (fun h33 => ?_) (fun h33 => ?_)
   ·refine c_seq (c_reg (s_k 2 rfl (s_nil (q_then (c_ret (q_blockR (q_thenR (q_blockR (q_thenR (q_thenR (q_blockR (q_thenR (q_ret2 rfl rfl rfl ?_)))))))))))))
    have e : eachM dg p ps fuel own = ([], 5) := hgo.symm.trans (go_many hx20 h25 (fun h => by rw [h.2] at h27; cases h27) (by omega))
    replace H := H.nil |>.newnil kPair
    exact fin ⟨_, by rw [e] <;> rfl, by rw [e] <;> rfl⟩ H
   refine c_skip (q_blockN (q_then (c_reg (s_k 2 rfl ?_))))
   replace H := H.p2
   refine s_appF (xs := out) (ys := (runM dg p x19 (ofL ps x19) fuel).1) rfl rfl rfl sl23 zr56 rfl (by decide) rfl rfl H (by omega) (fun F hA hR => own_rd F (hA _ (List.mem_of_getElem? (i := 3) rfl))) (fun v34 w H => ?_)
   replace H := H.h1 (A := osl kPair v34 (out ++ ((runM dg p x19 (ofL ps x19) fuel).1)))
   refine s_1 rfl (s_nil (q_blockN (q_then (c_reg (s_val rfl rfl (r_add (z := ((i + 1 : Nat) : Int)) rfl rfl rfl (by rw [w64 (by omega) (by omega)]; omega)) (s_1 rfl (s_nil ?_)))))))
   replace H := H.p3.p1.k3
   have hl2 : ((out ++ (runM dg p x19 (ofL ps x19) fuel).1).length : Int) = min ((out.length : Int) + ((((runM dg p x19 (ofL ps x19) fuel).1).length : Nat) : Int)) 1099511627776 := by rw [List.length_append]; omega
   replace H : Hd w0 F0 w [osl kPair v34 (out ++ ((runM dg p x19 (ofL ps x19) fuel).1)), osl kStr (.slice A13 ((keysL ps).length) c14) (keysL ps), blk b11 [.int .i64 ((out ++ (runM dg p x19 (ofL ps x19) fuel).1).length : Int), .int .i64 0, .int .i64 0, .int .i64 0, .int .i64 0, .int .i64 0, .int .i64 0, .int .i64 0] 96] [rsl kIns (.slice A1 p.length c2) p, rsl kPair (.slice A6 ps.length c7) ps, gl] := by rw [hl2]; exact H
   have hg2 := (go_on (out := out) hx20 h25 (fun h => by rw [h.2] at h27; cases h27) (by omega)).trans hgo
   have ho2 : (out ++ (runM dg p x19 (ofL ps x19) fuel).1).length ≤ 40 := by rw [List.length_append]; omega
   exact q_round (s := (i, undef, out)) (i + 1, v34, out ++ (runM dg p x19 (ofL ps x19) fuel).1) ⟨rfl, rfl, rfl, rfl, rfl, rfl, rfl, rfl, rfl, trivial⟩ ⟨H, by (try dsimp only); omega, hg2, ho2⟩ (by (try dsimp only); omega)
  refine s_k 5 rfl (s_nil (q_then (c_no rfl (c_seq (c_reg (s_k 2 rfl ?_))))))
  obtain ⟨A35, c36, rfl, hc37, hm38, hp39⟩ := H.fA 4 rfl
  refine s_val rfl rfl (r_lenL rfl un23 rfl) ?_
  replace H := H.p3
  refine sc (tallyAdd_ok b11 (out.length : Int) 0 0 0 0 0 0 0 ((((runM dg p x19 (ofL ps x19) fuel).1).length : Nat) : Int) (by omega) (by omega)) H l0 rfl rfl (e_fn kn58 rfl rfl) ?_
  rintro _ _ w ⟨rfl, rfl⟩ H
  replace H := H.h1 (A := blk b11 [.int .i64 (min ((out.length : Int) + ((((runM dg p x19 (ofL ps x19) fuel).1).length : Nat) : Int)) 1099511627776), .int .i64 0, .int .i64 0, .int .i64 0, .int .i64 0, .int .i64 0, .int .i64 0, .int .i64 0] 96)
  refine s_val rfl rfl (r_gt rfl rfl rfl) (s_1 rfl (s_nil (q_then ?_)))
  refine c_dec rfl (fun h40 => ?_) (fun h40 => ?_)
  ·refine c_seq (c_reg (s_k 2 rfl (s_nil (q_then (c_ret (q_blockR (q_thenR (q_blockR (q_thenR (q_thenR (q_blockR (q_thenR (q_ret2 rfl rfl rfl ?_)))))))))))))
   have e : eachM dg p ps fuel own = ([], 5) := hgo.symm.trans (go_many hx20 h25 (fun h => by rw [h.1] at h26; cases h26) (by omega))
   replace H := H.nil |>.newnil kPair
   exact fin ⟨_, by rw [e] <;> rfl, by rw [e] <;> rfl⟩ H
  refine c_skip (q_blockN (q_then (c_reg (s_k 2 rfl ?_))))
  replace H := H.p2
  refine s_appF (xs := out) (ys := (runM dg p x19 (ofL ps x19) fuel).1) rfl rfl rfl sl23 zr56 rfl (by decide) rfl rfl H (by omega) (fun F hA hR => own_rd F (hA _ (List.mem_of_getElem? (i := 3) rfl))) (fun v41 w H => ?_)
  replace H := H.h1 (A := osl kPair v41 (out ++ ((runM dg p x19 (ofL ps x19) fuel).1)))
  refine s_1 rfl (s_nil (q_blockN (q_then (c_reg (s_val rfl rfl (r_add (z := ((i + 1 : Nat) : Int)) rfl rfl rfl (by rw [w64 (by omega) (by omega)]; omega)) (s_1 rfl (s_nil ?_)))))))
  replace H := H.p3.p1.k3
  have hl2 : ((out ++ (runM dg p x19 (ofL ps x19) fuel).1).length : Int) = min ((out.length : Int) + ((((runM dg p x19 (ofL ps x19) fuel).1).length : Nat) : Int)) 1099511627776 := by rw [List.length_append]; omega
  replace H : Hd w0 F0 w [osl kPair v41 (out ++ ((runM dg p x19 (ofL ps x19) fuel).1)), osl kStr (.slice A13 ((keysL ps).length) c14) (keysL ps), blk b11 [.int .i64 ((out ++ (runM dg p x19 (ofL ps x19) fuel).1).length : Int), .int .i64 0, .int .i64 0, .int .i64 0, .int .i64 0, .int .i64 0, .int .i64 0, .int .i64 0] 96] [rsl kIns (.slice A1 p.length c2) p, rsl kPair (.slice A6 ps.length c7) ps, gl] := by rw [hl2]; exact H
  have hg2 := (go_on (out := out) hx20 h25 (fun h => by rw [h.1] at h26; cases h26) (by omega)).trans hgo
  have ho2 : (out ++ (runM dg p x19 (ofL ps x19) fuel).1).length ≤ 40 := by rw [List.length_append]; omega
  exact q_round (s := (i, undef, out)) (i + 1, v41, out ++ (runM dg p x19 (ofL ps x19) fuel).1) ⟨rfl, rfl, rfl, rfl, rfl, rfl, rfl, rfl, rfl, trivial⟩ ⟨H, by (try dsimp only); omega, hg2, ho2⟩ (by (try dsimp only); omega)
 refine c_exit (q_thenE (q_thenE (q_blockE (q_then (c_seq (c_reg (s_k 3 rfl (s_nil (q_then (c_ret (q_ret2 rfl rfl rfl ?_)))))))))))
 replace H := H.k1
 have e : eachM dg p ps fuel own = (out, 0) := hgo.symm.trans (go_end (by omega))
 replace H := H.h1 (A := osl kPair q out)
 exact fin ⟨_, by rw [e] <;> rfl, by rw [e] <;> rfl⟩ H
theorem foldEach_ok (vp : Value) (p : List Ins) (vps : Value) (ps : List Pair) (fuel : Int) (hpa : ∀ i ∈ p, In64 i.a) (hfu : In64 fuel) (hb : ps.length ≤ 1000000) :
    Cn Tryz.prog 10 [vp, vps, .int .i64 fuel] [] [rsl kIns vp p, rsl kPair vps ps, gl] (fun v Bs => ∃ u, v = .tuple #[u, .int .i64 (eachM dg p ps fuel false).2] ∧ Bs = [osl kPair u (eachM dg p ps fuel false).1]) := by
 intro w0 F0 H
 refine enter Tryz.func10 rfl rfl (Nat.le_of_ble_eq_true rfl) (c_seq (c_reg (s_k 2 rfl (s_nil (q_then (c_seq (c_reg (s_k 3 rfl (sc (each_ok vp p vps ps fuel false hpa hfu hb) H (lR 0 rfl (lR 1 rfl (lR 2 rfl l0))) rfl rfl (e_fn kn32 rfl rfl) ?_)))))))))
 rintro _ _ w ⟨u1, rfl, rfl⟩ H
 refine s_k 4 rfl (s_nil (q_then ?_))
 replace H : Hd _ _ _ [osl kPair u1 ((eachM dg p ps fuel false).1)] [rsl kIns vp p, rsl kPair vps ps, gl] := H
 exact c_ret (q_ret2 rfl rfl rfl (fin ⟨_, rfl, rfl⟩ H))
theorem foldCombine_ok (vp : Value) (p : List Ins) (vps : Value) (ps : List Pair) (fuel : Int) (hpa : ∀ i ∈ p, In64 i.a) (hfu : In64 fuel) (hb : ps.length ≤ 1000000) :
    Cn Tryz.prog 11 [vp, vps, .int .i64 fuel] [] [rsl kIns vp p, rsl kPair vps ps, gl] (fun v Bs => ∃ u, v = .tuple #[u, .int .i64 (combM dg p ps fuel).2] ∧ Bs = [osl kPair u (combM dg p ps fuel).1]) := by
 intro w0 F0 H
 obtain ⟨A1, c2, rfl, hc3, hm4, hp5⟩ := H.fR 0 rfl
 obtain ⟨A6, c7, rfl, hc8, hm9, hp10⟩ := H.fR 1 rfl
 refine enter Tryz.func11 rfl rfl (Nat.le_of_ble_eq_true rfl) (c_seq (c_reg (s_k 2 rfl (s_nil (q_then ?_)))))
 replace H : Hd _ _ _ [] [rsl kIns (.slice A1 p.length c2) p, rsl kPair (.slice A6 ps.length c7) ps, gl] := H
 refine c_seq (c_seq (c_reg (s_1 rfl (s_val rfl rfl (r_lenL rfl un22 rfl) (s_val rfl rfl (r_eq rfl rfl rfl) (s_nil (q_then ?_)))))))
 refine c_dec rfl (fun h11 => ?_) (fun h11 => ?_)
 ·refine c_seq (c_reg (s_1 rfl (sc (pairSort_ok (.slice A6 ps.length c7) ps (by first | omega | decide)) H (lR 1 rfl l0) rfl rfl (e_fn kn15 rfl rfl) ?_)))
  rintro v12 _ w rfl H
  replace H := H.h1 (A := osl kPair v12 (srt ps))
  refine s_k 2 rfl (s_nil (q_then (c_ret (q_thenR (q_ret2 rfl rfl rfl ?_)))))
  have e : combM dg p ps fuel = (srt ps, 0) := if_pos (by omega)
  exact fin ⟨_, by rw [e] <;> rfl, by rw [e] <;> rfl⟩ H
 refine c_skip (q_then (c_seq (c_reg (s_k 3 rfl (sc (each_ok (.slice A1 p.length c2) p (.slice A6 ps.length c7) ps fuel true hpa hfu hb) H (lR 0 rfl (lR 1 rfl (lR 2 rfl l0))) rfl rfl (e_fn kn32 rfl rfl) ?_)))))
 rintro _ _ w ⟨u13, rfl, rfl⟩ H
 replace H := H.h1 (A := osl kPair u13 ((eachM dg p ps fuel true).1))
 refine s_k 4 rfl (s_nil (q_then (c_ret (q_ret2 rfl rfl rfl ?_))))
 have e : combM dg p ps fuel = eachM dg p ps fuel true := if_neg (by omega)
 exact fin ⟨_, by rw [e] <;> rfl, by rw [e] <;> rfl⟩ H
theorem greatCode_ok (vxs : Value) (xs : List Ins) :
    Cn Tryz.prog 12 [vxs] [] [rsl kIns vxs xs] (fun v Bs => v = .bool (greatC xs) ∧ Bs = []) := by
 intro w0 F0 H
 obtain ⟨A1, c2, rfl, hc3, hm4, hp5⟩ := H.fR 0 rfl
 refine enter Tryz.func12 rfl rfl (Nat.le_of_ble_eq_true rfl) (c_seq (c_reg (s_1 rfl (s_nil (q_then ?_)))))
 replace H : Hd _ _ _ [] [rsl kIns (.slice A1 xs.length c2) xs] := H
 refine c_seq (c_seq (c_reg (s_1 rfl (s_nil (q_then (c_block (c_loop (σ := Nat) (fun k => [(0, .slice A1 xs.length c2), (3, .int .i64 ((k : Nat) : Int))]) (fun k w => (Hd w0 F0 w [] [rsl kIns (.slice A1 xs.length c2) xs]) ∧ (k ≤ xs.length) ∧ (∀ y ∈ xs.take k, y.s.size ≤ 100)) (fun k => xs.length - k) 0 ⟨rfl, rfl, trivial⟩ ⟨H, by omega, by simp⟩ ?_)))))))
 rintro k w ⟨H, hk, hn⟩
 refine c_seq (c_seq (c_reg (s_k 2 rfl (s_val rfl rfl (r_lenL rfl un22 rfl) (s_val rfl rfl (r_lt rfl rfl rfl) (s_1 rfl ?_))))))
 refine s_dec (d := 8) rfl (fun h6 => ?_) (fun h6 => ?_)
 ·refine s_1 rfl (s_val rfl rfl (r_lenL rfl un22 rfl) (s_val rfl rfl (r_le rfl rfl rfl) (s_1 rfl (s_nil (q_then ?_)))))
  refine c_dec rfl (fun h7 => ?_) (fun h7 => ?_)
  ·refine c_skip (q_then (c_seq (c_block (c_seq (c_reg (s_k 2 rfl ?_))))))
   obtain ⟨x8, hx9⟩ : ∃ z9, xs[k]? = some z9 := ⟨_, List.getElem?_eq_getElem (show k < xs.length by omega)⟩
   have th10 := H.thR 0 rfl hx9
   refine s_val rfl rfl (r_iaE (p := oOf A1 + k * 3) rfl sl22 rfl rfl (by omega) (by omega) th10 rfl) (s_val rfl rfl (r_fa rfl fo29_2 rfl) (s_val rfl rfl (r_ld rfl ty9 rfl (H.elR 0 rfl hx9 (q := 2) rfl rfl)) (s_val rfl rfl (r_lenS rfl un9 rfl) (s_val rfl rfl (r_gt rfl rfl rfl) (s_nil (q_then ?_))))))
   refine c_dec rfl (fun h11 => ?_) (fun h11 => ?_)
   ·exact c_seq (c_reg (s_1 rfl (s_nil (q_then (c_ret (q_blockR (q_thenR (q_thenR (q_blockR (q_thenR (q_ret1 rfl rfl (fin ⟨congrArg Value.bool (great_hit hx9 (by omega)), rfl⟩ H))))))))))))
   exact c_skip (q_blockN (q_then (c_reg (s_1 rfl (s_val rfl rfl (r_add (z := ((k + 1 : Nat) : Int)) rfl rfl rfl (by rw [w64 (by omega) (by omega)]; omega)) (s_1 rfl (s_nil (q_round (s := k) (k + 1) ⟨rfl, rfl, trivial⟩ ⟨H, by (try dsimp only); omega, take_small hn hx9 (by omega)⟩ (by (try dsimp only); omega)))))))))
  exact c_exit (q_thenE (q_thenE (q_blockE (q_then (c_seq (c_reg (s_1 rfl (s_val rfl rfl (r_lenL rfl un22 rfl) (s_val rfl rfl (r_gt rfl rfl rfl) (s_1 rfl (s_nil (q_then (c_ret (q_ret1 rfl rfl (fin ⟨congrArg Value.bool (great_end hn (by omega)), rfl⟩ H)))))))))))))))
 exact s_k 4 rfl (s_nil (q_then (c_no rfl (c_exit (q_thenE (q_thenE (q_blockE (q_then (c_seq (c_reg (s_1 rfl (s_val rfl rfl (r_lenL rfl un22 rfl) (s_val rfl rfl (r_gt rfl rfl rfl) (s_1 rfl (s_nil (q_then (c_ret (q_ret1 rfl rfl (fin ⟨congrArg Value.bool (great_end hn (by omega)), rfl⟩ H)))))))))))))))))))
theorem great9_ok (vp : Value) (p : List Ins) (vps : Value) (ps : List Pair) :
    Cn Tryz.prog 8 [vp, vps] [] [rsl kIns vp p, rsl kPair vps ps] (fun v Bs => v = .bool (greatC p || greatP ps 60) ∧ Bs = []) := by
 intro w0 F0 H
 obtain ⟨A1, c2, rfl, hc3, hm4, hp5⟩ := H.fR 0 rfl
 obtain ⟨A6, c7, rfl, hc8, hm9, hp10⟩ := H.fR 1 rfl
 refine enter Tryz.func8 rfl rfl (Nat.le_of_ble_eq_true rfl) (c_seq (c_reg (s_1 rfl (s_nil (q_then ?_)))))
 replace H : Hd _ _ _ [] [rsl kIns (.slice A1 p.length c2) p, rsl kPair (.slice A6 ps.length c7) ps] := H
 refine c_seq (c_reg (s_1 rfl (sc (greatCode_ok (.slice A1 p.length c2) p) H (lR 0 rfl l0) rfl rfl (e_fn kn12 rfl rfl) ?_)))
 rintro _ _ w ⟨rfl, rfl⟩ H
 refine s_1 rfl ?_
 refine s_boo (d := 7) (b := greatC p) rfl (fun h11 => ?_) (fun h11 => ?_)
 ·exact s_k 4 rfl (s_nil (q_then (c_ret (q_ret1 rfl rfl (fin ⟨by rw [h11]; rfl, rfl⟩ H)))))
 refine s_1 rfl (sc (greatPairs_ok (.slice A6 ps.length c7) ps 60) H (lR 1 rfl l0) rfl rfl (e_fn kn14 rfl rfl) ?_)
 rintro _ _ w ⟨rfl, rfl⟩ H
 exact s_k 2 rfl (s_nil (q_then (c_ret (q_ret1 rfl rfl (fin ⟨by rw [h11]; rfl, rfl⟩ H)))))
theorem first_ok  :
    Cn Tryz.prog 31 [] [] [] (fun v Bs => Bs = [osl kIns v firstP]) := by
 intro w0 F0 H
 refine enter Tryz.func31 rfl rfl (Nat.le_of_ble_eq_true rfl) (c_seq (c_reg (s_1 rfl (s_nil (q_then (c_seq (c_reg (s_val rfl rfl (r_bd (parts := [(0, .const (.int .i64 6))]) (vs := [.int .i64 6]) (cs := [.int .i64 6, .int .i64 0, .string ⟨#[]⟩]) rfl bd29 rfl rfl) (s_val rfl rfl (r_bd (parts := [(0, .const (.int .i64 7))]) (vs := [.int .i64 7]) (cs := [.int .i64 7, .int .i64 0, .string ⟨#[]⟩]) rfl bd29 rfl rfl) (s_val rfl rfl (r_bd (parts := [(0, .const (.int .i64 4))]) (vs := [.int .i64 4]) (cs := [.int .i64 4, .int .i64 0, .string ⟨#[]⟩]) rfl bd29 rfl rfl) (s_val rfl rfl (r_bd (parts := [(0, .const (.int .i64 23))]) (vs := [.int .i64 23]) (cs := [.int .i64 23, .int .i64 0, .string ⟨#[]⟩]) rfl bd29 rfl rfl) (s_bsl (parts := [(0, .tmp 1), (1, .tmp 2), (2, .tmp 3), (3, .tmp 4)]) (vs := [.agg #[.int .i64 6, .int .i64 0, .string ⟨#[]⟩], .agg #[.int .i64 7, .int .i64 0, .string ⟨#[]⟩], .agg #[.int .i64 4, .int .i64 0, .string ⟨#[]⟩], .agg #[.int .i64 23, .int .i64 0, .string ⟨#[]⟩]]) (cs := [.int .i64 6, .int .i64 0, .string ⟨#[]⟩, .int .i64 7, .int .i64 0, .string ⟨#[]⟩, .int .i64 4, .int .i64 0, .string ⟨#[]⟩, .int .i64 23, .int .i64 0, .string ⟨#[]⟩]) rfl rfl rfl sl22 zr29 rfl (by decide) (by decide) rfl rfl H (fun b1 w H => ?_)))))))))))))
 refine s_1 rfl (s_nil (q_then ?_))
 replace H : Hd _ _ _ [blk b1 [.int .i64 6, .int .i64 0, .string ⟨#[]⟩, .int .i64 7, .int .i64 0, .string ⟨#[]⟩, .int .i64 4, .int .i64 0, .string ⟨#[]⟩, .int .i64 23, .int .i64 0, .string ⟨#[]⟩] 29] [] := H
 refine c_ret (q_ret1 rfl rfl ?_)
 replace H : Hd w0 F0 w [osl kIns (.slice (some ⟨b1, 0, none⟩) 4 4) firstP] [] := H.turn (fun F h => blk_osl h rfl (by decide) rfl)
 exact fin rfl H
theorem awake9_ok  :
    Cn Tryz.prog 9 [] [] [gl] (fun v Bs => v = .bool true ∧ Bs = []) := by
 intro w0 F0 H
 refine enter Tryz.func9 rfl rfl (Nat.le_of_ble_eq_true rfl) (c_seq (c_reg (s_1 rfl (s_nil (q_then (c_seq (c_reg (s_val rfl rfl (r_bd (parts := [(0, .const (.string ⟨#[98]⟩)), (1, .const (.string ⟨#[49]⟩))]) (vs := [.string ⟨#[98]⟩, .string ⟨#[49]⟩]) (cs := [.string ⟨#[98]⟩, .string ⟨#[49]⟩]) rfl bd56 rfl rfl) (s_val rfl rfl (r_bd (parts := [(0, .const (.string ⟨#[97]⟩)), (1, .const (.string ⟨#[50]⟩))]) (vs := [.string ⟨#[97]⟩, .string ⟨#[50]⟩]) (cs := [.string ⟨#[97]⟩, .string ⟨#[50]⟩]) rfl bd56 rfl rfl) (s_val rfl rfl (r_bd (parts := [(0, .const (.string ⟨#[98]⟩)), (1, .const (.string ⟨#[48]⟩))]) (vs := [.string ⟨#[98]⟩, .string ⟨#[48]⟩]) (cs := [.string ⟨#[98]⟩, .string ⟨#[48]⟩]) rfl bd56 rfl rfl) (s_bsl (parts := [(0, .tmp 6), (1, .tmp 7), (2, .tmp 8)]) (vs := [.agg #[.string ⟨#[98]⟩, .string ⟨#[49]⟩], .agg #[.string ⟨#[97]⟩, .string ⟨#[50]⟩], .agg #[.string ⟨#[98]⟩, .string ⟨#[48]⟩]]) (cs := [.string ⟨#[98]⟩, .string ⟨#[49]⟩, .string ⟨#[97]⟩, .string ⟨#[50]⟩, .string ⟨#[98]⟩, .string ⟨#[48]⟩]) rfl rfl rfl sl23 zr56 rfl (by decide) (by decide) rfl rfl H (fun b1 w H => ?_))))))))))))
 refine s_1 rfl (s_nil (q_then ?_))
 replace H : Hd _ _ _ [blk b1 [.string ⟨#[98]⟩, .string ⟨#[49]⟩, .string ⟨#[97]⟩, .string ⟨#[50]⟩, .string ⟨#[98]⟩, .string ⟨#[48]⟩] 56] [gl] := H
 refine c_seq (c_reg (sc (first_ok) H l0 rfl rfl (e_fn kn31 rfl rfl) ?_))
 rintro v2 _ w rfl H
 refine s_1 rfl (sc (foldEach_ok v2 firstP (.slice (some ⟨b1, 0, none⟩) 3 3) [(⟨⟨#[98]⟩, ⟨#[49]⟩⟩ : Pair), (⟨⟨#[97]⟩, ⟨#[50]⟩⟩ : Pair), (⟨⟨#[98]⟩, ⟨#[48]⟩⟩ : Pair)] 9 (by first | exact hpa | exact in64_first | exact in64_halt | (intro i hi; cases hi)) (by first | assumption | (unfold In64; omega)) (by first | omega | decide | (simp only [List.length_cons, List.length_nil]; omega))) H (lA 0 rfl own_rd (lA 1 rfl (fun F h => blk_rsl h rfl (by decide) (RepsR.flat_eq.2 rfl)) (lR 0 rfl l0))) rfl rfl (e_fn kn10 rfl rfl) ?_)
 rintro _ _ w ⟨u3, rfl, rfl⟩ H
 rw [first_each] at H ⊢
 replace H : Hd _ _ _ [osl kPair u3 [(⟨⟨#[97]⟩, ⟨#[50]⟩⟩ : Pair), (⟨⟨#[98]⟩, ⟨#[49]⟩⟩ : Pair)], osl kIns v2 firstP, blk b1 [.string ⟨#[98]⟩, .string ⟨#[49]⟩, .string ⟨#[97]⟩, .string ⟨#[50]⟩, .string ⟨#[98]⟩, .string ⟨#[48]⟩] 56] [gl] := H
 refine s_k 5 rfl (s_nil (q_then (c_seq (c_reg (s_1 rfl (sc (foldCombine_ok (.slice none 0 0) ([] : List Ins) (.slice (some ⟨b1, 0, none⟩) 3 3) [(⟨⟨#[98]⟩, ⟨#[49]⟩⟩ : Pair), (⟨⟨#[97]⟩, ⟨#[50]⟩⟩ : Pair), (⟨⟨#[98]⟩, ⟨#[48]⟩⟩ : Pair)] 9 (by first | exact hpa | exact in64_first | exact in64_halt | (intro i hi; cases hi)) (by first | assumption | (unfold In64; omega)) (by first | omega | decide | (simp only [List.length_cons, List.length_nil]; omega))) H (lX (fun F _ _ => rsl_nil _ _ F trivial (by decide)) (lA 2 rfl (fun F h => blk_rsl h rfl (by decide) (RepsR.flat_eq.2 rfl)) (lR 0 rfl l0))) rfl rfl (e_fn kn11 rfl rfl) ?_))))))
 rintro _ _ w ⟨u4, rfl, rfl⟩ H
 rw [comb_first] at H ⊢
 replace H : Hd _ _ _ [osl kPair u4 [(⟨⟨#[97]⟩, ⟨#[50]⟩⟩ : Pair), (⟨⟨#[98]⟩, ⟨#[49]⟩⟩ : Pair), (⟨⟨#[98]⟩, ⟨#[48]⟩⟩ : Pair)], osl kPair u3 [(⟨⟨#[97]⟩, ⟨#[50]⟩⟩ : Pair), (⟨⟨#[98]⟩, ⟨#[49]⟩⟩ : Pair)], osl kIns v2 firstP, blk b1 [.string ⟨#[98]⟩, .string ⟨#[49]⟩, .string ⟨#[97]⟩, .string ⟨#[50]⟩, .string ⟨#[98]⟩, .string ⟨#[48]⟩] 56] [gl] := H
 refine s_k 5 rfl (s_nil (q_then (c_seq (c_reg (s_1 rfl (s_val rfl rfl (r_bd (parts := [(0, .const (.string ⟨#[97]⟩)), (1, .const (.string ⟨#[50]⟩))]) (vs := [.string ⟨#[97]⟩, .string ⟨#[50]⟩]) (cs := [.string ⟨#[97]⟩, .string ⟨#[50]⟩]) rfl bd56 rfl rfl) (s_val rfl rfl (r_bd (parts := [(0, .const (.string ⟨#[98]⟩)), (1, .const (.string ⟨#[49]⟩))]) (vs := [.string ⟨#[98]⟩, .string ⟨#[49]⟩]) (cs := [.string ⟨#[98]⟩, .string ⟨#[49]⟩]) rfl bd56 rfl rfl) (s_bsl (parts := [(0, .tmp 22), (1, .tmp 23)]) (vs := [.agg #[.string ⟨#[97]⟩, .string ⟨#[50]⟩], .agg #[.string ⟨#[98]⟩, .string ⟨#[49]⟩]]) (cs := [.string ⟨#[97]⟩, .string ⟨#[50]⟩, .string ⟨#[98]⟩, .string ⟨#[49]⟩]) rfl rfl rfl sl23 zr56 rfl (by decide) (by decide) rfl rfl H (fun b5 w H => (sc (samePairs_ok u3 (.slice (some ⟨b5, 0, none⟩) 2 2) [(⟨⟨#[97]⟩, ⟨#[50]⟩⟩ : Pair), (⟨⟨#[98]⟩, ⟨#[49]⟩⟩ : Pair)] [(⟨⟨#[97]⟩, ⟨#[50]⟩⟩ : Pair), (⟨⟨#[98]⟩, ⟨#[49]⟩⟩ : Pair)]) H (lA 2 rfl own_rd (lA 0 rfl (fun F h => blk_rsl h rfl (by decide) (RepsR.flat_eq.2 rfl)) l0)) rfl rfl (e_fn kn19 rfl rfl) ?_))))))))))
 rintro _ _ w ⟨rfl, rfl⟩ H
 refine s_1 rfl ?_
 refine s_dec (d := 26) rfl (fun h6 => ?_) (fun h6 => ?_)
 ·refine s_1 rfl (s_val rfl rfl (r_eq rfl rfl rfl) (s_k 3 rfl (s_val rfl rfl (r_eq rfl rfl rfl) (s_k 3 rfl ?_))))
  obtain ⟨A7, c8, rfl, hc9, hm10, hp11⟩ := H.fA 1 rfl
  refine s_val rfl rfl (r_lenL rfl un23 rfl) (s_val rfl rfl (r_eq rfl rfl rfl) (s_k 2 rfl ?_))
  refine s_dec (d := 39) rfl (fun h12 => ?_) (fun h12 => ?_)
  ·refine s_1 rfl ?_
   obtain ⟨x13, hx14⟩ : ∃ z9, [(⟨⟨#[97]⟩, ⟨#[50]⟩⟩ : Pair), (⟨⟨#[98]⟩, ⟨#[49]⟩⟩ : Pair), (⟨⟨#[98]⟩, ⟨#[48]⟩⟩ : Pair)][0]? = some z9 := ⟨_, List.getElem?_eq_getElem (show 0 < [(⟨⟨#[97]⟩, ⟨#[50]⟩⟩ : Pair), (⟨⟨#[98]⟩, ⟨#[49]⟩⟩ : Pair), (⟨⟨#[98]⟩, ⟨#[48]⟩⟩ : Pair)].length by omega)⟩
   have th15 := H.thA 1 rfl hx14
   refine s_val rfl rfl (r_iaE (p := oOf A7 + 0 * 2) rfl sl23 rfl rfl (by omega) (by omega) th15 (by omega)) (s_val rfl rfl (r_fa rfl fo56_0 rfl) (s_val rfl rfl (r_ld rfl ty9 rfl (H.elA 1 rfl hx14 (q := 0) rfl rfl)) (s_val rfl rfl (r_eqS rfl rfl rfl) (s_k 2 rfl (s_nil (q_then ?_))))))
   replace H : Hd _ _ _ [blk b5 [.string ⟨#[97]⟩, .string ⟨#[50]⟩, .string ⟨#[98]⟩, .string ⟨#[49]⟩] 56, osl kPair (.slice A7 ([(⟨⟨#[97]⟩, ⟨#[50]⟩⟩ : Pair), (⟨⟨#[98]⟩, ⟨#[49]⟩⟩ : Pair), (⟨⟨#[98]⟩, ⟨#[48]⟩⟩ : Pair)].length) c8) [(⟨⟨#[97]⟩, ⟨#[50]⟩⟩ : Pair), (⟨⟨#[98]⟩, ⟨#[49]⟩⟩ : Pair), (⟨⟨#[98]⟩, ⟨#[48]⟩⟩ : Pair)], osl kPair u3 [(⟨⟨#[97]⟩, ⟨#[50]⟩⟩ : Pair), (⟨⟨#[98]⟩, ⟨#[49]⟩⟩ : Pair)], osl kIns v2 firstP, blk b1 [.string ⟨#[98]⟩, .string ⟨#[49]⟩, .string ⟨#[97]⟩, .string ⟨#[50]⟩, .string ⟨#[98]⟩, .string ⟨#[48]⟩] 56] [gl] := H
   refine c_ret (q_ret1 rfl rfl ?_)
   replace H := H.nil
   exact fin ⟨congrArg Value.bool (decide_eq_true (by have h2 := hx14; simp at h2; rw [← h2])), rfl⟩ H
  exact (h12 rfl).elim
 exact (h6 rfl).elim
theorem foldEmpty_ok (vp : Value) (p : List Ins) (wp : (∀ i ∈ p, In64 i.op ∧ In64 i.a ∧ i.s.size ≤ 9223372036854775807) ∧ p.length ≤ 9223372036854775807) (vps : Value) (ps : List Pair) (wps : (∀ p ∈ ps, p.key.size ≤ 9223372036854775807 ∧ p.val.size ≤ 9223372036854775807) ∧ ps.length ≤ 9223372036854775807) (fuel : Int) (wf : In64 fuel) :
    Cn Tryz.prog 3 [vp, vps, .int .i64 fuel] [] [rsl kIns vp p, rsl kPair vps ps, gl] (fun v Bs => v = .bool true ∧ Bs = []) := by
 intro w0 F0 H
 obtain ⟨A1, c2, rfl, hc3, hm4, hp5⟩ := H.fR 0 rfl
 obtain ⟨A6, c7, rfl, hc8, hm9, hp10⟩ := H.fR 1 rfl
 refine enter Tryz.func3 rfl rfl (Nat.le_of_ble_eq_true rfl) (c_seq (c_reg (s_1 rfl (s_nil (q_then ?_)))))
 replace H : Hd _ _ _ [] [rsl kIns (.slice A1 p.length c2) p, rsl kPair (.slice A6 ps.length c7) ps, gl] := H
 refine c_seq (c_seq (c_reg (s_k 2 rfl (sc (great9_ok (.slice A1 p.length c2) p (.slice A6 ps.length c7) ps) H (lR 0 rfl (lR 1 rfl l0)) rfl rfl (e_fn kn8 rfl rfl) ?_))))
 rintro _ _ w ⟨rfl, rfl⟩ H
 refine s_nil (q_then ?_)
 refine c_cond (b := greatC p || greatP ps 60) rfl (fun h11 => ?_) (fun h11 => ?_)
 ·refine c_seq (c_reg (sc awake9_ok H (lR 2 rfl l0) rfl rfl (e_fn kn9 rfl rfl) ?_))
  rintro _ _ w ⟨rfl, rfl⟩ H
  exact s_1 rfl (s_nil (q_then (c_ret (q_thenR (q_ret1 rfl rfl (fin ⟨rfl, rfl⟩ H))))))
 refine c_skip (q_then (c_seq ?_))
 have hg := (greatP_no (Bool.or_eq_false_iff.1 h11).2).1
 have hpa : ∀ i ∈ p, In64 i.a := fun i hi => (wp.1 i hi).2.1
 refine c_reg (s_k 2 rfl (sc (foldEach_ok (.slice A1 p.length c2) p (.slice none 0 0) ([] : List Pair) fuel (by first | exact hpa | exact in64_first | exact in64_halt | (intro i hi; cases hi)) (by first | assumption | (unfold In64; omega)) (by first | omega | decide | (simp only [List.length_cons, List.length_nil]; omega))) H (lR 0 rfl (lX (fun F _ _ => rsl_nil _ _ F trivial (by decide)) (lR 2 rfl l0))) rfl rfl (e_fn kn10 rfl rfl) ?_))
 rintro _ _ w ⟨u12, rfl, rfl⟩ H
 rw [each_nil] at H ⊢
 replace H : Hd _ _ _ [osl kPair u12 ([] : List Pair)] [rsl kIns (.slice A1 p.length c2) p, rsl kPair (.slice A6 ps.length c7) ps, gl] := H
 refine s_k 5 rfl (s_nil (q_then (c_seq (c_reg (s_k 2 rfl (sc (foldCombine_ok (.slice A1 p.length c2) p (.slice none 0 0) ([] : List Pair) fuel (by first | exact hpa | exact in64_first | exact in64_halt | (intro i hi; cases hi)) (by first | assumption | (unfold In64; omega)) (by first | omega | decide | (simp only [List.length_cons, List.length_nil]; omega))) H (lR 0 rfl (lX (fun F _ _ => rsl_nil _ _ F trivial (by decide)) (lR 2 rfl l0))) rfl rfl (e_fn kn11 rfl rfl) ?_))))))
 rintro _ _ w ⟨u13, rfl, rfl⟩ H
 rw [comb_nil] at H ⊢
 replace H : Hd _ _ _ [osl kPair u13 ([] : List Pair), osl kPair u12 ([] : List Pair)] [rsl kIns (.slice A1 p.length c2) p, rsl kPair (.slice A6 ps.length c7) ps, gl] := H
 refine s_k 5 rfl (s_nil (q_then (c_seq (c_reg (s_val rfl rfl (r_bd (parts := [(0, .const (.int .i64 0))]) (vs := [.int .i64 0]) (cs := [.int .i64 0, .int .i64 0, .string ⟨#[]⟩]) rfl bd29 rfl rfl) (s_bsl (parts := [(0, .tmp 32)]) (vs := [.agg #[.int .i64 0, .int .i64 0, .string ⟨#[]⟩]]) (cs := [.int .i64 0, .int .i64 0, .string ⟨#[]⟩]) rfl rfl rfl sl22 zr29 rfl (by decide) (by decide) rfl rfl H (fun b14 w H => (s_1 rfl (sc (foldEach_ok (.slice (some ⟨b14, 0, none⟩) 1 1) [(⟨0, 0, ⟨#[]⟩⟩ : Ins)] (.slice A6 ps.length c7) ps 1 (by first | exact hpa | exact in64_first | exact in64_halt | (intro i hi; cases hi)) (by first | assumption | (unfold In64; omega)) (by first | omega | decide | (simp only [List.length_cons, List.length_nil]; omega))) H (lA 0 rfl (fun F h => blk_rsl h rfl (by decide) (RepsR.flat_eq.2 rfl)) (lR 1 rfl (lR 2 rfl l0))) rfl rfl (e_fn kn10 rfl rfl) ?_)))))))))
 rintro _ _ w ⟨u15, rfl, rfl⟩ H
 rw [each_halt] at H ⊢
 replace H : Hd _ _ _ [osl kPair u15 ([] : List Pair), blk b14 [.int .i64 0, .int .i64 0, .string ⟨#[]⟩] 29, osl kPair u13 ([] : List Pair), osl kPair u12 ([] : List Pair)] [rsl kIns (.slice A1 p.length c2) p, rsl kPair (.slice A6 ps.length c7) ps, gl] := H
 refine s_k 5 rfl (s_nil (q_then (c_seq (c_reg (s_val rfl rfl (r_bd (parts := [(0, .const (.int .i64 0))]) (vs := [.int .i64 0]) (cs := [.int .i64 0, .int .i64 0, .string ⟨#[]⟩]) rfl bd29 rfl rfl) (s_bsl (parts := [(0, .tmp 39)]) (vs := [.agg #[.int .i64 0, .int .i64 0, .string ⟨#[]⟩]]) (cs := [.int .i64 0, .int .i64 0, .string ⟨#[]⟩]) rfl rfl rfl sl22 zr29 rfl (by decide) (by decide) rfl rfl H (fun b16 w H => (s_1 rfl (sc (foldCombine_ok (.slice (some ⟨b16, 0, none⟩) 1 1) [(⟨0, 0, ⟨#[]⟩⟩ : Ins)] (.slice A6 ps.length c7) ps 1 (by first | exact hpa | exact in64_first | exact in64_halt | (intro i hi; cases hi)) (by first | assumption | (unfold In64; omega)) (by first | omega | decide | (simp only [List.length_cons, List.length_nil]; omega))) H (lA 0 rfl (fun F h => blk_rsl h rfl (by decide) (RepsR.flat_eq.2 rfl)) (lR 1 rfl (lR 2 rfl l0))) rfl rfl (e_fn kn11 rfl rfl) ?_)))))))))
 rintro _ _ w ⟨u17, rfl, rfl⟩ H
 rw [comb_halt] at H ⊢
 replace H : Hd _ _ _ [osl kPair u17 ([] : List Pair), blk b16 [.int .i64 0, .int .i64 0, .string ⟨#[]⟩] 29, osl kPair u15 ([] : List Pair), blk b14 [.int .i64 0, .int .i64 0, .string ⟨#[]⟩] 29, osl kPair u13 ([] : List Pair), osl kPair u12 ([] : List Pair)] [rsl kIns (.slice A1 p.length c2) p, rsl kPair (.slice A6 ps.length c7) ps, gl] := H
 refine s_k 5 rfl (s_nil (q_then (c_seq (c_reg (s_1 rfl ?_)))))
 obtain ⟨A18, c19, rfl, hc20, hm21, hp22⟩ := H.fA 5 rfl
 refine s_val rfl rfl (r_lenL rfl un23 rfl) (s_val rfl rfl (r_eq rfl rfl rfl) (s_1 rfl ?_))
 refine s_dec (d := 48) rfl (fun h23 => ?_) (fun h23 => ?_)
 ·refine s_1 rfl (s_val rfl rfl (r_eq rfl rfl rfl) (s_k 3 rfl ?_))
  obtain ⟨A24, c25, rfl, hc26, hm27, hp28⟩ := H.fA 4 rfl
  refine s_val rfl rfl (r_lenL rfl un23 rfl) (s_val rfl rfl (r_eq rfl rfl rfl) (s_k 2 rfl ?_))
  refine s_dec (d := 57) rfl (fun h29 => ?_) (fun h29 => ?_)
  ·refine s_1 rfl (s_val rfl rfl (r_eq rfl rfl rfl) (s_k 3 rfl ?_))
   obtain ⟨A30, c31, rfl, hc32, hm33, hp34⟩ := H.fA 2 rfl
   refine s_val rfl rfl (r_lenL rfl un23 rfl) (s_val rfl rfl (r_eq rfl rfl rfl) (s_k 2 rfl ?_))
   refine s_dec (d := 66) rfl (fun h35 => ?_) (fun h35 => ?_)
   ·refine s_1 rfl (s_val rfl rfl (r_eq rfl rfl rfl) (s_k 3 rfl ?_))
    obtain ⟨A36, c37, rfl, hc38, hm39, hp40⟩ := H.fA 0 rfl
    refine s_val rfl rfl (r_lenL rfl un23 rfl) (s_val rfl rfl (r_eq rfl rfl rfl) (s_k 2 rfl ?_))
    refine s_dec (d := 75) rfl (fun h41 => ?_) (fun h41 => ?_)
    ·refine s_1 rfl (s_val rfl rfl (r_eq rfl rfl rfl) (s_k 2 rfl (sc awake9_ok H (lR 2 rfl l0) rfl rfl (e_fn kn9 rfl rfl) ?_)))
     rintro _ _ w ⟨rfl, rfl⟩ H
     refine s_k 2 rfl (s_nil (q_then ?_))
     replace H : Hd _ _ _ [osl kPair (.slice A36 (([] : List Pair).length) c37) ([] : List Pair), blk b16 [.int .i64 0, .int .i64 0, .string ⟨#[]⟩] 29, osl kPair (.slice A30 (([] : List Pair).length) c31) ([] : List Pair), blk b14 [.int .i64 0, .int .i64 0, .string ⟨#[]⟩] 29, osl kPair (.slice A24 (([] : List Pair).length) c25) ([] : List Pair), osl kPair (.slice A18 (([] : List Pair).length) c19) ([] : List Pair)] [rsl kIns (.slice A1 p.length c2) p, rsl kPair (.slice A6 ps.length c7) ps, gl] := H
     refine c_ret (q_ret1 rfl rfl ?_)
     replace H := H.nil
     exact fin ⟨rfl, rfl⟩ H
    exact (h41 rfl).elim
   exact (h35 rfl).elim
  exact (h29 rfl).elim
 exact (h23 rfl).elim
theorem v_foot {P : Program} {W : World} {name : String} {g : Nat} {cs : Array Value} (hg : P.globalNamed name = some g) (h : W.var? P name = some cs) : Old W g := by
 unfold World.var? at h
 rw [hg] at h
 simp only [Option.bind_some] at h
 show g < W.heap.size
 rcases Nat.lt_or_ge g W.heap.size with h' | h'
 ·exact h'
 ·simp [Array.getElem?_eq_none h'] at h
theorem star2 : "*" ++ "errors.errorString" = "*errors.errorString" := by decide
theorem ptrRow (u : TypeId) (h : Tryz.prog.typeName? 3 u = some "*errors.errorString") : u = 219 := typeName_ptr_named (nm := "errors.errorString") (by rw [star2]; kernel_rfl) (by kernel_rfl) (by decide) u (by rw [star2]; exact h)
theorem gn0 : Tryz.prog.globalNamed "internal/strconv.uint64pow10" = some 2 := by kernel_rfl
theorem gt0 : (Tryz.prog.globals[2]?).map (·.type) = some 215 := by kernel_rfl
theorem gn1 : Tryz.prog.globalNamed "strconv.ErrSyntax" = some 0 := by kernel_rfl
theorem gt1 : (Tryz.prog.globals[0]?).map (·.type) = some 168 := by kernel_rfl
theorem gn2 : Tryz.prog.globalNamed "strconv.ErrRange" = some 1 := by kernel_rfl
theorem gt2 : (Tryz.prog.globals[1]?).map (·.type) = some 168 := by kernel_rfl
theorem lu168 : Tryz.prog.underlying 168 = some (.interface (Tryz.prog.methodsAt 168)) := by kernel_rfl
theorem lu215 : Tryz.prog.underlying 215 = some (.array 20 86) := by kernel_rfl
theorem lu86 : Tryz.prog.underlying 86 = some (.int .u64) := by kernel_rfl
theorem lu219 : Tryz.prog.underlying 219 = some (.pointer 221) := by kernel_rfl
theorem lu221 : Tryz.prog.underlying 221 = some (.struct #[⟨ "s", 9, 0, false, "", "errors", 0⟩]) := by kernel_rfl
theorem lu9 : Tryz.prog.underlying 9 = some (.string) := by kernel_rfl
theorem lc86 : Tryz.prog.cellsOf 86 = 1 := by kernel_rfl
theorem lc215 : Tryz.prog.cellsOf 215 = 20 := by kernel_rfl
theorem lc221 : Tryz.prog.cellsOf 221 = 1 := by kernel_rfl
theorem lc9 : Tryz.prog.cellsOf 9 = 1 := by kernel_rfl
theorem gl_laid {W : World} (h : laidMet Tryz.prog Rows.foldEmptyRow.laid W) : gl.P W (Old W) := by
 refine ⟨?_, ?_, ?_⟩
 ·have h0 : laidMet Tryz.prog [("internal/strconv.uint64pow10", Lib.tabData .u64 Lib.pow10Tab)] W := by
   have e : Rows.foldEmptyRow.laid.filter (fun x => x.1 == "internal/strconv.uint64pow10") = [("internal/strconv.uint64pow10", Lib.tabData .u64 Lib.pow10Tab)] := by kernel_rfl
   have := h.filter (fun x => x.1 == "internal/strconv.uint64pow10"); rw [e] at this; exact this
  have hv := Lib.tabIs_of_head gn0 gt0 lu215 lu86 lc86 lc215 h0
  exact ⟨_, gn0, v_foot gn0 hv, _, hv, rfl⟩
 ·have h0 : laidMet Tryz.prog [("strconv.ErrSyntax", Rows.laid_strconv_ErrSyntax)] W := by
   have e : Rows.foldEmptyRow.laid.filter (fun x => x.1 == "strconv.ErrSyntax") = [("strconv.ErrSyntax", Rows.laid_strconv_ErrSyntax)] := by kernel_rfl
   have := h.filter (fun x => x.1 == "strconv.ErrSyntax"); rw [e] at this; exact this
  obtain ⟨a0, s0, hv, -⟩ := laid_sentinel h0 gn1 gt1 lu168 ptrRow lu219 lu221 rfl rfl lu9 lc221 lc9
  exact ⟨_, gn1, v_foot gn1 hv, _, hv, _, _, rfl⟩
 ·have h0 : laidMet Tryz.prog [("strconv.ErrRange", Rows.laid_strconv_ErrRange)] W := by
   have e : Rows.foldEmptyRow.laid.filter (fun x => x.1 == "strconv.ErrRange") = [("strconv.ErrRange", Rows.laid_strconv_ErrRange)] := by kernel_rfl
   have := h.filter (fun x => x.1 == "strconv.ErrRange"); rw [e] at this; exact this
  obtain ⟨a0, s0, hv, -⟩ := laid_sentinel h0 gn2 gt2 lu168 ptrRow lu219 lu221 rfl rfl lu9 lc221 lc9
  exact ⟨_, gn2, v_foot gn2 hv, _, hv, _, _, rfl⟩
end Go.Proofs.YtlpgdkbokakniaaGreatDoor.X
