/- ModelAlike: texts XE, F2, XJob, J1, J2, J3, J4, J5, XJob2, XAlike, J8, J9, G1, joined by a program of ours; what nothing names is left out. -/
import Derived.Test.YtlpgdkbokakniaaGreatDoorModelAlikeQ3
import Derived.KernelRfl
import Derived.Test.YtlpgdkbokakniaaGreatDoorRows
import Derived.LaidSub
import Derived.Lib.LaidTab
import Derived.Stop.LaidErr
set_option linter.unusedVariables false
set_option linter.unusedSimpArgs false
set_option maxHeartbeats 8000000
namespace Go.Proofs.YtlpgdkbokakniaaGreatDoor.X
open Go
theorem emit_len {told : List Pair} {k v : ByteArray} (h : told.length ≤ 40) : (emitM told k v).2.length ≤ 40 := by
 unfold emitM
 split
 ·exact h
 ·split
  ·exact h
  ·simp only [List.length_append, List.length_cons, List.length_nil]; omega
theorem nextM_told (m : VM) : (nextM m).1.told = m.told := by
 rw [next_S]
def TL (r : VM × Int) : Prop := r.1.told.length ≤ 40
theorem ite_p {c : Prop} [Decidable c] {x y : VM × Int} (hx : TL x) (hy : TL y) : TL (if c then x else y) := by
 split
 ·exact hx
 ·exact hy
theorem act_told {D : Dig} {key : ByteArray} {m : VM} {i : Ins} {v : List Val} (h : m.told.length ≤ 40) : (actM D key m i v).1.told.length ≤ 40 := by
 have hn : TL (nextM m) := by unfold TL; rw [nextM_told]; exact h
 have h20 : TL (if (v.getD 0 val0).n ≠ 0 then {m with pos := i.a} else m, 0) := by
  unfold TL
  dsimp only
  split <;> exact h
 exact ite_p h (ite_p h (ite_p h (ite_p h (ite_p h (ite_p h (ite_p hn (ite_p h (ite_p h (ite_p h (ite_p h (ite_p h (ite_p h (ite_p h (ite_p h (ite_p h (ite_p h20 (ite_p h (ite_p h (ite_p (emit_len h) h)))))))))))))))))))
theorem does_told {D : Dig} {key : ByteArray} {m : VM} {i : Ins} (h : m.told.length ≤ 40) : (doesM D key m i).1.told.length ≤ 40 := by
 unfold doesM
 split
 ·exact h
 ·exact act_told h
theorem play_told {D : Dig} {p : List Ins} {key : ByteArray} : ∀ (k : Nat) {m : VM}, m.told.length ≤ 40 → (playM D p key k m).1.told.length ≤ 40
 | 0, m, h => by
  unfold playM
  split <;> exact h
 | k + 1, m, h => by
  unfold playM
  split
  ·split
   ·split
    ·exact does_told h
    ·exact play_told k (does_told h)
   ·exact h
  ·exact h
theorem run_told (D : Dig) (p : List Ins) (key : ByteArray) (vals : List ByteArray) (fuel : Int) : (runM D p key vals fuel).1.length ≤ 40 := by
 unfold runM
 split
 ·exact Nat.zero_le _
 ·split
  ·exact Nat.zero_le _
  ·exact play_told _ (Nat.zero_le _)
def otherKey (k : ByteArray) (l : List Pair) : Bool := l.any fun x => decide (x.key ≠ k)
def eachGo (D : Dig) (p : List Ins) (ps : List Pair) (fuel : Int) (own : Bool) : List ByteArray → List Pair → List Pair × Int
 | [], out => (out, 0)
 | k :: ks, out =>
  if (runM D p k (ofL ps k) fuel).2 ≠ 0 then ([], (runM D p k (ofL ps k) fuel).2)
  else if own = true ∧ otherKey k (runM D p k (ofL ps k) fuel).1 = true then ([], 6)
  else if 40 < out.length + (runM D p k (ofL ps k) fuel).1.length then ([], 5)
  else eachGo D p ps fuel own ks (out ++ (runM D p k (ofL ps k) fuel).1)
def eachM (D : Dig) (p : List Ins) (ps : List Pair) (fuel : Int) (own : Bool) : List Pair × Int := eachGo D p ps fuel own (keysL ps) []
def combM (D : Dig) (p : List Ins) (ps : List Pair) (fuel : Int) : List Pair × Int := if p.length = 0 then (srt ps, 0) else eachM D p ps fuel true
section
variable {D : Dig} {p : List Ins} {ps : List Pair} {fuel : Int} {own : Bool} {ks : List ByteArray} {k : ByteArray} {out : List Pair} {i : Nat}
theorem go_end (h : ks.length ≤ i) : eachGo D p ps fuel own (ks.drop i) out = (out, 0) := by
 rw [List.drop_eq_nil_of_le h]; rfl
theorem go_why (hk : ks[i]? = some k) (h : (runM D p k (ofL ps k) fuel).2 ≠ 0) : eachGo D p ps fuel own (ks.drop i) out = ([], (runM D p k (ofL ps k) fuel).2) := by
 rw [drop_at hk]; exact if_pos h
theorem go_key (hk : ks[i]? = some k) (h : ¬ (runM D p k (ofL ps k) fuel).2 ≠ 0) (h2 : own = true) (h3 : otherKey k (runM D p k (ofL ps k) fuel).1 = true) : eachGo D p ps fuel own (ks.drop i) out = ([], 6) := by
 rw [drop_at hk]; unfold eachGo; rw [if_neg h, if_pos ⟨h2, h3⟩]
theorem go_many (hk : ks[i]? = some k) (h : ¬ (runM D p k (ofL ps k) fuel).2 ≠ 0) (h2 : ¬ (own = true ∧ otherKey k (runM D p k (ofL ps k) fuel).1 = true)) (h3 : 40 < out.length + (runM D p k (ofL ps k) fuel).1.length) : eachGo D p ps fuel own (ks.drop i) out = ([], 5) := by
 rw [drop_at hk]; unfold eachGo; rw [if_neg h, if_neg h2, if_pos h3]
theorem go_on (hk : ks[i]? = some k) (h : ¬ (runM D p k (ofL ps k) fuel).2 ≠ 0) (h2 : ¬ (own = true ∧ otherKey k (runM D p k (ofL ps k) fuel).1 = true)) (h3 : ¬ 40 < out.length + (runM D p k (ofL ps k) fuel).1.length) :
  eachGo D p ps fuel own (ks.drop (i + 1)) (out ++ (runM D p k (ofL ps k) fuel).1) = eachGo D p ps fuel own (ks.drop i) out := by
 rw [drop_at hk]; conv => rhs; unfold eachGo
 rw [if_neg h, if_neg h2, if_neg h3]
end
theorem each_len (D : Dig) (p : List Ins) (ps : List Pair) (fuel : Int) (own : Bool) : ∀ (ks : List ByteArray) (out : List Pair), out.length ≤ 40 → (eachGo D p ps fuel own ks out).1.length ≤ 40
 | [], out, h => h
 | k :: ks, out, h => by
  unfold eachGo
  split
  ·exact Nat.zero_le _
  ·split
   ·exact Nat.zero_le _
   ·split
    ·exact Nat.zero_le _
    ·exact each_len D p ps fuel own ks _ (by simp only [List.length_append]; omega)
def firstP : List Ins := [⟨6, 0, ⟨#[]⟩⟩, ⟨7, 0, ⟨#[]⟩⟩, ⟨4, 0, ⟨#[]⟩⟩, ⟨23, 0, ⟨#[]⟩⟩]
theorem in64_first : ∀ i ∈ firstP, In64 i.a := by
 intro i hi
 simp only [firstP, List.mem_cons, List.not_mem_nil, or_false] at hi
 rcases hi with rfl | rfl | rfl | rfl <;> exact in0
theorem eachF_ok (x : Pair) (kb : Nat) (key : ByteArray) :
    Cn Tryz.prog 57 [.agg #[.string x.key, .string x.val], .pointer (some ⟨kb, 0, none⟩)] [] [blk kb [.string key] 9] (fun v Bs => v = .bool (decide (x.key ≠ key)) ∧ Bs = []) := by
 intro w0 F0 H
 refine enter Tryz.func57 rfl rfl (Nat.le_of_ble_eq_true rfl) (c_seq (c_reg (s_box rfl rfl rfl rfl H (fun b1 w H => (s_1 rfl (s_nil (q_then ?_)))))))
 replace H : Hd _ _ _ [blk b1 [.string x.key, .string x.val] 56] [blk kb [.string key] 9] := H
 refine c_seq (c_reg (s_val rfl rfl (r_fa rfl fo56_0 rfl) (s_val rfl rfl (r_ld rfl ty9 rfl (H.cellI 0 rfl rfl)) (s_val rfl rfl (r_ld rfl ty9 rfl (H.cellRI 0 rfl rfl)) (s_val rfl rfl (r_neS rfl rfl rfl) (s_1 rfl (s_nil (q_then (c_ret (q_ret1 rfl rfl ?_))))))))))
 replace H := H.nil
 exact fin ⟨rfl, rfl⟩ H
theorem each_ok (vp : Value) (p : List Ins) (vps : Value) (ps : List Pair) (fuel : Int) (own : Bool) (hpa : ∀ i ∈ p, In64 i.a) (hfu : In64 fuel) (hb : ps.length ≤ 1000000) :
    Cn Tryz.prog 32 [vp, vps, .int .i64 fuel, .bool own] [] [rsl kIns vp p, rsl kPair vps ps, gl] (fun v Bs => ∃ u, v = .tuple #[u, .int .i64 (eachM dg p ps fuel own).2] ∧ Bs = [osl kPair u (eachM dg p ps fuel own).1]) := by
 intro w0 F0 H
 obtain ⟨A1, c2, rfl, hc3, hm4, hp5⟩ := H.fR 0 rfl
 obtain ⟨A6, c7, rfl, hc8, hm9, hp10⟩ := H.fR 1 rfl
 refine enter Tryz.func32 rfl rfl (Nat.le_of_ble_eq_true rfl) (c_seq (c_reg (s_k 2 rfl (s_nil (q_then ?_)))))
 replace H : Hd _ _ _ [] [rsl kIns (.slice A1 p.length c2) p, rsl kPair (.slice A6 ps.length c7) ps, gl] := H
 refine c_seq (c_reg (s_1 rfl (s_nil (q_then (c_seq (c_reg (sc tallyNew_ok H l0 rfl rfl (e_fn kn52 rfl rfl) ?_)))))))
 rintro _ _ w ⟨b11, rfl, rfl⟩ H
 replace H := H.h1 (A := blk b11 [.int .i64 0, .int .i64 0, .int .i64 0, .int .i64 0, .int .i64 0, .int .i64 0, .int .i64 0, .int .i64 0] 96)
 refine s_1 rfl (s_nil (q_then (c_seq (c_seq (c_reg (s_1 rfl (sc (pKeys_ok (.slice A6 ps.length c7) ps (by first | omega | decide)) H (lR 1 rfl l0) rfl rfl (e_fn kn53 rfl rfl) ?_)))))))
 rintro v12 _ w rfl H
 obtain ⟨A13, c14, rfl, hc15, hm16, hp17⟩ := H.fA 0 rfl
 refine s_val rfl rfl (r_lenL rfl un75 rfl) (s_1 rfl (s_nil (q_then ?_)))
 replace H : Hd _ _ _ [osl kStr (.slice A13 ((keysL ps).length) c14) (keysL ps), blk b11 [.int .i64 0, .int .i64 0, .int .i64 0, .int .i64 0, .int .i64 0, .int .i64 0, .int .i64 0, .int .i64 0] 96] [rsl kIns (.slice A1 p.length c2) p, rsl kPair (.slice A6 ps.length c7) ps, gl] := H
 refine c_block ?_
 replace H := H.newnil kPair
 refine c_loop (σ := Nat × Value × List Pair) (fun (i, q, out) => [(0, .slice A1 p.length c2), (1, .slice A6 ps.length c7), (2, .int .i64 fuel), (3, .bool own), (10, q), (11, .pointer (some ⟨b11, 0, none⟩)), (18, .slice A13 ((keysL ps).length) c14), (19, .int .i64 (((keysL ps).length : Nat) : Int)), (20, .int .i64 ((i : Nat) : Int))]) (fun (i, q, out) w => (Hd w0 F0 w [osl kPair q out, osl kStr (.slice A13 ((keysL ps).length) c14) (keysL ps), blk b11 [.int .i64 (out.length : Int), .int .i64 0, .int .i64 0, .int .i64 0, .int .i64 0, .int .i64 0, .int .i64 0, .int .i64 0] 96] [rsl kIns (.slice A1 p.length c2) p, rsl kPair (.slice A6 ps.length c7) ps, gl]) ∧ (i ≤ (keysL ps).length) ∧ (eachGo dg p ps fuel own ((keysL ps).drop i) out = eachM dg p ps fuel own) ∧ (out.length ≤ 40)) (fun (i, q, out) => (keysL ps).length - i) (0, .slice none 0 0, []) ⟨rfl, rfl, rfl, rfl, rfl, rfl, rfl, rfl, rfl, trivial⟩ ⟨H, Nat.zero_le _, rfl, Nat.zero_le _⟩ ?_
 rintro ⟨i, q, out⟩ w ⟨H, hi, hgo, ho⟩
 have hkl := keysL_len ps
 refine c_seq (c_reg (s_val rfl rfl (r_lt rfl rfl rfl) (s_nil (q_then (c_seq ?_)))))
 refine c_dec rfl (fun h18 => ?_) (fun h18 => ?_)
 ·refine c_skip (q_then (c_seq (c_block (c_seq (c_reg ?_)))))
  obtain ⟨x19, hx20⟩ : ∃ z9, (keysL ps)[i]? = some z9 := ⟨_, List.getElem?_eq_getElem (show i < (keysL ps).length by omega)⟩
  have th21 := H.thA 1 rfl hx20
  refine s_val rfl rfl (r_iaE (p := oOf A13 + i * 1) rfl sl75 rfl rfl (by omega) (by omega) th21 rfl) (s_val rfl rfl (r_ld rfl ty9 rfl (H.elA 1 rfl hx20 (q := 0) rfl rfl)) (s_alloc rfl rfl rfl zr9 H (fun b22 w H => (s_st rfl rfl rfl ty9 rfl rfl H rfl (Nat.le_of_ble_eq_true rfl) (fun u hu => by simp [Value.cells] at hu; subst hu; rfl) (fun w H => ?_)))))
  replace H := H.h4 (A := blk b22 [.string x19] 9) (B := osl kPair q out) (D := blk b11 [.int .i64 (out.length : Int), .int .i64 0, .int .i64 0, .int .i64 0, .int .i64 0, .int .i64 0, .int .i64 0, .int .i64 0] 96)
  refine s_nil (q_then (c_seq (c_ord (.e 0 (.e 1 (.e 2 (.e 3 (.e 5 (.m 4 (.m 6 (.e 7 (.e 8 (.e 9 (.e 10 (.e 11 .z)))))))))))) (fun w => ∃ Ar, Hd w0 F0 w (blk b22 [.string x19] 9 :: osl kPair q out :: osl kStr (.slice A13 ((keysL ps).length) c14) (keysL ps) :: blk b11 [.int .i64 (out.length : Int), .int .i64 0, .int .i64 0, .int .i64 0, .int .i64 0, .int .i64 0, .int .i64 0, .int .i64 0] 96 :: Ar) [rsl kIns (.slice A1 p.length c2) p, rsl kPair (.slice A6 ps.length c7) ps, gl]) mo (by kernel_rfl) (fun w H => ⟨_, H⟩) H (fun w H => (d_1 rfl (d_val rfl rfl rfl (fun w ⟨Ar, H⟩ => r_ld rfl ty9 rfl (H.cellI 0 rfl rfl)) (d_1 rfl (d_val rfl rfl rfl (fun w ⟨Ar, H⟩ => r_ld rfl ty9 rfl (H.cellI 0 rfl rfl)) (d_1 rfl (d_main rfl (sc (pOf_ok (.slice A6 ps.length c7) ps x19 (by first | omega | decide)) H (lR 1 rfl l0) rfl rfl (e_fn kn55 rfl rfl) ?_)))))))))))
  rintro v23 _ w rfl H
  replace H := H.h1 (A := osl kStr v23 (ofL ps x19)) |>.p4 |>.p4 |>.p4 |>.p4
  refine d_back ⟨_, H⟩ (d_main rfl (sc (vmRun_ok (.slice A1 p.length c2) p x19 v23 (ofL ps x19) fuel hpa hfu) H (lR 0 rfl (lA 4 rfl own_rd (lR 2 rfl l0))) rfl rfl (e_fn kn54 rfl rfl) ?_))
  rintro _ _ w ⟨u24, rfl, rfl⟩ H
  replace H := H.h1 (A := osl kPair u24 ((runM dg p x19 (ofL ps x19) fuel).1))
  have hrt := run_told dg p x19 (ofL ps x19) fuel
  replace H := H.p4.p4.p4.p4
  refine d_back ⟨_, H⟩ (d_1 rfl (d_1 rfl (d_1 rfl (d_1 rfl (d_1 rfl (d_nil (q_then (c_seq (c_block (c_seq (c_reg (s_1 rfl (s_val rfl rfl (r_ne rfl rfl rfl) (s_1 rfl (s_nil (q_then ?_))))))))))))))))
  refine c_dec rfl (fun h25 => ?_) (fun h25 => ?_)
  ·refine c_seq (c_reg (s_k 3 rfl (s_nil (q_then (c_ret (q_blockR (q_thenR (q_blockR (q_thenR (q_thenR (q_blockR (q_thenR (q_ret2 rfl rfl rfl ?_)))))))))))))
   have e : eachM dg p ps fuel own = ([], (runM dg p x19 (ofL ps x19) fuel).2) := hgo.symm.trans (go_why hx20 h25)
   replace H := H.nil |>.newnil kPair
   exact fin ⟨_, by rw [e] <;> rfl, by rw [e] <;> rfl⟩ H
  refine c_seq (c_reg (s_k 2 rfl ?_))
  refine s_boo (d := 40) (b := own) rfl (fun h26 => ?_) (fun h26 => ?_)
  ·refine s_1 rfl (s_val rfl rfl (r_fn (fs := #[]) (cs := #[.pointer (some ⟨b22, 0, none⟩)]) rfl rfl rfl) (sc (containsFP_ok 57 [.pointer (some ⟨b22, 0, none⟩)] [blk b22 [.string x19] 9] (fun y => decide (y.key ≠ x19)) kn57 (fun y => eachF_ok y b22 x19) u24 (runM dg p x19 (ofL ps x19) fuel).1) H (lA 4 rfl own_rd (lA 0 rfl (fun _ h => h) l0)) rfl rfl (e_fn kn56 rfl rfl) ?_))
   rintro _ _ w ⟨rfl, rfl⟩ H
   refine s_k 2 rfl (s_nil (q_then ?_))
   refine c_cond (b := otherKey x19 (runM dg p x19 (ofL ps x19) fuel).1) rfl (fun h27 => ?_) (fun h27 => ?_)
   ·refine c_seq (c_reg (s_k 2 rfl (s_nil (q_then (c_ret (q_blockR (q_thenR (q_blockR (q_thenR (q_thenR (q_blockR (q_thenR (q_ret2 rfl rfl rfl ?_)))))))))))))
    have e : eachM dg p ps fuel own = ([], 6) := hgo.symm.trans (go_key hx20 h25 h26 h27)
    replace H := H.nil |>.newnil kPair
    replace H : Hd _ _ _ [osl kPair (.slice none 0 0) []] [rsl kIns (.slice A1 p.length c2) p, rsl kPair (.slice A6 ps.length c7) ps, gl] := H
    exact fin ⟨_, by rw [e] <;> rfl, by rw [e] <;> rfl⟩ H
   refine c_seq (c_reg (s_k 2 rfl ?_))
   obtain ⟨A28, c29, rfl, hc30, hm31, hp32⟩ := H.fA 4 rfl
   refine s_val rfl rfl (r_lenL rfl un23 rfl) ?_
   replace H := H.p3
   replace H : Hd _ _ _ [blk b11 [.int .i64 (out.length : Int), .int .i64 0, .int .i64 0, .int .i64 0, .int .i64 0, .int .i64 0, .int .i64 0, .int .i64 0] 96, blk b22 [.string x19] 9, osl kPair q out, osl kStr (.slice A13 ((keysL ps).length) c14) (keysL ps), osl kPair (.slice A28 (((runM dg p x19 (ofL ps x19) fuel).1).length) c29) ((runM dg p x19 (ofL ps x19) fuel).1), osl kStr v23 (ofL ps x19)] [rsl kIns (.slice A1 p.length c2) p, rsl kPair (.slice A6 ps.length c7) ps, gl] := H
   refine sc (tallyAdd_ok b11 (out.length : Int) 0 0 0 0 0 0 0 ((((runM dg p x19 (ofL ps x19) fuel).1).length : Nat) : Int) (by omega) (by omega)) H l0 rfl rfl (e_fn kn58 rfl rfl) ?_
   rintro _ _ w ⟨rfl, rfl⟩ H
   replace H := H.h1 (A := blk b11 [.int .i64 (min ((out.length : Int) + ((((runM dg p x19 (ofL ps x19) fuel).1).length : Nat) : Int)) 1099511627776), .int .i64 0, .int .i64 0, .int .i64 0, .int .i64 0, .int .i64 0, .int .i64 0, .int .i64 0] 96)
   refine s_val rfl rfl (r_gt rfl rfl rfl) (s_1 rfl (s_nil (q_then ?_)))
   refine c_dec rfl (fun h33 => ?_) (fun h33 => ?_)
   ·refine c_seq (c_reg (s_k 2 rfl (s_nil (q_then (c_ret (q_blockR (q_thenR (q_blockR (q_thenR (q_thenR (q_blockR (q_thenR (q_ret2 rfl rfl rfl ?_)))))))))))))
    have e : eachM dg p ps fuel own = ([], 5) := hgo.symm.trans (go_many hx20 h25 (fun h => by rw [h.2] at h27; cases h27) (by omega))
    replace H := H.nil |>.newnil kPair
    exact fin ⟨_, by rw [e] <;> rfl, by rw [e] <;> rfl⟩ H
   refine c_skip (q_blockN (q_then (c_reg (s_k 2 rfl ?_))))
   replace H := H.p2
   refine s_appF (xs := out) (ys := (runM dg p x19 (ofL ps x19) fuel).1) rfl rfl rfl sl23 zr56 rfl (by decide) rfl rfl H (by omega) (fun F hA hR => own_rd F (hA _ (List.mem_of_getElem? (i := 3) rfl))) (fun v34 w H => ?_)
   replace H := H.h1 (A := osl kPair v34 (out ++ ((runM dg p x19 (ofL ps x19) fuel).1)))
   refine s_1 rfl (s_nil (q_blockN (q_then (c_reg (s_val rfl rfl (r_add (z := ((i + 1 : Nat) : Int)) rfl rfl rfl (by rw [w64 (by omega) (by omega)]; omega)) (s_1 rfl (s_nil ?_)))))))
   replace H := H.p3.p1.k3
   have hl2 : ((out ++ (runM dg p x19 (ofL ps x19) fuel).1).length : Int) = min ((out.length : Int) + ((((runM dg p x19 (ofL ps x19) fuel).1).length : Nat) : Int)) 1099511627776 := by rw [List.length_append]; omega
   replace H : Hd w0 F0 w [osl kPair v34 (out ++ ((runM dg p x19 (ofL ps x19) fuel).1)), osl kStr (.slice A13 ((keysL ps).length) c14) (keysL ps), blk b11 [.int .i64 ((out ++ (runM dg p x19 (ofL ps x19) fuel).1).length : Int), .int .i64 0, .int .i64 0, .int .i64 0, .int .i64 0, .int .i64 0, .int .i64 0, .int .i64 0] 96] [rsl kIns (.slice A1 p.length c2) p, rsl kPair (.slice A6 ps.length c7) ps, gl] := by rw [hl2]; exact H
   have hg2 := (go_on (out := out) hx20 h25 (fun h => by rw [h.2] at h27; cases h27) (by omega)).trans hgo
   have ho2 : (out ++ (runM dg p x19 (ofL ps x19) fuel).1).length ≤ 40 := by rw [List.length_append]; omega
   exact q_round (s := (i, undef, out)) (i + 1, v34, out ++ (runM dg p x19 (ofL ps x19) fuel).1) ⟨rfl, rfl, rfl, rfl, rfl, rfl, rfl, rfl, rfl, trivial⟩ ⟨H, by (try dsimp only); omega, hg2, ho2⟩ (by (try dsimp only); omega)
  refine s_k 5 rfl (s_nil (q_then (c_no rfl (c_seq (c_reg (s_k 2 rfl ?_))))))
  obtain ⟨A35, c36, rfl, hc37, hm38, hp39⟩ := H.fA 4 rfl
  refine s_val rfl rfl (r_lenL rfl un23 rfl) ?_
  replace H := H.p3
  refine sc (tallyAdd_ok b11 (out.length : Int) 0 0 0 0 0 0 0 ((((runM dg p x19 (ofL ps x19) fuel).1).length : Nat) : Int) (by omega) (by omega)) H l0 rfl rfl (e_fn kn58 rfl rfl) ?_
  rintro _ _ w ⟨rfl, rfl⟩ H
  replace H := H.h1 (A := blk b11 [.int .i64 (min ((out.length : Int) + ((((runM dg p x19 (ofL ps x19) fuel).1).length : Nat) : Int)) 1099511627776), .int .i64 0, .int .i64 0, .int .i64 0, .int .i64 0, .int .i64 0, .int .i64 0, .int .i64 0] 96)
  refine s_val rfl rfl (r_gt rfl rfl rfl) (s_1 rfl (s_nil (q_then ?_)))
  refine c_dec rfl (fun h40 => ?_) (fun h40 => ?_)
  ·refine c_seq (c_reg (s_k 2 rfl (s_nil (q_then (c_ret (q_blockR (q_thenR (q_blockR (q_thenR (q_thenR (q_blockR (q_thenR (q_ret2 rfl rfl rfl ?_)))))))))))))
   have e : eachM dg p ps fuel own = ([], 5) := hgo.symm.trans (go_many hx20 h25 (fun h => by rw [h.1] at h26; cases h26) (by omega))
   replace H := H.nil |>.newnil kPair
   exact fin ⟨_, by rw [e] <;> rfl, by rw [e] <;> rfl⟩ H
  refine c_skip (q_blockN (q_then (c_reg (s_k 2 rfl ?_))))
  replace H := H.p2
  refine s_appF (xs := out) (ys := (runM dg p x19 (ofL ps x19) fuel).1) rfl rfl rfl sl23 zr56 rfl (by decide) rfl rfl H (by omega) (fun F hA hR => own_rd F (hA _ (List.mem_of_getElem? (i := 3) rfl))) (fun v41 w H => ?_)
  replace H := H.h1 (A := osl kPair v41 (out ++ ((runM dg p x19 (ofL ps x19) fuel).1)))
  refine s_1 rfl (s_nil (q_blockN (q_then (c_reg (s_val rfl rfl (r_add (z := ((i + 1 : Nat) : Int)) rfl rfl rfl (by rw [w64 (by omega) (by omega)]; omega)) (s_1 rfl (s_nil ?_)))))))
  replace H := H.p3.p1.k3
  have hl2 : ((out ++ (runM dg p x19 (ofL ps x19) fuel).1).length : Int) = min ((out.length : Int) + ((((runM dg p x19 (ofL ps x19) fuel).1).length : Nat) : Int)) 1099511627776 := by rw [List.length_append]; omega
  replace H : Hd w0 F0 w [osl kPair v41 (out ++ ((runM dg p x19 (ofL ps x19) fuel).1)), osl kStr (.slice A13 ((keysL ps).length) c14) (keysL ps), blk b11 [.int .i64 ((out ++ (runM dg p x19 (ofL ps x19) fuel).1).length : Int), .int .i64 0, .int .i64 0, .int .i64 0, .int .i64 0, .int .i64 0, .int .i64 0, .int .i64 0] 96] [rsl kIns (.slice A1 p.length c2) p, rsl kPair (.slice A6 ps.length c7) ps, gl] := by rw [hl2]; exact H
  have hg2 := (go_on (out := out) hx20 h25 (fun h => by rw [h.1] at h26; cases h26) (by omega)).trans hgo
  have ho2 : (out ++ (runM dg p x19 (ofL ps x19) fuel).1).length ≤ 40 := by rw [List.length_append]; omega
  exact q_round (s := (i, undef, out)) (i + 1, v41, out ++ (runM dg p x19 (ofL ps x19) fuel).1) ⟨rfl, rfl, rfl, rfl, rfl, rfl, rfl, rfl, rfl, trivial⟩ ⟨H, by (try dsimp only); omega, hg2, ho2⟩ (by (try dsimp only); omega)
 refine c_exit (q_thenE (q_thenE (q_blockE (q_then (c_seq (c_reg (s_k 3 rfl (s_nil (q_then (c_ret (q_ret2 rfl rfl rfl ?_)))))))))))
 replace H := H.k1
 have e : eachM dg p ps fuel own = (out, 0) := hgo.symm.trans (go_end (by omega))
 replace H := H.h1 (A := osl kPair q out)
 exact fin ⟨_, by rw [e] <;> rfl, by rw [e] <;> rfl⟩ H
theorem foldEach_ok (vp : Value) (p : List Ins) (vps : Value) (ps : List Pair) (fuel : Int) (hpa : ∀ i ∈ p, In64 i.a) (hfu : In64 fuel) (hb : ps.length ≤ 1000000) :
    Cn Tryz.prog 10 [vp, vps, .int .i64 fuel] [] [rsl kIns vp p, rsl kPair vps ps, gl] (fun v Bs => ∃ u, v = .tuple #[u, .int .i64 (eachM dg p ps fuel false).2] ∧ Bs = [osl kPair u (eachM dg p ps fuel false).1]) := by
 intro w0 F0 H
 refine enter Tryz.func10 rfl rfl (Nat.le_of_ble_eq_true rfl) (c_seq (c_reg (s_k 2 rfl (s_nil (q_then (c_seq (c_reg (s_k 3 rfl (sc (each_ok vp p vps ps fuel false hpa hfu hb) H (lR 0 rfl (lR 1 rfl (lR 2 rfl l0))) rfl rfl (e_fn kn32 rfl rfl) ?_)))))))))
 rintro _ _ w ⟨u1, rfl, rfl⟩ H
 refine s_k 4 rfl (s_nil (q_then ?_))
 replace H : Hd _ _ _ [osl kPair u1 ((eachM dg p ps fuel false).1)] [rsl kIns vp p, rsl kPair vps ps, gl] := H
 exact c_ret (q_ret2 rfl rfl rfl (fin ⟨_, rfl, rfl⟩ H))
theorem foldCombine_ok (vp : Value) (p : List Ins) (vps : Value) (ps : List Pair) (fuel : Int) (hpa : ∀ i ∈ p, In64 i.a) (hfu : In64 fuel) (hb : ps.length ≤ 1000000) :
    Cn Tryz.prog 11 [vp, vps, .int .i64 fuel] [] [rsl kIns vp p, rsl kPair vps ps, gl] (fun v Bs => ∃ u, v = .tuple #[u, .int .i64 (combM dg p ps fuel).2] ∧ Bs = [osl kPair u (combM dg p ps fuel).1]) := by
 intro w0 F0 H
 obtain ⟨A1, c2, rfl, hc3, hm4, hp5⟩ := H.fR 0 rfl
 obtain ⟨A6, c7, rfl, hc8, hm9, hp10⟩ := H.fR 1 rfl
 refine enter Tryz.func11 rfl rfl (Nat.le_of_ble_eq_true rfl) (c_seq (c_reg (s_k 2 rfl (s_nil (q_then ?_)))))
 replace H : Hd _ _ _ [] [rsl kIns (.slice A1 p.length c2) p, rsl kPair (.slice A6 ps.length c7) ps, gl] := H
 refine c_seq (c_seq (c_reg (s_1 rfl (s_val rfl rfl (r_lenL rfl un22 rfl) (s_val rfl rfl (r_eq rfl rfl rfl) (s_nil (q_then ?_)))))))
 refine c_dec rfl (fun h11 => ?_) (fun h11 => ?_)
 ·refine c_seq (c_reg (s_1 rfl (sc (pairSort_ok (.slice A6 ps.length c7) ps (by first | omega | decide)) H (lR 1 rfl l0) rfl rfl (e_fn kn15 rfl rfl) ?_)))
  rintro v12 _ w rfl H
  replace H := H.h1 (A := osl kPair v12 (srt ps))
  refine s_k 2 rfl (s_nil (q_then (c_ret (q_thenR (q_ret2 rfl rfl rfl ?_)))))
  have e : combM dg p ps fuel = (srt ps, 0) := if_pos (by omega)
  exact fin ⟨_, by rw [e] <;> rfl, by rw [e] <;> rfl⟩ H
 refine c_skip (q_then (c_seq (c_reg (s_k 3 rfl (sc (each_ok (.slice A1 p.length c2) p (.slice A6 ps.length c7) ps fuel true hpa hfu hb) H (lR 0 rfl (lR 1 rfl (lR 2 rfl l0))) rfl rfl (e_fn kn32 rfl rfl) ?_)))))
 rintro _ _ w ⟨u13, rfl, rfl⟩ H
 replace H := H.h1 (A := osl kPair u13 ((eachM dg p ps fuel true).1))
 refine s_k 4 rfl (s_nil (q_then (c_ret (q_ret2 rfl rfl rfl ?_))))
 have e : combM dg p ps fuel = eachM dg p ps fuel true := if_neg (by omega)
 exact fin ⟨_, by rw [e] <;> rfl, by rw [e] <;> rfl⟩ H
theorem greatCode_ok (vxs : Value) (xs : List Ins) :
    Cn Tryz.prog 12 [vxs] [] [rsl kIns vxs xs] (fun v Bs => v = .bool (greatC xs) ∧ Bs = []) := by
 intro w0 F0 H
 obtain ⟨A1, c2, rfl, hc3, hm4, hp5⟩ := H.fR 0 rfl
 refine enter Tryz.func12 rfl rfl (Nat.le_of_ble_eq_true rfl) (c_seq (c_reg (s_1 rfl (s_nil (q_then ?_)))))
 replace H : Hd _ _ _ [] [rsl kIns (.slice A1 xs.length c2) xs] := H
 refine c_seq (c_seq (c_reg (s_1 rfl (s_nil (q_then (c_block (c_loop (σ := Nat) (fun k => [(0, .slice A1 xs.length c2), (3, .int .i64 ((k : Nat) : Int))]) (fun k w => (Hd w0 F0 w [] [rsl kIns (.slice A1 xs.length c2) xs]) ∧ (k ≤ xs.length) ∧ (∀ y ∈ xs.take k, y.s.size ≤ 100)) (fun k => xs.length - k) 0 ⟨rfl, rfl, trivial⟩ ⟨H, by omega, by simp⟩ ?_)))))))
 rintro k w ⟨H, hk, hn⟩
 refine c_seq (c_seq (c_reg (s_k 2 rfl (s_val rfl rfl (r_lenL rfl un22 rfl) (s_val rfl rfl (r_lt rfl rfl rfl) (s_1 rfl ?_))))))
 refine s_dec (d := 8) rfl (fun h6 => ?_) (fun h6 => ?_)
 ·refine s_1 rfl (s_val rfl rfl (r_lenL rfl un22 rfl) (s_val rfl rfl (r_le rfl rfl rfl) (s_1 rfl (s_nil (q_then ?_)))))
  refine c_dec rfl (fun h7 => ?_) (fun h7 => ?_)
  ·refine c_skip (q_then (c_seq (c_block (c_seq (c_reg (s_k 2 rfl ?_))))))
   obtain ⟨x8, hx9⟩ : ∃ z9, xs[k]? = some z9 := ⟨_, List.getElem?_eq_getElem (show k < xs.length by omega)⟩
   have th10 := H.thR 0 rfl hx9
   refine s_val rfl rfl (r_iaE (p := oOf A1 + k * 3) rfl sl22 rfl rfl (by omega) (by omega) th10 rfl) (s_val rfl rfl (r_fa rfl fo29_2 rfl) (s_val rfl rfl (r_ld rfl ty9 rfl (H.elR 0 rfl hx9 (q := 2) rfl rfl)) (s_val rfl rfl (r_lenS rfl un9 rfl) (s_val rfl rfl (r_gt rfl rfl rfl) (s_nil (q_then ?_))))))
   refine c_dec rfl (fun h11 => ?_) (fun h11 => ?_)
   ·exact c_seq (c_reg (s_1 rfl (s_nil (q_then (c_ret (q_blockR (q_thenR (q_thenR (q_blockR (q_thenR (q_ret1 rfl rfl (fin ⟨congrArg Value.bool (great_hit hx9 (by omega)), rfl⟩ H))))))))))))
   exact c_skip (q_blockN (q_then (c_reg (s_1 rfl (s_val rfl rfl (r_add (z := ((k + 1 : Nat) : Int)) rfl rfl rfl (by rw [w64 (by omega) (by omega)]; omega)) (s_1 rfl (s_nil (q_round (s := k) (k + 1) ⟨rfl, rfl, trivial⟩ ⟨H, by (try dsimp only); omega, take_small hn hx9 (by omega)⟩ (by (try dsimp only); omega)))))))))
  exact c_exit (q_thenE (q_thenE (q_blockE (q_then (c_seq (c_reg (s_1 rfl (s_val rfl rfl (r_lenL rfl un22 rfl) (s_val rfl rfl (r_gt rfl rfl rfl) (s_1 rfl (s_nil (q_then (c_ret (q_ret1 rfl rfl (fin ⟨congrArg Value.bool (great_end hn (by omega)), rfl⟩ H)))))))))))))))
 exact s_k 4 rfl (s_nil (q_then (c_no rfl (c_exit (q_thenE (q_thenE (q_blockE (q_then (c_seq (c_reg (s_1 rfl (s_val rfl rfl (r_lenL rfl un22 rfl) (s_val rfl rfl (r_gt rfl rfl rfl) (s_1 rfl (s_nil (q_then (c_ret (q_ret1 rfl rfl (fin ⟨congrArg Value.bool (great_end hn (by omega)), rfl⟩ H)))))))))))))))))))
/-! ### What is told is small -/
def TS (r : VM × Int) : Prop := ∀ q ∈ r.1.told, mayP q
theorem ite_s {c : Prop} [Decidable c] {x y : VM × Int} (hx : TS x) (hy : TS y) : TS (if c then x else y) := by
 split
 ·exact hx
 ·exact hy
theorem emit_small {told : List Pair} {k v : ByteArray} (h : ∀ q ∈ told, mayP q) (hv : v.size ≤ 64) : ∀ q ∈ (emitM told k v).2, mayP q := by
 unfold emitM
 split
 ·exact h
 ·split
  ·exact h
  ·intro q hq
   rcases List.mem_append.1 hq with h1 | h1
   ·exact h q h1
   ·rw [List.mem_singleton.1 h1]
    exact ⟨by (try dsimp only); omega, hv⟩
theorem act_small {D : Dig} {key : ByteArray} {m : VM} {i : Ins} {v : List Val} (h : ∀ q ∈ m.told, mayP q) (hv : (v.getD 1 val0).b.size ≤ 64) : TS (actM D key m i v) := by
 have hn : TS (nextM m) := by unfold TS; rw [nextM_told]; exact h
 have h20 : TS (if (v.getD 0 val0).n ≠ 0 then {m with pos := i.a} else m, 0) := by
  unfold TS
  dsimp only
  split <;> exact h
 exact ite_s h (ite_s h (ite_s h (ite_s h (ite_s h (ite_s h (ite_s hn (ite_s h (ite_s h (ite_s h (ite_s h (ite_s h (ite_s h (ite_s h (ite_s h (ite_s h (ite_s h20 (ite_s h (ite_s h (ite_s (emit_small h hv) h)))))))))))))))))))
theorem does_small {D : Dig} {key : ByteArray} {n : Int} {m : VM} {i : Ins} (hm : Inv n m) (h : ∀ q ∈ m.told, mayP q) : TS (doesM D key m i) := by
 by_cases hN : (needsM i.op m.stk).1 ≠ 0
 ·rw [does_fail hN]; exact h
 ·rw [does_act hN]
  obtain ⟨l1, l2, l3, l4⟩ := needs_len (Classical.not_not.1 hN)
  exact act_small h (ok_getD (fun x hx => hm.ok.1 x (l3 x hx)) 1).2
theorem badI_good {p : List Ins} (h : badI p < 0) : p.length ≤ 40 ∧ ∀ i ∈ p, goodI i p.length := by
 have hl : p.length ≤ 40 := by
  apply Classical.byContradiction
  intro hn
  unfold badI at h
  split at h
  ·omega
  ·rw [if_pos (by omega)] at h; omega
 exact ⟨hl, (badI_neg hl).1 h⟩
theorem play_small {D : Dig} (hD : ∀ s : ByteArray, In64 (D.num s)) {p : List Ins} {key : ByteArray} (hp : badI p < 0) (ha : ∀ i ∈ p, In64 i.a) : ∀ (k : Nat) {m : VM}, Inv p.length m → (∀ q ∈ m.told, mayP q) → TS (playM D p key k m)
 | 0, m, hm, h => by
  unfold playM
  split <;> exact h
 | k + 1, m, hm, h => by
  by_cases hc : m.pos < p.length ∧ m.halted = false
  ·obtain ⟨i, hi⟩ : ∃ i, p[m.pos.toNat]? = some i := ⟨_, List.getElem?_eq_getElem (by have := hm.pos; omega)⟩
   have him := at_mem hi
   have hm1 : Inv p.length {m with pos := m.pos + 1} := ⟨hm.ok, hm.len, hm.told, (by have h9 := hm.pos; constructor <;> (try dsimp only) <;> omega)⟩
   by_cases hw : (doesM D key {m with pos := m.pos + 1} i).2 ≠ 0
   ·rw [play_fail hc hi hw]
    exact does_small hm1 h
   ·rw [play_go hc hi hw]
    exact play_small hD hp ha k (inv_does hD hm1 ((badI_good hp).2 i him) (ha i him) (Classical.not_not.1 hw)) (does_small hm1 h)
  ·rw [play_stop _ hc]; exact h
theorem inv_start (n : Int) (hn : 0 ≤ n) (vals : List ByteArray) : Inv n (vm0 vals) := ⟨⟨(fun v hv => by cases hv), fun _ => okv0⟩, Nat.zero_le _, Nat.zero_le _, ⟨Int.le_refl 0, hn⟩⟩
theorem run_small {D : Dig} (hD : ∀ s : ByteArray, In64 (D.num s)) {p : List Ins} (ha : ∀ i ∈ p, In64 i.a) (key : ByteArray) (vals : List ByteArray) (fuel : Int) : ∀ q ∈ (runM D p key vals fuel).1, mayP q := by
 unfold runM
 split
 ·intro q hq; cases hq
 ·rename_i hn
  split
  ·intro q hq; cases hq
  ·exact play_small hD (by omega) ha _ (inv_start _ (by omega) _) (fun q hq => by cases hq)
theorem srt_small {xs : List Pair} (h : ∀ q ∈ xs, mayP q) : ∀ q ∈ srt xs, mayP q := fun q hq => h q ((srt_stab xs).symm.mem hq)
theorem eachGo_small {D : Dig} (hD : ∀ s : ByteArray, In64 (D.num s)) {p : List Ins} (ha : ∀ i ∈ p, In64 i.a) {ps : List Pair} {fuel : Int} {own : Bool} : ∀ (ks : List ByteArray) (out : List Pair), (∀ q ∈ out, mayP q) → ∀ q ∈ (eachGo D p ps fuel own ks out).1, mayP q
 | [], out, h => h
 | k :: ks, out, h => by
  unfold eachGo
  split
  ·intro q hq; cases hq
  ·split
   ·intro q hq; cases hq
   ·split
    ·intro q hq; cases hq
    ·refine eachGo_small hD ha ks _ fun q hq => ?_
     rcases List.mem_append.1 hq with h1 | h1
     ·exact h q h1
     ·exact run_small hD ha _ _ _ q h1
/-! ### In order -/
theorem comb_small {D : Dig} (hD : ∀ s : ByteArray, In64 (D.num s)) {p : List Ins} (ha : ∀ i ∈ p, In64 i.a) {ps : List Pair} {fuel : Int} (h : ∀ q ∈ ps, mayP q) : ∀ q ∈ (combM D p ps fuel).1, mayP q := by
 unfold combM
 split
 ·exact srt_small h
 ·exact eachGo_small hD ha _ _ fun q hq => by cases hq
theorem comb_len (D : Dig) (p : List Ins) (ps : List Pair) (fuel : Int) (h : ps.length ≤ 40) : (combM D p ps fuel).1.length ≤ 40 := by
 unfold combM
 split
 ·show (srt ps).length ≤ 40
  rw [srt_len]; exact h
 ·exact each_len D p ps fuel true _ _ (Nat.zero_le _)
/-! ### Jobs -/
structure Job where
 us : List (Value × List Pair)
 parts : Int
 map : List Ins
 comb : List Ins
 red : List Ins
 chunk : Int
 window : Int
 fuel : Int
 marks : List Int
def okSplit (x : List Pair) : Prop := x.length ≤ 8 ∧ mayL x
instance (x : List Pair) : Decidable (okSplit x) := inferInstanceAs (Decidable (_ ∧ _))
def marksUp (n : Int) : Int → List Int → Prop
 | _, [] => True
 | l, m :: ms => (l + 1 ≤ m ∧ m ≤ n) ∧ marksUp n m ms
instance marksUpD (n : Int) : ∀ (l : Int) (ms : List Int), Decidable (marksUp n l ms)
 | _, [] => isTrue trivial
 | _, m :: ms => haveI := marksUpD n m ms; inferInstanceAs (Decidable (_ ∧ _))
def mayJ (J : Job) : Prop :=
 (1 ≤ (J.us.length : Int) ∧ (J.us.length : Int) ≤ 6) ∧ (1 ≤ J.parts ∧ J.parts ≤ 4) ∧ J.marks.length ≤ 4 ∧ (∀ u ∈ J.us, okSplit u.2) ∧ marksUp J.us.length 0 J.marks ∧
 (0 < J.map.length ∧ badI J.map < 0) ∧ (0 < J.red.length ∧ badI J.red < 0) ∧ badI J.comb < 0 ∧ (1 ≤ J.chunk ∧ J.chunk ≤ 7) ∧ (1 ≤ J.window ∧ J.window ≤ 4) ∧ 1 ≤ J.fuel ∧ J.fuel ≤ 2000
instance mayJD (J : Job) : Decidable (mayJ J) := by unfold mayJ; infer_instance
structure OkJ (J : Job) : Prop where
 may : mayJ J
 map : ∀ i ∈ J.map, In64 i.a
 comb : ∀ i ∈ J.comb, In64 i.a
 red : ∀ i ∈ J.red, In64 i.a
theorem OkJ.us {J : Job} (h : OkJ J) : 1 ≤ J.us.length ∧ J.us.length ≤ 6 := by have := h.may.1; omega
theorem OkJ.parts {J : Job} (h : OkJ J) : 1 ≤ J.parts ∧ J.parts ≤ 4 := h.may.2.1
theorem OkJ.fuel {J : Job} (h : OkJ J) : 1 ≤ J.fuel ∧ J.fuel ≤ 2000 := h.may.2.2.2.2.2.2.2.2.2.2
theorem OkJ.split {J : Job} (h : OkJ J) : ∀ u ∈ J.us, okSplit u.2 := h.may.2.2.2.1
theorem OkJ.f64 {J : Job} (h : OkJ J) : In64 J.fuel := by have := h.fuel; unfold In64; omega
def mapGo (D : Dig) (p : List Ins) (fuel : Int) : List Pair → List Pair → List Pair × Int
 | [], out => (out, 0)
 | r :: rs, out =>
  if (runM D p r.key [r.val] fuel).2 ≠ 0 then ([], (runM D p r.key [r.val] fuel).2)
  else if 40 < out.length + (runM D p r.key [r.val] fuel).1.length then ([], 5)
  else mapGo D p fuel rs (out ++ (runM D p r.key [r.val] fuel).1)
section
variable {D : Dig} {p : List Ins} {fuel : Int} {rs : List Pair} {r : Pair} {out : List Pair} {i : Nat}
theorem map_end (h : rs.length ≤ i) : mapGo D p fuel (rs.drop i) out = (out, 0) := by
 rw [List.drop_eq_nil_of_le h]; rfl
theorem map_why (hr : rs[i]? = some r) (h : (runM D p r.key [r.val] fuel).2 ≠ 0) : mapGo D p fuel (rs.drop i) out = ([], (runM D p r.key [r.val] fuel).2) := by
 rw [drop_at hr]; exact if_pos h
theorem map_many (hr : rs[i]? = some r) (h : ¬ (runM D p r.key [r.val] fuel).2 ≠ 0) (h3 : 40 < out.length + (runM D p r.key [r.val] fuel).1.length) : mapGo D p fuel (rs.drop i) out = ([], 5) := by
 rw [drop_at hr]; unfold mapGo; rw [if_neg h, if_pos h3]
theorem map_on (hr : rs[i]? = some r) (h : ¬ (runM D p r.key [r.val] fuel).2 ≠ 0) (h3 : ¬ 40 < out.length + (runM D p r.key [r.val] fuel).1.length) :
  mapGo D p fuel (rs.drop (i + 1)) (out ++ (runM D p r.key [r.val] fuel).1) = mapGo D p fuel (rs.drop i) out := by
 rw [drop_at hr]; conv => rhs; unfold mapGo
 rw [if_neg h, if_neg h3]
theorem map_small (hD : ∀ s : ByteArray, In64 (D.num s)) (ha : ∀ i ∈ p, In64 i.a) : ∀ (rs out : List Pair), (∀ q ∈ out, mayP q) → ∀ q ∈ (mapGo D p fuel rs out).1, mayP q
 | [], out, h => h
 | r :: rs, out, h => by
  unfold mapGo
  split
  ·intro q hq; cases hq
  ·split
   ·intro q hq; cases hq
   ·refine map_small hD ha rs _ fun q hq => ?_
    rcases List.mem_append.1 hq with h1 | h1
    ·exact h q h1
    ·exact run_small hD ha _ _ _ q h1
theorem map_len : ∀ (rs out : List Pair), out.length ≤ 40 → (mapGo D p fuel rs out).1.length ≤ 40
 | [], out, h => h
 | r :: rs, out, h => by
  unfold mapGo
  split
  ·exact Nat.zero_le _
  ·split
   ·exact Nat.zero_le _
   ·exact map_len rs _ (by simp only [List.length_append]; omega)
end
def recs (J : Job) (s : Nat) : List Pair := match J.us[s]? with
 | some u => u.2
 | none => []
theorem recs_at {J : Job} {s : Nat} {u : Value × List Pair} (h : J.us[s]? = some u) : recs J s = u.2 := by unfold recs; rw [h]
def mapM (D : Dig) (J : Job) (s : Nat) : List Pair × Int := mapGo D J.map J.fuel (recs J s) []
def splitM (D : Dig) (J : Job) (s : Nat) : List Pair × Int := if (mapM D J s).2 ≠ 0 then ([], (mapM D J s).2) else combM D J.comb (mapM D J s).1 J.fuel
theorem mapM_len (D : Dig) (J : Job) (s : Nat) : (mapM D J s).1.length ≤ 40 := map_len _ _ (Nat.zero_le _)
theorem split_len (D : Dig) (J : Job) (s : Nat) : (splitM D J s).1.length ≤ 40 := by
 unfold splitM
 split
 ·exact Nat.zero_le _
 ·exact comb_len _ _ _ _ (mapM_len _ _ _)
theorem split_small {D : Dig} (hD : ∀ s : ByteArray, In64 (D.num s)) {J : Job} (h : OkJ J) (s : Nat) : ∀ q ∈ (splitM D J s).1, mayP q := by
 unfold splitM
 split
 ·intro q hq; cases hq
 ·exact comb_small hD h.comb (map_small hD h.map _ _ fun q hq => by cases hq)
def onlyM (D : Dig) (J : Job) (s : Nat) (p : Int) : List Pair := onlyP (splitM D J s).1 J.parts p
def allOf (D : Dig) (J : Job) (p : Int) : Nat → List Pair
 | 0 => []
 | k + 1 => allOf D J p k ++ onlyM D J k p
theorem onlyM_len (D : Dig) (J : Job) (s : Nat) (p : Int) : (onlyM D J s p).length ≤ 40 := Nat.le_trans (only_len _ _ _) (split_len _ _ _)
theorem allOf_len (D : Dig) (J : Job) (p : Int) : ∀ k, (allOf D J p k).length ≤ 40 * k
 | 0 => Nat.zero_le _
 | k + 1 => by
  have := allOf_len D J p k
  have := onlyM_len D J k p
  unfold allOf
  rw [List.length_append]
  omega
def partM (D : Dig) (J : Job) (p : Int) : List Pair × Int := eachM D J.red (srt (allOf D J p J.us.length)) J.fuel false
def partsGo (D : Dig) (J : Job) : Nat → Nat → List (List Pair) → List (List Pair) × Int × Int
 | 0, _, out => (out, 0, 0)
 | k + 1, p, out => if (partM D J p).2 ≠ 0 then ([], (partM D J p).2, p) else partsGo D J k (p + 1) (out ++ [(partM D J p).1])
def wholeGo (D : Dig) (J : Job) : Nat → Nat → List (List Pair) × Int × Int
 | 0, _ => partsGo D J J.parts.toNat 0 []
 | k + 1, s => if (splitM D J s).2 ≠ 0 then ([], (splitM D J s).2, s) else wholeGo D J k (s + 1)
def wholeM (D : Dig) (J : Job) : List (List Pair) × Int × Int := wholeGo D J J.us.length 0
section
variable {D : Dig} {J : Job} {s p : Nat} {out : List (List Pair)}
theorem whole_bad (hs : s < J.us.length) (h : (splitM D J s).2 ≠ 0) : wholeGo D J (J.us.length - s) s = ([], (splitM D J s).2, (s : Int)) := by
 rw [show J.us.length - s = (J.us.length - (s + 1)) + 1 by omega]; exact if_pos h
theorem whole_on (hs : s < J.us.length) (h : ¬ (splitM D J s).2 ≠ 0) : wholeGo D J (J.us.length - (s + 1)) (s + 1) = wholeGo D J (J.us.length - s) s := by
 conv => rhs; rw [show J.us.length - s = (J.us.length - (s + 1)) + 1 by omega]; unfold wholeGo; rw [if_neg h]
theorem whole_end (hs : J.us.length ≤ s) : wholeGo D J (J.us.length - s) s = partsGo D J J.parts.toNat 0 [] := by
 rw [show J.us.length - s = 0 by omega]; rfl
theorem parts_bad2 (hp : p < J.parts.toNat) (h : (partM D J p).2 ≠ 0) : partsGo D J (J.parts.toNat - p) p out = ([], (partM D J p).2, (p : Int)) := by
 rw [show J.parts.toNat - p = (J.parts.toNat - (p + 1)) + 1 by omega]; exact if_pos h
theorem parts_on (hp : p < J.parts.toNat) (h : ¬ (partM D J p).2 ≠ 0) : partsGo D J (J.parts.toNat - (p + 1)) (p + 1) (out ++ [(partM D J p).1]) = partsGo D J (J.parts.toNat - p) p out := by
 conv => rhs; rw [show J.parts.toNat - p = (J.parts.toNat - (p + 1)) + 1 by omega]; unfold partsGo; rw [if_neg h]
theorem parts_end (hp : J.parts.toNat ≤ p) : partsGo D J (J.parts.toNat - p) p out = (out, 0, 0) := by
 rw [show J.parts.toNat - p = 0 by omega]; rfl
end
theorem partsGo_spec (D : Dig) (J : Job) : ∀ (k p : Nat) (out : List (List Pair)), ((partsGo D J k p out).2.1 ≠ 0 ∧ (partsGo D J k p out).1 = []) ∨
  ((partsGo D J k p out).2 = (0, 0) ∧ (partsGo D J k p out).1 = out ++ (List.range' p k).map (fun q : Nat => (partM D J q).1) ∧ ∀ q, p ≤ q → q < p + k → (partM D J q).2 = 0)
 | 0, p, out => .inr ⟨rfl, (List.append_nil _).symm, fun q h1 h2 => by omega⟩
 | k + 1, p, out => by
  unfold partsGo
  by_cases h : (partM D J p).2 ≠ 0
  ·rw [if_pos h]; exact .inl ⟨h, rfl⟩
  ·rw [if_neg h]
   rcases partsGo_spec D J k (p + 1) (out ++ [(partM D J p).1]) with h1 | ⟨h1, h2, h3⟩
   ·exact .inl h1
   ·refine .inr ⟨h1, ?_, fun q hq1 hq2 => ?_⟩
    ·rw [h2, List.range'_succ, List.map_cons, List.append_assoc]; rfl
    ·rcases Nat.lt_or_ge p q with hlt | hge
     ·exact h3 q hlt (by omega)
     ·have : q = p := by omega
      subst this; exact Classical.not_not.1 h
theorem wholeGo_spec (D : Dig) (J : Job) : ∀ (k s : Nat), ((wholeGo D J k s).2.1 ≠ 0 ∧ (wholeGo D J k s).1 = []) ∨
  ((wholeGo D J k s).2 = (0, 0) ∧ (wholeGo D J k s).1 = (List.range J.parts.toNat).map (fun q : Nat => (partM D J q).1) ∧ (∀ q, s ≤ q → q < s + k → (splitM D J q).2 = 0) ∧ ∀ q, q < J.parts.toNat → (partM D J (q : Nat)).2 = 0)
 | 0, s => by
  show (((partsGo D J J.parts.toNat 0 []).2.1 ≠ 0 ∧ _) ∨ _)
  rcases partsGo_spec D J J.parts.toNat 0 [] with h1 | ⟨h1, h2, h3⟩
  ·exact .inl h1
  ·exact .inr ⟨h1, by rw [List.range_eq_range']; exact h2, fun q h1 h2 => by omega, fun q hq => h3 q (Nat.zero_le _) (by omega)⟩
 | k + 1, s => by
  unfold wholeGo
  by_cases h : (splitM D J s).2 ≠ 0
  ·rw [if_pos h]; exact .inl ⟨h, rfl⟩
  ·rw [if_neg h]
   rcases wholeGo_spec D J k (s + 1) with h1 | ⟨h1, h2, h3, h4⟩
   ·exact .inl h1
   ·refine .inr ⟨h1, h2, fun q hq1 hq2 => ?_, h4⟩
    rcases Nat.lt_or_ge s q with hlt | hge
    ·exact h3 q hlt (by omega)
    ·have : q = s := by omega
     subst this; exact Classical.not_not.1 h
theorem whole_spec (D : Dig) (J : Job) : ((wholeM D J).2.1 ≠ 0 ∧ (wholeM D J).1 = []) ∨
  ((wholeM D J).2 = (0, 0) ∧ (wholeM D J).1 = (List.range J.parts.toNat).map (fun q : Nat => (partM D J q).1) ∧ (∀ q, q < J.us.length → (splitM D J q).2 = 0) ∧ ∀ q, q < J.parts.toNat → (partM D J (q : Nat)).2 = 0) := by
 rcases wholeGo_spec D J J.us.length 0 with h | ⟨h1, h2, h3, h4⟩
 ·exact .inl h
 ·exact .inr ⟨h1, h2, fun q hq => h3 q (Nat.zero_le _) (by omega), h4⟩
def runJ (D : Dig) (J : Job) (s : Nat) (p : Int) : List Pair × Int := if (splitM D J s).2 ≠ 0 then ([], (splitM D J s).2) else (onlyM D J s p, 0)
def upto (n : Nat) : List Int := (List.range n).map fun (i : Nat) => (i : Int)
theorem upto_succ (n : Nat) : upto (n + 1) = upto n ++ [(n : Int)] := by
 unfold upto; rw [List.range_succ, List.map_append]; rfl
theorem upto_len (n : Nat) : (upto n).length = n := by simp [upto]
theorem upto_mem {n k : Nat} (h : k < n) : (k : Int) ∈ upto n := List.mem_map.2 ⟨k, List.mem_range.2 h, rfl⟩
theorem flat2_snoc (zs : List (Value × List Pair)) (v : Value) (x : List Pair) : flat2 (zs ++ [(v, x)]) = flat2 zs ++ x := by
 unfold flat2; rw [List.flatMap_append]; simp
def smallR : List Pair := [⟨⟨#[98]⟩, ⟨#[49]⟩⟩, ⟨⟨#[97]⟩, ⟨#[50]⟩⟩]
def wantR : List Pair := [⟨⟨#[97]⟩, ⟨#[50]⟩⟩, ⟨⟨#[98]⟩, ⟨#[49]⟩⟩]
def smallJ (u : Value) : Job := ⟨[(u, smallR)], 1, firstP, [], firstP, 1, 1, 9, []⟩
theorem small_ok (u : Value) : OkJ (smallJ u) := by
 refine ⟨?_, in64_first, fun i hi => (by cases hi), in64_first⟩
 refine ⟨(show 1 ≤ ((1 : Nat) : Int) ∧ ((1 : Nat) : Int) ≤ 6 by decide), (show (1 : Int) ≤ 1 ∧ (1 : Int) ≤ 4 by decide), (show 0 ≤ 4 by decide), ?_, trivial, (show 0 < firstP.length ∧ badI firstP < 0 by decide +kernel), (show 0 < firstP.length ∧ badI firstP < 0 by decide +kernel), (show badI [] < 0 by decide +kernel),
  (show (1 : Int) ≤ 1 ∧ (1 : Int) ≤ 7 by decide), (show (1 : Int) ≤ 1 ∧ (1 : Int) ≤ 4 by decide), (show (1 : Int) ≤ 9 ∧ (9 : Int) ≤ 2000 by decide)⟩
 intro x hx
 rw [List.mem_singleton.1 hx]
 show okSplit smallR
 decide
theorem small_map {D : Dig} (u : Value) : mapM D (smallJ u) 0 = (smallR, 0) := by kernel_rfl
theorem small_split {D : Dig} (u : Value) : splitM D (smallJ u) 0 = (wantR, 0) := by
 have h : srt smallR = wantR := by decide
 unfold splitM
 rw [small_map, if_neg (by simp)]
 show (srt smallR, (0 : Int)) = _
 rw [h]
theorem small_part {D : Dig} (u : Value) : partM D (smallJ u) ((0 : Nat) : Int) = (wantR, 0) := by
 have h : srt (onlyP wantR 1 ((0 : Nat) : Int)) = wantR := by decide +kernel
 have h1 : allOf D (smallJ u) ((0 : Nat) : Int) 1 = onlyP wantR 1 ((0 : Nat) : Int) := by
  show [] ++ onlyP (splitM D (smallJ u) 0).1 1 ((0 : Nat) : Int) = _
  rw [small_split]; rfl
 unfold partM
 show eachM D firstP (srt (allOf D (smallJ u) ((0 : Nat) : Int) 1)) 9 false = _
 rw [h1, h]
 unfold eachM
 rw [show keysL wantR = [⟨#[97]⟩, ⟨#[98]⟩] from (keys_ref _).trans (by decide)]
 kernel_rfl
theorem small_whole {D : Dig} (u : Value) : wholeM D (smallJ u) = ([wantR], 0, 0) := by
 show wholeGo D (smallJ u) 1 0 = _
 unfold wholeGo
 rw [small_split, if_neg (by simp)]
 show partsGo D (smallJ u) 1 0 [] = _
 unfold partsGo
 rw [small_part, if_neg (by simp)]
 rfl
def greatJ (J : Job) : Bool := decide (¬ (J.us.length ≤ 8 ∧ ∀ u ∈ J.us, greatP u.2 10 = false)) || decide (10 < (J.marks.length : Int)) || greatC J.map || greatC J.comb || greatC J.red
theorem greatJ_hit {J : Job} {k : Nat} {A : Value} {x : List Pair} (hx : J.us[k]? = some (A, x)) (h : greatP x 10 = true) : true = greatJ J := by
 unfold greatJ
 rw [decide_eq_true (show ¬ (J.us.length ≤ 8 ∧ ∀ u ∈ J.us, greatP u.2 10 = false) from fun g => by have := g.2 _ (at_mem hx); rw [h] at this; cases this)]
 simp
theorem greatJ_of {J : Job} (h : 8 < J.us.length ∨ 10 < J.marks.length ∨ greatC J.map = true ∨ greatC J.comb = true) : true = greatJ J := by
 unfold greatJ
 rcases h with h | h | h | h
 ·rw [decide_eq_true (show ¬ (J.us.length ≤ 8 ∧ ∀ u ∈ J.us, greatP u.2 10 = false) from fun g => by omega)]; simp
 ·rw [decide_eq_true (show 10 < (J.marks.length : Int) by omega)]; simp
 ·rw [h]; simp
 ·rw [h]; simp
theorem greatJ_fin {J : Job} {k : Nat} (hn : ∀ u ∈ J.us.take k, greatP u.2 10 = false) (h1 : J.us.length ≤ k) (h2 : J.us.length ≤ 8) (h3 : J.marks.length ≤ 10) (h4 : greatC J.map = false) (h5 : greatC J.comb = false) : greatC J.red = greatJ J := by
 unfold greatJ
 rw [List.take_of_length_le h1] at hn
 rw [decide_eq_false (show ¬ ¬ (J.us.length ≤ 8 ∧ ∀ u ∈ J.us, greatP u.2 10 = false) from fun g => g ⟨h2, hn⟩), decide_eq_false (show ¬ 10 < (J.marks.length : Int) by omega), h4, h5]
 simp
theorem runs_more {us vs : List (Value × List Pair)} {k : Nat} {A B : Value} {x y : List Pair} (hx : us[k]? = some (A, x)) (hy : vs[k]? = some (B, y)) (e : x = y) (h : (us.take k).map (·.2) = (vs.take k).map (·.2)) : (us.take (k + 1)).map (·.2) = (vs.take (k + 1)).map (·.2) := by
 rw [List.take_add_one, List.take_add_one, List.map_append, List.map_append, h, hx, hy, e]
 rfl
theorem runs_at {us vs : List (Value × List Pair)} {k : Nat} {A B : Value} {x y : List Pair} (hx : us[k]? = some (A, x)) (hy : vs[k]? = some (B, y)) (e : us.map (·.2) = vs.map (·.2)) : x = y := by
 have h := congrArg (·[k]?) e
 simp only [List.getElem?_map, hx, hy, Option.map_some] at h
 exact Option.some.inj h
theorem within_ok (n : Int) (l : Int) (m : Int) :
    Cn Tryz.prog 42 [.int .i64 n, .int .i64 l, .int .i64 m] [] [] (fun v Bs => v = .bool (decide (l ≤ n ∧ n ≤ m)) ∧ Bs = []) := by
 intro w0 F0 H
 refine enter Tryz.func42 rfl rfl (Nat.le_of_ble_eq_true rfl) (c_seq (c_reg (s_1 rfl (s_nil (q_then (c_seq (c_reg (s_k 2 rfl (s_val rfl rfl (r_ge rfl rfl rfl) (s_1 rfl ?_))))))))))
 refine s_dec (d := 10) rfl (fun h1 => ?_) (fun h1 => ?_)
 ·exact s_k 2 rfl (s_val rfl rfl (r_le rfl rfl rfl) (s_k 2 rfl (s_nil (q_then (c_ret (q_ret1 rfl rfl (fin ⟨congrArg Value.bool (decide_eq_decide.2 (by omega)), rfl⟩ H)))))))
 exact s_k 5 rfl (s_nil (q_then (c_ret (q_ret1 rfl rfl (fin ⟨congrArg Value.bool ((decide_eq_false (by omega)).symm), rfl⟩ H)))))
theorem jruns_ok (vxs : Value) (xs : List Ins) :
    Cn Tryz.prog 44 [vxs] [] [rsl kIns vxs xs] (fun v Bs => v = .bool (decide (0 < (xs).length ∧ badI xs < 0)) ∧ Bs = []) := by
 intro w0 F0 H
 obtain ⟨A1, c2, rfl, hc3, hm4, hp5⟩ := H.fR 0 rfl
 refine enter Tryz.func44 rfl rfl (Nat.le_of_ble_eq_true rfl) (c_seq (c_reg (s_1 rfl (s_nil (q_then ?_)))))
 replace H : Hd _ _ _ [] [rsl kIns (.slice A1 xs.length c2) xs] := H
 refine c_seq (c_reg (s_1 rfl (s_val rfl rfl (r_lenL rfl un22 rfl) (s_val rfl rfl (r_gt rfl rfl rfl) (s_1 rfl ?_)))))
 refine s_dec (d := 6) rfl (fun h6 => ?_) (fun h6 => ?_)
 ·refine s_1 rfl (sc (pMay_ok (.slice A1 xs.length c2) xs) H (lR 0 rfl l0) rfl rfl (e_fn kn45 rfl rfl) ?_)
  rintro _ _ w ⟨rfl, rfl⟩ H
  exact s_k 2 rfl (s_nil (q_then (c_ret (q_ret1 rfl rfl (fin ⟨congrArg Value.bool (decide_eq_decide.2 (by omega)), rfl⟩ H)))))
 exact s_k 4 rfl (s_nil (q_then (c_ret (q_ret1 rfl rfl (fin ⟨congrArg Value.bool ((decide_eq_false (by omega)).symm), rfl⟩ H)))))
theorem jmay_ok (vS vM vC vR vK : Value) (J : Job) :
    Cn Tryz.prog 22 [.agg #[vS, .int .i64 J.parts, vM, vC, vR, .int .i64 J.chunk, .int .i64 J.window, .int .i64 J.fuel, vK]] [] [rsl (kHd kPair) vS J.us, rsl kIns vM J.map, rsl kIns vC J.comb, rsl kIns vR J.red, rsl (kInt .i64) vK J.marks] (fun v Bs => v = .bool (decide (mayJ J)) ∧ Bs = []) := by
 intro w0 F0 H
 obtain ⟨A1, c2, rfl, hc3, hm4, hp5⟩ := H.fR 0 rfl
 obtain ⟨A6, c7, rfl, hc8, hm9, hp10⟩ := H.fR 1 rfl
 obtain ⟨A11, c12, rfl, hc13, hm14, hp15⟩ := H.fR 2 rfl
 obtain ⟨A16, c17, rfl, hc18, hm19, hp20⟩ := H.fR 3 rfl
 obtain ⟨A21, c22, rfl, hc23, hm24, hp25⟩ := H.fR 4 rfl
 refine enter Tryz.func22 rfl rfl (Nat.le_of_ble_eq_true rfl) (c_seq (c_reg (s_box rfl rfl rfl rfl H (fun b26 w H => (s_1 rfl (s_nil (q_then ?_)))))))
 replace H : Hd _ _ _ [blk b26 [.slice A1 J.us.length c2, .int .i64 J.parts, .slice A6 J.map.length c7, .slice A11 J.comb.length c12, .slice A16 J.red.length c17, .int .i64 J.chunk, .int .i64 J.window, .int .i64 J.fuel, .slice A21 J.marks.length c22] 43] [rsl (kHd kPair) (.slice A1 J.us.length c2) J.us, rsl kIns (.slice A6 J.map.length c7) J.map, rsl kIns (.slice A11 J.comb.length c12) J.comb, rsl kIns (.slice A16 J.red.length c17) J.red, rsl (kInt .i64) (.slice A21 J.marks.length c22) J.marks] := H
 refine c_seq (c_seq (c_reg (s_val rfl rfl (r_fa rfl fo43_0 rfl) (s_val rfl rfl (r_ld rfl ty31 rfl (H.cellI 0 rfl rfl)) (s_val rfl rfl (r_lenL rfl un31 rfl) (sc (within_ok ((J.us.length : Nat) : Int) 1 6) H l0 rfl rfl (e_fn kn42 rfl rfl) ?_))))))
 rintro _ _ w ⟨rfl, rfl⟩ H
 refine s_val rfl rfl (r_notP rfl rfl) (s_1 rfl ?_)
 refine s_dec (d := 13) rfl (fun h27 => ?_) (fun h27 => ?_)
 ·refine s_k 11 rfl (s_nil (q_then (c_yes rfl (c_seq (c_reg (s_1 rfl (s_nil (q_then (c_ret (q_thenR (q_ret1 rfl rfl ?_)))))))))))
  replace H := H.nil
  have e : ¬ mayJ J := by
    rintro ⟨g1, g2, g3, g4, g5, g6, g7, g8, g9, g10, g11⟩
    omega
  exact fin ⟨congrArg Value.bool (decide_eq_false e).symm, rfl⟩ H
 refine s_val rfl rfl (r_fa rfl fo43_1 rfl) (s_val rfl rfl (r_ld rfl ty3 rfl (H.cellI 0 rfl rfl)) (sc (within_ok J.parts 1 4) H l0 rfl rfl (e_fn kn42 rfl rfl) ?_))
 rintro _ _ w ⟨rfl, rfl⟩ H
 refine s_val rfl rfl (r_notP rfl rfl) (s_k 2 rfl ?_)
 refine s_dec (d := 19) rfl (fun h28 => ?_) (fun h28 => ?_)
 ·refine s_k 5 rfl (s_nil (q_then (c_yes rfl (c_seq (c_reg (s_1 rfl (s_nil (q_then (c_ret (q_thenR (q_ret1 rfl rfl ?_)))))))))))
  replace H := H.nil
  have e : ¬ mayJ J := by
    rintro ⟨g1, g2, g3, g4, g5, g6, g7, g8, g9, g10, g11⟩
    omega
  exact fin ⟨congrArg Value.bool (decide_eq_false e).symm, rfl⟩ H
 refine s_val rfl rfl (r_fa rfl fo43_8 rfl) (s_val rfl rfl (r_ld rfl ty41 rfl (H.cellI 0 rfl rfl)) (s_val rfl rfl (r_lenL rfl un41 rfl) (s_val rfl rfl (r_gt rfl rfl rfl) (s_1 rfl (s_nil (q_then ?_))))))
 refine c_dec rfl (fun h29 => ?_) (fun h29 => ?_)
 ·refine c_seq (c_reg (s_1 rfl (s_nil (q_then (c_ret (q_thenR (q_ret1 rfl rfl ?_)))))))
  replace H := H.nil
  have e : ¬ mayJ J := by
    rintro ⟨g1, g2, g3, g4, g5, g6, g7, g8, g9, g10, g11⟩
    omega
  exact fin ⟨congrArg Value.bool (decide_eq_false e).symm, rfl⟩ H
 refine c_skip (q_then (c_seq (c_seq (c_reg (s_val rfl rfl (r_fa rfl fo43_0 rfl) (s_val rfl rfl (r_ld rfl ty31 rfl (H.cellI 0 rfl rfl)) (s_val rfl rfl (r_lenL rfl un31 rfl) (s_1 rfl (s_nil (q_then (c_block (c_loop (σ := Nat) (fun k => [(1, .pointer (some ⟨b26, 0, none⟩)), (26, .slice A1 J.us.length c2), (27, .int .i64 ((J.us.length : Nat) : Int)), (28, .int .i64 ((k : Nat) : Int))]) (fun k w => (Hd w0 F0 w [blk b26 [.slice A1 J.us.length c2, .int .i64 J.parts, .slice A6 J.map.length c7, .slice A11 J.comb.length c12, .slice A16 J.red.length c17, .int .i64 J.chunk, .int .i64 J.window, .int .i64 J.fuel, .slice A21 J.marks.length c22] 43] [rsl (kHd kPair) (.slice A1 J.us.length c2) J.us, rsl kIns (.slice A6 J.map.length c7) J.map, rsl kIns (.slice A11 J.comb.length c12) J.comb, rsl kIns (.slice A16 J.red.length c17) J.red, rsl (kInt .i64) (.slice A21 J.marks.length c22) J.marks]) ∧ (k ≤ J.us.length) ∧ (∀ u ∈ J.us.take k, okSplit u.2)) (fun k => J.us.length - k) 0 ⟨rfl, rfl, rfl, rfl, trivial⟩ ⟨H, by omega, by simp⟩ ?_))))))))))))
 rintro k w ⟨H, hk, hn⟩
 refine c_seq (c_reg (s_val rfl rfl (r_lt rfl rfl rfl) (s_nil (q_then (c_seq ?_)))))
 refine c_dec rfl (fun h30 => ?_) (fun h30 => ?_)
 ·refine c_skip (q_then (c_seq (c_block (c_seq (c_reg ?_)))))
  obtain ⟨⟨u33, x31⟩, hx32⟩ : ∃ z9, J.us[k]? = some z9 := ⟨_, List.getElem?_eq_getElem (show k < J.us.length by omega)⟩
  obtain ⟨A34, c35, rfl, hc36, hm37⟩ := H.nestR 0 rfl hx32
  have th38 := H.thRd 0 rfl hx32
  refine s_val rfl rfl (r_iaE (p := oOf A1 + k * 1) rfl sl31 rfl rfl (by omega) (by omega) th38 rfl) (s_val rfl rfl (r_ld rfl ty23 rfl (H.elRd 0 rfl hx32 rfl)) (s_1 rfl (s_nil (q_then (c_seq (c_reg (s_1 rfl (s_val rfl rfl (r_lenL rfl un23 rfl) (s_val rfl rfl (r_gt rfl rfl rfl) (s_1 rfl ?_))))))))))
  refine s_dec (d := 35) rfl (fun h39 => ?_) (fun h39 => ?_)
  ·refine s_k 4 rfl (s_nil (q_then (c_yes rfl (c_seq (c_reg (s_1 rfl (s_nil (q_then (c_ret (q_blockR (q_thenR (q_thenR (q_blockR (q_thenR (q_ret1 rfl rfl ?_)))))))))))))))
   replace H := H.nil
   have e : ¬ mayJ J := by
     rintro ⟨g1, g2, g3, g4, g5, g6, g7, g8, g9, g10, g11⟩
     have g := g4 _ (at_mem hx32); have ga : x31.length ≤ 8 := g.1; first | exact (h39 g.2).elim | omega
   exact fin ⟨congrArg Value.bool (decide_eq_false e).symm, rfl⟩ H
  refine s_1 rfl (sc (pMayL_ok (.slice A34 x31.length c35) x31) H (lX (fun F hA hR => nest_rsl (hR _ (List.mem_of_getElem? (i := 0) rfl)) hx32) l0) rfl rfl (e_fn kn43 rfl rfl) ?_)
  rintro _ _ w ⟨rfl, rfl⟩ H
  refine s_val rfl rfl (r_notP rfl rfl) (s_1 rfl (s_nil (q_then ?_)))
  refine c_dec rfl (fun h40 => ?_) (fun h40 => ?_)
  ·refine c_seq (c_reg (s_1 rfl (s_nil (q_then (c_ret (q_blockR (q_thenR (q_thenR (q_blockR (q_thenR (q_ret1 rfl rfl ?_)))))))))))
   replace H := H.nil
   have e : ¬ mayJ J := by
     rintro ⟨g1, g2, g3, g4, g5, g6, g7, g8, g9, g10, g11⟩
     have g := g4 _ (at_mem hx32); have ga : x31.length ≤ 8 := g.1; first | exact (h40 g.2).elim | omega
   exact fin ⟨congrArg Value.bool (decide_eq_false e).symm, rfl⟩ H
  refine c_skip (q_blockN (q_then (c_reg (s_val rfl rfl (r_add (z := ((k + 1 : Nat) : Int)) rfl rfl rfl (by rw [w64 (by omega) (by omega)]; omega)) (s_1 rfl (s_nil ?_))))))
  have hn2 := take_prop (Q := fun u : Value × List Pair => okSplit u.2) hn hx32 ⟨(show x31.length ≤ 8 by omega), Classical.not_not.1 h40⟩
  exact q_round (s := k) (k + 1) ⟨rfl, rfl, rfl, rfl, trivial⟩ ⟨H, by (try dsimp only); omega, hn2⟩ (by (try dsimp only); omega)
 refine c_exit (q_thenE (q_thenE (q_blockE (q_then (c_seq (c_reg (s_1 rfl (s_nil (q_then (c_seq (c_seq (c_reg (s_val rfl rfl (r_fa rfl fo43_8 rfl) (s_val rfl rfl (r_ld rfl ty41 rfl (H.cellI 0 rfl rfl)) (s_val rfl rfl (r_lenL rfl un41 rfl) (s_1 rfl (s_nil (q_then (c_block ?_)))))))))))))))))))
 have hal : ∀ u ∈ J.us, okSplit u.2 := by rw [← take_all (xs := J.us) (k := k) (by omega)]; exact hn
 refine c_loop (σ := Nat × Int) (fun (j, last) => [(1, .pointer (some ⟨b26, 0, none⟩)), (5, .int .i64 last), (42, .slice A21 J.marks.length c22), (43, .int .i64 ((J.marks.length : Nat) : Int)), (44, .int .i64 ((j : Nat) : Int))]) (fun (j, last) w => (Hd w0 F0 w [blk b26 [.slice A1 J.us.length c2, .int .i64 J.parts, .slice A6 J.map.length c7, .slice A11 J.comb.length c12, .slice A16 J.red.length c17, .int .i64 J.chunk, .int .i64 J.window, .int .i64 J.fuel, .slice A21 J.marks.length c22] 43] [rsl (kHd kPair) (.slice A1 J.us.length c2) J.us, rsl kIns (.slice A6 J.map.length c7) J.map, rsl kIns (.slice A11 J.comb.length c12) J.comb, rsl kIns (.slice A16 J.red.length c17) J.red, rsl (kInt .i64) (.slice A21 J.marks.length c22) J.marks]) ∧ (j ≤ J.marks.length ∧ 0 ≤ last ∧ last ≤ 6) ∧ (marksUp J.us.length last (J.marks.drop j) ↔ marksUp J.us.length 0 J.marks)) (fun (j, last) => J.marks.length - j) (0, 0) ⟨rfl, rfl, rfl, rfl, rfl, trivial⟩ ⟨H, by (try dsimp only); omega, Iff.rfl⟩ ?_
 rintro ⟨j, last⟩ w ⟨H, hj, hm⟩
 refine c_seq (c_reg (s_val rfl rfl (r_lt rfl rfl rfl) (s_nil (q_then (c_seq ?_)))))
 refine c_dec rfl (fun h41 => ?_) (fun h41 => ?_)
 ·refine c_skip (q_then (c_seq (c_block (c_seq (c_reg ?_)))))
  obtain ⟨x42, hx43⟩ : ∃ z9, J.marks[j]? = some z9 := ⟨_, List.getElem?_eq_getElem (show j < J.marks.length by omega)⟩
  have th44 := H.thR 4 rfl hx43
  refine s_val rfl rfl (r_iaE (p := oOf A21 + j * 1) rfl sl41 rfl rfl (by omega) (by omega) th44 rfl) (s_val rfl rfl (r_ld rfl ty3 rfl (H.elR 4 rfl hx43 (q := 0) rfl rfl)) (s_1 rfl (s_nil (q_then (c_seq (c_seq (c_reg (s_k 2 rfl (s_val rfl rfl (r_add (z := last + 1) rfl rfl rfl (w64 (by omega) (by omega))) (s_val rfl rfl (r_fa rfl fo43_0 rfl) (s_val rfl rfl (r_ld rfl ty31 rfl (H.cellI 0 rfl rfl)) (s_val rfl rfl (r_lenL rfl un31 rfl) (sc (within_ok x42 (last + 1) ((J.us.length : Nat) : Int)) H l0 rfl rfl (e_fn kn42 rfl rfl) ?_)))))))))))))
  rintro _ _ w ⟨rfl, rfl⟩ H
  refine s_val rfl rfl (r_notP rfl rfl) (s_nil (q_then ?_))
  refine c_dec rfl (fun h45 => ?_) (fun h45 => ?_)
  ·refine c_seq (c_reg (s_1 rfl (s_nil (q_then (c_ret (q_thenR (q_blockR (q_thenR (q_thenR (q_blockR (q_thenR (q_ret1 rfl rfl ?_))))))))))))
   replace H := H.nil
   have e : ¬ mayJ J := by
     rintro ⟨g1, g2, g3, g4, g5, g6, g7, g8, g9, g10, g11⟩
     have g := hm.2 g5; rw [drop_at hx43] at g; have g0 := g.1; omega
   exact fin ⟨congrArg Value.bool (decide_eq_false e).symm, rfl⟩ H
  refine c_skip (q_then (c_reg (s_k 2 rfl (s_nil (q_blockN (q_then (c_reg (s_val rfl rfl (r_add (z := ((j + 1 : Nat) : Int)) rfl rfl rfl (by rw [w64 (by omega) (by omega)]; omega)) (s_1 rfl (s_nil ?_))))))))))
  have hm2 : marksUp J.us.length x42 (J.marks.drop (j + 1)) ↔ marksUp J.us.length 0 J.marks := by rw [← hm, drop_at hx43]; exact ⟨fun g => ⟨by omega, g⟩, fun g => g.2⟩
  exact q_round (s := (j, last)) (j + 1, x42) ⟨rfl, rfl, rfl, rfl, rfl, trivial⟩ ⟨H, by (try dsimp only); omega, hm2⟩ (by (try dsimp only); omega)
 refine c_exit (q_thenE (q_thenE (q_blockE (q_then (c_seq (c_reg (s_val rfl rfl (r_fa rfl fo43_2 rfl) (s_val rfl rfl (r_ld rfl ty22 rfl (H.cellI 0 rfl rfl)) (sc (jruns_ok (.slice A6 J.map.length c7) J.map) H (lR 1 rfl l0) rfl rfl (e_fn kn44 rfl rfl) ?_)))))))))
 rintro _ _ w ⟨rfl, rfl⟩ H
 refine s_1 rfl ?_
 refine s_dec (d := 61) rfl (fun h46 => ?_) (fun h46 => ?_)
 ·refine s_val rfl rfl (r_fa rfl fo43_4 rfl) (s_val rfl rfl (r_ld rfl ty22 rfl (H.cellI 0 rfl rfl)) (sc (jruns_ok (.slice A16 J.red.length c17) J.red) H (lR 3 rfl l0) rfl rfl (e_fn kn44 rfl rfl) ?_))
  rintro _ _ w ⟨rfl, rfl⟩ H
  refine s_k 2 rfl ?_
  refine s_dec (d := 66) rfl (fun h47 => ?_) (fun h47 => ?_)
  ·refine s_val rfl rfl (r_fa rfl fo43_3 rfl) (s_val rfl rfl (r_ld rfl ty22 rfl (H.cellI 0 rfl rfl)) (sc (pMay_ok (.slice A11 J.comb.length c12) J.comb) H (lR 2 rfl l0) rfl rfl (e_fn kn45 rfl rfl) ?_))
   rintro _ _ w ⟨rfl, rfl⟩ H
   refine s_k 2 rfl ?_
   refine s_dec (d := 71) rfl (fun h48 => ?_) (fun h48 => ?_)
   ·refine s_val rfl rfl (r_fa rfl fo43_5 rfl) (s_val rfl rfl (r_ld rfl ty3 rfl (H.cellI 0 rfl rfl)) (sc (within_ok J.chunk 1 7) H l0 rfl rfl (e_fn kn42 rfl rfl) ?_))
    rintro _ _ w ⟨rfl, rfl⟩ H
    refine s_k 2 rfl ?_
    refine s_dec (d := 76) rfl (fun h49 => ?_) (fun h49 => ?_)
    ·refine s_val rfl rfl (r_fa rfl fo43_6 rfl) (s_val rfl rfl (r_ld rfl ty3 rfl (H.cellI 0 rfl rfl)) (sc (within_ok J.window 1 4) H l0 rfl rfl (e_fn kn42 rfl rfl) ?_))
     rintro _ _ w ⟨rfl, rfl⟩ H
     refine s_k 2 rfl ?_
     refine s_dec (d := 81) rfl (fun h50 => ?_) (fun h50 => ?_)
     ·refine s_val rfl rfl (r_fa rfl fo43_7 rfl) (s_val rfl rfl (r_ld rfl ty3 rfl (H.cellI 0 rfl rfl)) (sc (within_ok J.fuel 1 2000) H l0 rfl rfl (e_fn kn42 rfl rfl) ?_))
      rintro _ _ w ⟨rfl, rfl⟩ H
      refine s_k 2 rfl (s_nil (q_then (c_ret (q_ret1 rfl rfl ?_))))
      replace H := H.nil
      have hmk : marksUp J.us.length 0 J.marks := hm.1 (by rw [List.drop_eq_nil_of_le (by omega)]; trivial)
      have e : (1 ≤ J.fuel ∧ J.fuel ≤ 2000) ↔ mayJ J := ⟨fun g => ⟨by omega, by omega, by omega, hal, hmk, by omega, by omega, by omega, by omega, by omega, by omega⟩, fun g => by have g6 := g.2.2.2.2.2; omega⟩
      exact fin ⟨congrArg Value.bool (decide_eq_decide.2 e), rfl⟩ H
     refine s_k 5 rfl (s_nil (q_then (c_ret (q_ret1 rfl rfl ?_))))
     replace H := H.nil
     have e : ¬ mayJ J := by
       rintro ⟨g1, g2, g3, g4, g5, g6, g7, g8, g9, g10, g11⟩
       omega
     exact fin ⟨congrArg Value.bool (decide_eq_false e).symm, rfl⟩ H
    refine s_k 10 rfl (s_nil (q_then (c_ret (q_ret1 rfl rfl ?_))))
    replace H := H.nil
    have e : ¬ mayJ J := by
      rintro ⟨g1, g2, g3, g4, g5, g6, g7, g8, g9, g10, g11⟩
      omega
    exact fin ⟨congrArg Value.bool (decide_eq_false e).symm, rfl⟩ H
   refine s_k 12 rfl (s_k 3 rfl (s_nil (q_then (c_ret (q_ret1 rfl rfl ?_)))))
   replace H := H.nil
   have e : ¬ mayJ J := by
     rintro ⟨g1, g2, g3, g4, g5, g6, g7, g8, g9, g10, g11⟩
     omega
   exact fin ⟨congrArg Value.bool (decide_eq_false e).symm, rfl⟩ H
  refine s_k 12 rfl (s_k 8 rfl (s_nil (q_then (c_ret (q_ret1 rfl rfl ?_)))))
  replace H := H.nil
  have e : ¬ mayJ J := by
    rintro ⟨g1, g2, g3, g4, g5, g6, g7, g8, g9, g10, g11⟩
    omega
  exact fin ⟨congrArg Value.bool (decide_eq_false e).symm, rfl⟩ H
 refine s_k 12 rfl (s_k 12 rfl (s_1 rfl (s_nil (q_then (c_ret (q_ret1 rfl rfl ?_))))))
 replace H := H.nil
 have e : ¬ mayJ J := by
   rintro ⟨g1, g2, g3, g4, g5, g6, g7, g8, g9, g10, g11⟩
   omega
 exact fin ⟨congrArg Value.bool (decide_eq_false e).symm, rfl⟩ H
theorem greatJob_ok (vS vM vC vR vK : Value) (J : Job) :
    Cn Tryz.prog 21 [.agg #[vS, .int .i64 J.parts, vM, vC, vR, .int .i64 J.chunk, .int .i64 J.window, .int .i64 J.fuel, vK]] [] [rsl (kHd kPair) vS J.us, rsl kIns vM J.map, rsl kIns vC J.comb, rsl kIns vR J.red, rsl (kInt .i64) vK J.marks] (fun v Bs => v = .bool (greatJ J) ∧ Bs = []) := by
 intro w0 F0 H
 obtain ⟨A1, c2, rfl, hc3, hm4, hp5⟩ := H.fR 0 rfl
 obtain ⟨A6, c7, rfl, hc8, hm9, hp10⟩ := H.fR 1 rfl
 obtain ⟨A11, c12, rfl, hc13, hm14, hp15⟩ := H.fR 2 rfl
 obtain ⟨A16, c17, rfl, hc18, hm19, hp20⟩ := H.fR 3 rfl
 obtain ⟨A21, c22, rfl, hc23, hm24, hp25⟩ := H.fR 4 rfl
 refine enter Tryz.func21 rfl rfl (Nat.le_of_ble_eq_true rfl) (c_seq (c_reg (s_box rfl rfl rfl rfl H (fun b26 w H => (s_1 rfl (s_nil (q_then ?_)))))))
 replace H : Hd _ _ _ [blk b26 [.slice A1 J.us.length c2, .int .i64 J.parts, .slice A6 J.map.length c7, .slice A11 J.comb.length c12, .slice A16 J.red.length c17, .int .i64 J.chunk, .int .i64 J.window, .int .i64 J.fuel, .slice A21 J.marks.length c22] 43] [rsl (kHd kPair) (.slice A1 J.us.length c2) J.us, rsl kIns (.slice A6 J.map.length c7) J.map, rsl kIns (.slice A11 J.comb.length c12) J.comb, rsl kIns (.slice A16 J.red.length c17) J.red, rsl (kInt .i64) (.slice A21 J.marks.length c22) J.marks] := H
 refine c_seq (c_seq (c_reg (s_1 rfl (s_nil (q_then (c_block (c_loop (σ := Nat) (fun k => [(1, .pointer (some ⟨b26, 0, none⟩)), (3, .int .i64 ((k : Nat) : Int))]) (fun k w => (Hd w0 F0 w [blk b26 [.slice A1 J.us.length c2, .int .i64 J.parts, .slice A6 J.map.length c7, .slice A11 J.comb.length c12, .slice A16 J.red.length c17, .int .i64 J.chunk, .int .i64 J.window, .int .i64 J.fuel, .slice A21 J.marks.length c22] 43] [rsl (kHd kPair) (.slice A1 J.us.length c2) J.us, rsl kIns (.slice A6 J.map.length c7) J.map, rsl kIns (.slice A11 J.comb.length c12) J.comb, rsl kIns (.slice A16 J.red.length c17) J.red, rsl (kInt .i64) (.slice A21 J.marks.length c22) J.marks]) ∧ (k ≤ J.us.length) ∧ (∀ u ∈ J.us.take k, greatP u.2 10 = false)) (fun k => J.us.length - k) 0 ⟨rfl, rfl, trivial⟩ ⟨H, by omega, by simp⟩ ?_)))))))
 rintro k w ⟨H, hk, hn⟩
 refine c_seq (c_seq (c_reg (s_1 rfl (s_val rfl rfl (r_fa rfl fo43_0 rfl) (s_val rfl rfl (r_ld rfl ty31 rfl (H.cellI 0 rfl rfl)) (s_val rfl rfl (r_lenL rfl un31 rfl) (s_val rfl rfl (r_lt rfl rfl rfl) (s_1 rfl ?_))))))))
 refine s_dec (d := 9) rfl (fun h27 => ?_) (fun h27 => ?_)
 ·refine s_val rfl rfl (r_fa rfl fo43_0 rfl) (s_val rfl rfl (r_ld rfl ty31 rfl (H.cellI 0 rfl rfl)) (s_val rfl rfl (r_lenL rfl un31 rfl) (s_val rfl rfl (r_le rfl rfl rfl) (s_1 rfl (s_nil (q_then ?_))))))
  refine c_dec rfl (fun h28 => ?_) (fun h28 => ?_)
  ·refine c_skip (q_then (c_seq (c_block (c_seq (c_reg (s_val rfl rfl (r_fa rfl fo43_0 rfl) (s_val rfl rfl (r_ld rfl ty31 rfl (H.cellI 0 rfl rfl)) (s_1 rfl ?_))))))))
   obtain ⟨⟨u31, x29⟩, hx30⟩ : ∃ z9, J.us[k]? = some z9 := ⟨_, List.getElem?_eq_getElem (show k < J.us.length by omega)⟩
   obtain ⟨A32, c33, rfl, hc34, hm35⟩ := H.nestR 0 rfl hx30
   have th36 := H.thRd 0 rfl hx30
   refine s_val rfl rfl (r_iaE (p := oOf A1 + k * 1) rfl sl31 rfl rfl (by omega) (by omega) th36 rfl) (s_val rfl rfl (r_ld rfl ty23 rfl (H.elRd 0 rfl hx30 rfl)) (sc (greatPairs_ok (.slice A32 x29.length c33) x29 10) H (lX (fun F hA hR => nest_rsl (hR _ (List.mem_of_getElem? (i := 0) rfl)) hx30) l0) rfl rfl (e_fn kn14 rfl rfl) ?_))
   rintro _ _ w ⟨rfl, rfl⟩ H
   refine s_nil (q_then ?_)
   refine c_cond (b := greatP x29 10) rfl (fun h37 => ?_) (fun h37 => ?_)
   ·refine c_seq (c_reg (s_1 rfl (s_nil (q_then (c_ret (q_blockR (q_thenR (q_thenR (q_blockR (q_thenR (q_ret1 rfl rfl ?_)))))))))))
    replace H := H.nil
    exact fin ⟨congrArg Value.bool (greatJ_hit hx30 h37), rfl⟩ H
   refine c_skip (q_blockN (q_then (c_reg (s_1 rfl (s_val rfl rfl (r_add (z := ((k + 1 : Nat) : Int)) rfl rfl rfl (by rw [w64 (by omega) (by omega)]; omega)) (s_1 rfl (s_nil ?_)))))))
   have hn2 := take_prop (Q := fun u : Value × List Pair => greatP u.2 10 = false) hn hx30 (show greatP x29 10 = false by simpa using h37)
   exact q_round (s := k) (k + 1) ⟨rfl, rfl, trivial⟩ ⟨H, by (try dsimp only); omega, hn2⟩ (by (try dsimp only); omega)
  refine c_exit (q_thenE (q_thenE (q_blockE (q_then (c_seq (c_reg (s_val rfl rfl (r_fa rfl fo43_0 rfl) (s_val rfl rfl (r_ld rfl ty31 rfl (H.cellI 0 rfl rfl)) (s_val rfl rfl (r_lenL rfl un31 rfl) (s_val rfl rfl (r_gt rfl rfl rfl) (s_1 rfl ?_)))))))))))
  refine s_dec (d := 27) rfl (fun h38 => ?_) (fun h38 => ?_)
  ·refine s_k 12 rfl (s_k 9 rfl (s_nil (q_then (c_ret (q_ret1 rfl rfl ?_)))))
   replace H := H.nil
   exact fin ⟨congrArg Value.bool (greatJ_of (by first | exact .inl (by omega) | exact .inr (.inl (by omega)) | exact .inr (.inr (.inl h38)) | exact .inr (.inr (.inr h38)))), rfl⟩ H
  refine s_val rfl rfl (r_fa rfl fo43_8 rfl) (s_val rfl rfl (r_ld rfl ty41 rfl (H.cellI 0 rfl rfl)) (s_val rfl rfl (r_lenL rfl un41 rfl) (s_val rfl rfl (r_gt rfl rfl rfl) (s_k 2 rfl ?_))))
  refine s_dec (d := 33) rfl (fun h39 => ?_) (fun h39 => ?_)
  ·refine s_k 12 rfl (s_k 3 rfl (s_nil (q_then (c_ret (q_ret1 rfl rfl ?_)))))
   replace H := H.nil
   exact fin ⟨congrArg Value.bool (greatJ_of (by first | exact .inl (by omega) | exact .inr (.inl (by omega)) | exact .inr (.inr (.inl h39)) | exact .inr (.inr (.inr h39)))), rfl⟩ H
  refine s_val rfl rfl (r_fa rfl fo43_2 rfl) (s_val rfl rfl (r_ld rfl ty22 rfl (H.cellI 0 rfl rfl)) (sc (greatCode_ok (.slice A6 J.map.length c7) J.map) H (lR 1 rfl l0) rfl rfl (e_fn kn12 rfl rfl) ?_))
  rintro _ _ w ⟨rfl, rfl⟩ H
  refine s_k 2 rfl ?_
  refine s_boo (d := 38) (b := greatC J.map) rfl (fun h40 => ?_) (fun h40 => ?_)
  ·refine s_k 10 rfl (s_nil (q_then (c_ret (q_ret1 rfl rfl ?_))))
   replace H := H.nil
   exact fin ⟨congrArg Value.bool (greatJ_of (by first | exact .inl (by omega) | exact .inr (.inl (by omega)) | exact .inr (.inr (.inl h40)) | exact .inr (.inr (.inr h40)))), rfl⟩ H
  refine s_val rfl rfl (r_fa rfl fo43_3 rfl) (s_val rfl rfl (r_ld rfl ty22 rfl (H.cellI 0 rfl rfl)) (sc (greatCode_ok (.slice A11 J.comb.length c12) J.comb) H (lR 2 rfl l0) rfl rfl (e_fn kn12 rfl rfl) ?_))
  rintro _ _ w ⟨rfl, rfl⟩ H
  refine s_k 2 rfl ?_
  refine s_boo (d := 43) (b := greatC J.comb) rfl (fun h41 => ?_) (fun h41 => ?_)
  ·refine s_k 5 rfl (s_nil (q_then (c_ret (q_ret1 rfl rfl ?_))))
   replace H := H.nil
   exact fin ⟨congrArg Value.bool (greatJ_of (by first | exact .inl (by omega) | exact .inr (.inl (by omega)) | exact .inr (.inr (.inl h41)) | exact .inr (.inr (.inr h41)))), rfl⟩ H
  refine s_val rfl rfl (r_fa rfl fo43_4 rfl) (s_val rfl rfl (r_ld rfl ty22 rfl (H.cellI 0 rfl rfl)) (sc (greatCode_ok (.slice A16 J.red.length c17) J.red) H (lR 3 rfl l0) rfl rfl (e_fn kn12 rfl rfl) ?_))
  rintro _ _ w ⟨rfl, rfl⟩ H
  refine s_k 2 rfl (s_nil (q_then (c_ret (q_ret1 rfl rfl ?_))))
  replace H := H.nil
  exact fin ⟨congrArg Value.bool (greatJ_fin hn (by omega) (by omega) (by omega) (by simpa using h40) (by simpa using h41)), rfl⟩ H
 refine s_k 5 rfl (s_nil (q_then (c_no rfl (c_exit (q_thenE (q_thenE (q_blockE (q_then (c_seq (c_reg (s_val rfl rfl (r_fa rfl fo43_0 rfl) (s_val rfl rfl (r_ld rfl ty31 rfl (H.cellI 0 rfl rfl)) (s_val rfl rfl (r_lenL rfl un31 rfl) (s_val rfl rfl (r_gt rfl rfl rfl) (s_1 rfl ?_)))))))))))))))
 refine s_dec (d := 27) rfl (fun h42 => ?_) (fun h42 => ?_)
 ·refine s_k 12 rfl (s_k 9 rfl (s_nil (q_then (c_ret (q_ret1 rfl rfl ?_)))))
  replace H := H.nil
  exact fin ⟨congrArg Value.bool (greatJ_of (by first | exact .inl (by omega) | exact .inr (.inl (by omega)) | exact .inr (.inr (.inl h42)) | exact .inr (.inr (.inr h42)))), rfl⟩ H
 refine s_val rfl rfl (r_fa rfl fo43_8 rfl) (s_val rfl rfl (r_ld rfl ty41 rfl (H.cellI 0 rfl rfl)) (s_val rfl rfl (r_lenL rfl un41 rfl) (s_val rfl rfl (r_gt rfl rfl rfl) (s_k 2 rfl ?_))))
 refine s_dec (d := 33) rfl (fun h43 => ?_) (fun h43 => ?_)
 ·refine s_k 12 rfl (s_k 3 rfl (s_nil (q_then (c_ret (q_ret1 rfl rfl ?_)))))
  replace H := H.nil
  exact fin ⟨congrArg Value.bool (greatJ_of (by first | exact .inl (by omega) | exact .inr (.inl (by omega)) | exact .inr (.inr (.inl h43)) | exact .inr (.inr (.inr h43)))), rfl⟩ H
 refine s_val rfl rfl (r_fa rfl fo43_2 rfl) (s_val rfl rfl (r_ld rfl ty22 rfl (H.cellI 0 rfl rfl)) (sc (greatCode_ok (.slice A6 J.map.length c7) J.map) H (lR 1 rfl l0) rfl rfl (e_fn kn12 rfl rfl) ?_))
 rintro _ _ w ⟨rfl, rfl⟩ H
 refine s_k 2 rfl ?_
 refine s_boo (d := 38) (b := greatC J.map) rfl (fun h44 => ?_) (fun h44 => ?_)
 ·refine s_k 10 rfl (s_nil (q_then (c_ret (q_ret1 rfl rfl ?_))))
  replace H := H.nil
  exact fin ⟨congrArg Value.bool (greatJ_of (by first | exact .inl (by omega) | exact .inr (.inl (by omega)) | exact .inr (.inr (.inl h44)) | exact .inr (.inr (.inr h44)))), rfl⟩ H
 refine s_val rfl rfl (r_fa rfl fo43_3 rfl) (s_val rfl rfl (r_ld rfl ty22 rfl (H.cellI 0 rfl rfl)) (sc (greatCode_ok (.slice A11 J.comb.length c12) J.comb) H (lR 2 rfl l0) rfl rfl (e_fn kn12 rfl rfl) ?_))
 rintro _ _ w ⟨rfl, rfl⟩ H
 refine s_k 2 rfl ?_
 refine s_boo (d := 43) (b := greatC J.comb) rfl (fun h45 => ?_) (fun h45 => ?_)
 ·refine s_k 5 rfl (s_nil (q_then (c_ret (q_ret1 rfl rfl ?_))))
  replace H := H.nil
  exact fin ⟨congrArg Value.bool (greatJ_of (by first | exact .inl (by omega) | exact .inr (.inl (by omega)) | exact .inr (.inr (.inl h45)) | exact .inr (.inr (.inr h45)))), rfl⟩ H
 refine s_val rfl rfl (r_fa rfl fo43_4 rfl) (s_val rfl rfl (r_ld rfl ty22 rfl (H.cellI 0 rfl rfl)) (sc (greatCode_ok (.slice A16 J.red.length c17) J.red) H (lR 3 rfl l0) rfl rfl (e_fn kn12 rfl rfl) ?_))
 rintro _ _ w ⟨rfl, rfl⟩ H
 refine s_k 2 rfl (s_nil (q_then (c_ret (q_ret1 rfl rfl ?_))))
 replace H := H.nil
 exact fin ⟨congrArg Value.bool (greatJ_fin hn (by omega) (by omega) (by omega) (by simpa using h44) (by simpa using h45)), rfl⟩ H
theorem sameRuns_ok (vus : Value) (us : List (Value × List Pair)) (vvs : Value) (vs : List (Value × List Pair)) :
    Cn Tryz.prog 29 [vus, vvs] [] [rsl (kHd kPair) vus us, rsl (kHd kPair) vvs vs] (fun v Bs => v = .bool (decide ((us : List (Value × List Pair)).map (·.2) = (vs : List (Value × List Pair)).map (·.2))) ∧ Bs = []) := by
 intro w0 F0 H
 obtain ⟨A1, c2, rfl, hc3, hm4, hp5⟩ := H.fR 0 rfl
 obtain ⟨A6, c7, rfl, hc8, hm9, hp10⟩ := H.fR 1 rfl
 refine enter Tryz.func29 rfl rfl (Nat.le_of_ble_eq_true rfl) (c_seq (c_reg (s_1 rfl (s_nil (q_then ?_)))))
 replace H : Hd _ _ _ [] [rsl (kHd kPair) (.slice A1 us.length c2) us, rsl (kHd kPair) (.slice A6 vs.length c7) vs] := H
 refine c_seq (c_seq (c_reg (s_1 rfl (s_val rfl rfl (r_lenL rfl un31 rfl) (s_1 rfl (s_val rfl rfl (r_lenL rfl un31 rfl) (s_val rfl rfl (r_ne rfl rfl rfl) (s_nil (q_then ?_)))))))))
 refine c_dec rfl (fun h11 => ?_) (fun h11 => ?_)
 ·refine c_seq (c_reg (s_1 rfl (s_nil (q_then (c_ret (q_thenR (q_ret1 rfl rfl ?_)))))))
  have e : ¬ us.map (·.2) = vs.map (·.2) := fun e => by have := congrArg List.length e; simp only [List.length_map] at this; omega
  exact fin ⟨by rw [decide_eq_false e] <;> rfl, rfl⟩ H
 refine c_skip (q_then (c_seq (c_seq (c_reg (s_1 rfl (s_nil (q_then (c_block ?_))))))))
 have hle : us.length = vs.length := by omega
 refine c_loop (σ := Nat) (fun k => [(0, .slice A1 us.length c2), (1, .slice A6 vs.length c7), (5, .int .i64 ((k : Nat) : Int))]) (fun k w => (Hd w0 F0 w [] [rsl (kHd kPair) (.slice A1 us.length c2) us, rsl (kHd kPair) (.slice A6 vs.length c7) vs]) ∧ (k ≤ us.length) ∧ (us.length = vs.length) ∧ ((us.take k).map (·.2) = (vs.take k).map (·.2))) (fun k => us.length - k) 0 ⟨rfl, rfl, rfl, trivial⟩ ⟨H, by (try dsimp only); omega, hle, rfl⟩ ?_
 rintro k w ⟨H, hk, hle, ht⟩
 refine c_seq (c_seq (c_reg (s_k 2 rfl (s_val rfl rfl (r_lenL rfl un31 rfl) (s_val rfl rfl (r_lt rfl rfl rfl) (s_nil (q_then ?_)))))))
 refine c_dec rfl (fun h12 => ?_) (fun h12 => ?_)
 ·refine c_skip (q_then (c_seq (c_block (c_seq (c_ord (.e 0 (.e 1 (.e 2 (.e 3 (.e 4 (.e 5 (.e 6 (.e 7 (.m 8 (.e 9 .z)))))))))) (fun w => ∃ Ar, Hd w0 F0 w (Ar) [rsl (kHd kPair) (.slice A1 us.length c2) us, rsl (kHd kPair) (.slice A6 vs.length c7) vs]) mo (by kernel_rfl) (fun w H => ⟨_, H⟩) H (fun w H => (d_1 rfl (d_1 rfl ?_))))))))
  obtain ⟨⟨u15, x13⟩, hx14⟩ : ∃ z9, us[k]? = some z9 := ⟨_, List.getElem?_eq_getElem (show k < us.length by omega)⟩
  obtain ⟨A16, c17, rfl, hc18, hm19⟩ := H.nestR 0 rfl hx14
  have th20 := H.thRd 0 rfl hx14
  refine d_val rfl rfl rfl (fun w ⟨Ar, H⟩ => r_iaE (p := oOf A1 + k * 1) rfl sl31 rfl rfl (by omega) (by omega) th20 rfl) (d_val rfl rfl rfl (fun w ⟨Ar, H⟩ => r_ld rfl ty23 rfl (H.elRd 0 rfl hx14 rfl)) (d_1 rfl (d_1 rfl ?_)))
  obtain ⟨⟨u23, x21⟩, hx22⟩ : ∃ z9, vs[k]? = some z9 := ⟨_, List.getElem?_eq_getElem (show k < vs.length by omega)⟩
  obtain ⟨A24, c25, rfl, hc26, hm27⟩ := H.nestR 1 rfl hx22
  have th28 := H.thRd 1 rfl hx22
  refine d_val rfl rfl rfl (fun w ⟨Ar, H⟩ => r_iaE (p := oOf A6 + k * 1) rfl sl31 rfl rfl (by omega) (by omega) th28 rfl) (d_val rfl rfl rfl (fun w ⟨Ar, H⟩ => r_ld rfl ty23 rfl (H.elRd 1 rfl hx22 rfl)) (d_main rfl (sc (samePairs_ok (.slice A16 x13.length c17) (.slice A24 x21.length c25) x13 x21) H (lX (fun F hA hR => nest_rsl (hR _ (List.mem_of_getElem? (i := 0) rfl)) hx14) (lX (fun F hA hR => nest_rsl (hR _ (List.mem_of_getElem? (i := 1) rfl)) hx22) l0)) rfl rfl (e_fn kn19 rfl rfl) ?_)))
  rintro _ _ w ⟨rfl, rfl⟩ H
  refine d_back ⟨_, H⟩ (d_val rfl rfl rfl (fun w ⟨Ar, H⟩ => r_notP rfl rfl) (d_nil (q_then ?_)))
  refine c_dec rfl (fun h29 => ?_) (fun h29 => ?_)
  ·refine c_seq (c_reg (s_1 rfl (s_nil (q_then (c_ret (q_blockR (q_thenR (q_thenR (q_blockR (q_thenR (q_ret1 rfl rfl ?_)))))))))))
   have e : ¬ us.map (·.2) = vs.map (·.2) := fun e => h29 (runs_at hx14 hx22 e)
   exact fin ⟨by rw [decide_eq_false e] <;> rfl, rfl⟩ H
  refine c_skip (q_blockN (q_then (c_reg (s_1 rfl (s_val rfl rfl (r_add (z := ((k + 1 : Nat) : Int)) rfl rfl rfl (by rw [w64 (by omega) (by omega)]; omega)) (s_1 rfl (s_nil ?_)))))))
  have e : x13 = x21 := Classical.not_not.1 h29
  have ht2 := runs_more hx14 hx22 e ht
  exact q_round (s := k) (k + 1) ⟨rfl, rfl, rfl, trivial⟩ ⟨H, by (try dsimp only); omega, hle, ht2⟩ (by (try dsimp only); omega)
 refine c_exit (q_thenE (q_thenE (q_blockE (q_then (c_seq (c_reg (s_1 rfl (s_nil (q_then (c_ret (q_ret1 rfl rfl ?_)))))))))))
 have e : us.map (·.2) = vs.map (·.2) := by have := ht; rw [List.take_of_length_le (by omega), List.take_of_length_le (by omega)] at this; exact this
 exact fin ⟨by rw [decide_eq_true e] <;> rfl, rfl⟩ H
theorem partNum_ok (key : ByteArray) (hb0 : key.size ≤ 9223372036854775807) :
    Cn Tryz.prog 68 [.string key] [] [] (fun v Bs => v = .int .u32 (numK key key.size) ∧ Bs = []) := by
 intro w0 F0 H
 refine enter Tryz.func68 rfl rfl (Nat.le_of_ble_eq_true rfl) (c_seq (c_reg (s_1 rfl (s_nil (q_then (c_seq (c_reg (s_1 rfl (s_nil (q_then (c_seq (c_seq (c_reg (s_1 rfl (s_val rfl rfl (r_lenS rfl un9 rfl) (s_1 rfl (s_nil (q_then (c_block (c_loop (σ := Nat) (fun k => [(0, .string key), (2, .int .u32 0), (3, .int .u32 (numK key k)), (6, .int .i64 ((key.size : Nat) : Int)), (7, .int .i64 ((k : Nat) : Int))]) (fun k w => (Hd w0 F0 w [] []) ∧ (k ≤ key.size)) (fun k => key.size - k) 0 ⟨rfl, rfl, rfl, rfl, rfl, trivial⟩ ⟨H, by (try dsimp only); omega⟩ ?_))))))))))))))))))))
 rintro k w ⟨H, hk⟩
 refine c_seq (c_reg (s_val rfl rfl (r_lt rfl rfl rfl) (s_nil (q_then (c_seq ?_)))))
 refine c_dec rfl (fun h1 => ?_) (fun h1 => ?_)
 ·refine c_skip (q_then (c_seq (c_block (c_seq (c_reg (s_k 2 rfl (s_nil (q_then (c_reg (s_1 rfl (s_val rfl rfl (r_mul (z := IntKind.u32.wrap (31 * numK key k)) rfl rfl rfl rfl) (s_k 2 rfl ?_))))))))))))
  obtain ⟨b, hb⟩ : ∃ b, key[k]? = some b := ⟨_, getElem?_pos key k (by omega)⟩
  exact s_val rfl rfl (r_idxS rfl un9 rfl rfl (by omega) hb) (s_val rfl rfl (r_i2i (z := ((b).toNat : Int)) rfl rfl un5 un87 (wu32b b)) (s_val rfl rfl (r_add (z := IntKind.u32.wrap (IntKind.u32.wrap (31 * numK key k) + (b.toNat : Int))) rfl rfl rfl rfl) (s_1 rfl (s_nil (q_blockN (q_then (c_reg (s_val rfl rfl (r_add (z := ((k + 1 : Nat) : Int)) rfl rfl rfl (by rw [w64 (by omega) (by omega)]; omega)) (s_1 rfl (s_nil (q_round (s := k) (k + 1) ⟨rfl, rfl, congrArg (fun z => some (Value.int .u32 z)) (numK_step hb).symm, rfl, rfl, trivial⟩ ⟨H, by (try dsimp only); omega⟩ (by (try dsimp only); omega))))))))))))
 refine c_exit (q_thenE (q_thenE (q_blockE (q_then (c_seq (c_reg (s_k 2 rfl (s_nil (q_then (c_ret (q_ret1 rfl rfl ?_)))))))))))
 obtain rfl : k = key.size := by omega
 exact fin ⟨rfl, rfl⟩ H
theorem partOf_ok (key : ByteArray) (n : Int) (hb0 : key.size ≤ 9223372036854775807) (hn : n ≤ 9223372036854775807) :
    Cn Tryz.prog 51 [.string key, .int .i64 n] [] [] (fun v Bs => v = .int .i64 (partO key n) ∧ Bs = []) := by
 intro w0 F0 H
 refine enter Tryz.func51 rfl rfl (Nat.le_of_ble_eq_true rfl) (c_seq (c_reg (s_1 rfl (s_nil (q_then (c_seq (c_seq (c_reg (s_1 rfl (s_val rfl rfl (r_lt rfl rfl rfl) (s_nil (q_then ?_))))))))))))
 refine c_dec rfl (fun h1 => ?_) (fun h1 => ?_)
 ·exact c_seq (c_reg (s_1 rfl (s_nil (q_then (c_ret (q_thenR (q_ret1 rfl rfl (fin ⟨congrArg (Value.int .i64) (if_pos h1).symm, rfl⟩ H))))))))
 refine c_skip (q_then (c_seq (c_reg (s_1 rfl (sc (partNum_ok key (by first | omega | decide)) H l0 rfl rfl (e_fn kn68 rfl rfl) ?_)))))
 rintro _ _ w ⟨rfl, rfl⟩ H
 exact s_val rfl rfl (r_i2i (z := numK key key.size) rfl rfl un87 un86 (wu64 (numK_range key key.size).1 (by have := (numK_range key key.size).2; omega))) (s_1 rfl (s_val rfl rfl (r_i2i (z := n) rfl rfl un3 un86 (wu64 (by omega) (by omega))) (s_val rfl rfl (r_rem (z := (numK key key.size) % n) rfl rfl rfl (by omega) (Int.tmod_eq_emod_of_nonneg (numK_range key key.size).1)) (s_val rfl rfl (r_i2i (z := (numK key key.size) % n) rfl rfl un86 un3 (w64 (by have := Int.emod_nonneg (numK key key.size) (show n ≠ 0 by omega); omega) (by have := Int.emod_lt_of_pos (numK key key.size) (show 0 < n by omega); omega))) (s_1 rfl (s_nil (q_then (c_ret (q_ret1 rfl rfl (fin ⟨congrArg (Value.int .i64) (if_neg h1).symm, rfl⟩ H))))))))))
theorem only_ok (vxs : Value) (xs : List Pair) (n : Int) (p : Int) (hb : xs.length ≤ 1000000) (hn : n ≤ 9223372036854775807) (hk : ∀ x ∈ xs, x.key.size ≤ 9223372036854775807) :
    Cn Tryz.prog 28 [vxs, .int .i64 n, .int .i64 p] [] [rsl kPair vxs xs] (fun v Bs => Bs = [osl kPair v (onlyP xs n p)]) := by
 intro w0 F0 H
 obtain ⟨A1, c2, rfl, hc3, hm4, hp5⟩ := H.fR 0 rfl
 refine enter Tryz.func28 rfl rfl (Nat.le_of_ble_eq_true rfl) (c_seq (c_reg (s_1 rfl (s_nil (q_then ?_)))))
 replace H : Hd _ _ _ [] [rsl kPair (.slice A1 xs.length c2) xs] := H
 refine c_seq (c_reg (s_1 rfl (s_nil (q_then (c_seq (c_seq (c_reg (s_1 rfl (s_val rfl rfl (r_lenL rfl un23 rfl) (s_1 rfl (s_nil (q_then (c_block ?_)))))))))))))
 replace H := H.newnil kPair
 refine c_loop (σ := Nat × Value) (fun (k, l) => [(1, .int .i64 n), (2, .int .i64 p), (6, .slice none 0 0), (7, l), (10, .slice A1 xs.length c2), (11, .int .i64 ((xs.length : Nat) : Int)), (12, .int .i64 ((k : Nat) : Int))]) (fun (k, l) w => (Hd w0 F0 w [osl kPair l (onlyP (xs.take k) n p)] [rsl kPair (.slice A1 xs.length c2) xs]) ∧ (k ≤ xs.length)) (fun (k, l) => xs.length - k) (0, .slice none 0 0) ⟨rfl, rfl, rfl, rfl, rfl, rfl, rfl, trivial⟩ ⟨H, by (try dsimp only); omega⟩ ?_
 rintro ⟨k, l⟩ w ⟨H, hk0⟩
 have hjl := only_len (xs.take k) n p
 have hjt : (xs.take k).length ≤ xs.length := by simp; omega
 refine c_seq (c_reg (s_val rfl rfl (r_lt rfl rfl rfl) (s_nil (q_then (c_seq ?_)))))
 refine c_dec rfl (fun h6 => ?_) (fun h6 => ?_)
 ·refine c_skip (q_then (c_seq (c_block (c_seq (c_reg ?_)))))
  obtain ⟨x7, hx8⟩ : ∃ z9, xs[k]? = some z9 := ⟨_, List.getElem?_eq_getElem (show k < xs.length by omega)⟩
  have th9 := H.thR 0 rfl hx8
  refine s_val rfl rfl (r_iaE (p := oOf A1 + k * 2) rfl sl23 rfl rfl (by omega) (by omega) th9 rfl) (s_val rfl rfl (r_ldA (cs := [.string x7.key, .string x7.val]) rfl ty56 rfl rfl (H.elsR 0 rfl hx8 rfl)) (s_alloc rfl rfl rfl zr56 H (fun b10 w H => (s_st rfl rfl rfl ty56 rfl rfl H rfl (Nat.le_of_ble_eq_true rfl) (fun u hu => by simp [Value.cells] at hu; rcases hu with rfl | rfl <;> rfl) (fun w H => ?_)))))
  replace H := H.h2 (A := blk b10 [.string x7.key, .string x7.val] 56) (B := osl kPair l (onlyP (xs.take k) n p))
  refine s_nil (q_then (c_seq ?_))
  have hkx := hk _ (at_mem hx8)
  refine c_reg (s_val rfl rfl (r_fa rfl fo56_0 rfl) (s_val rfl rfl (r_ld rfl ty9 rfl (H.cellI 0 rfl rfl)) (s_1 rfl (sc (partOf_ok x7.key n (by first | omega | decide) (by first | omega | decide)) H l0 rfl rfl (e_fn kn51 rfl rfl) ?_))))
  rintro _ _ w ⟨rfl, rfl⟩ H
  refine s_1 rfl (s_val rfl rfl (r_eq rfl rfl rfl) (s_nil (q_then ?_)))
  refine c_dec rfl (fun h11 => ?_) (fun h11 => ?_)
  ·refine c_reg (s_1 rfl (s_val rfl rfl (r_ldA (cs := [.string x7.key, .string x7.val]) rfl ty56 rfl rfl (H.cellsI 0 rfl rfl)) (s_bsl (parts := [(0, .tmp 23)]) (vs := [.agg #[.string x7.key, .string x7.val]]) (cs := [.string x7.key, .string x7.val]) rfl rfl rfl sl23 zr56 rfl (by decide) (by decide) rfl rfl H (fun b12 w H => ?_))))
   replace H := H.p2
   refine s_appF (xs := onlyP (xs.take k) n p) (ys := [x7]) rfl rfl rfl sl23 zr56 rfl (by decide) rfl rfl H (by omega) (fun F hA hR => blk_rsl (hA _ (List.mem_of_getElem? (i := 0) rfl)) rfl (by decide) (RepsR.flat_eq.2 rfl)) (fun v13 w H => (s_1 rfl (s_nil (q_blockN (q_then ?_)))))
   replace H : Hd _ _ _ [osl kPair v13 ((onlyP (xs.take k) n p) ++ [x7]), blk b12 [.string x7.key, .string x7.val] 56, blk b10 [.string x7.key, .string x7.val] 56] [rsl kPair (.slice A1 xs.length c2) xs] := H
   refine c_reg (s_val rfl rfl (r_add (z := ((k + 1 : Nat) : Int)) rfl rfl rfl (by rw [w64 (by omega) (by omega)]; omega)) (s_1 rfl (s_nil ?_)))
   rw [← only_yes hx8 h11] at H
   replace H := H.k1
   exact q_round (s := (k, undef)) (k + 1, v13) ⟨rfl, rfl, rfl, rfl, rfl, rfl, rfl, trivial⟩ ⟨H, by (try dsimp only); omega⟩ (by (try dsimp only); omega)
  refine c_skip (q_blockN (q_then (c_reg (s_val rfl rfl (r_add (z := ((k + 1 : Nat) : Int)) rfl rfl rfl (by rw [w64 (by omega) (by omega)]; omega)) (s_1 rfl (s_nil ?_))))))
  rw [← only_no hx8 h11] at H
  replace H := H.sel 2 [1] [0] rfl (by kernel_rfl)
  exact q_round (s := (k, undef)) (k + 1, l) ⟨rfl, rfl, rfl, rfl, rfl, rfl, rfl, trivial⟩ ⟨H, by (try dsimp only); omega⟩ (by (try dsimp only); omega)
 refine c_exit (q_thenE (q_thenE (q_blockE (q_then (c_seq (c_reg (s_k 2 rfl (s_nil (q_then (c_ret (q_ret1 rfl rfl ?_)))))))))))
 rw [List.take_of_length_le (show xs.length ≤ k by omega)] at H
 exact fin rfl H
theorem two_ok (vxs : Value) (xs : List Pair) (vys : Value) (ys : List Pair) (hb : xs.length + ys.length ≤ 1000000) :
    Cn Tryz.prog 41 [vxs, vys] [] [rsl kPair vxs xs, rsl kPair vys ys] (fun v Bs => Bs = [osl kPair v (srt (xs ++ ys))]) := by
 intro w0 F0 H
 obtain ⟨A1, c2, rfl, hc3, hm4, hp5⟩ := H.fR 0 rfl
 obtain ⟨A6, c7, rfl, hc8, hm9, hp10⟩ := H.fR 1 rfl
 refine enter Tryz.func41 rfl rfl (Nat.le_of_ble_eq_true rfl) (c_seq (c_reg (s_1 rfl (s_nil (q_then ?_)))))
 replace H : Hd _ _ _ [] [rsl kPair (.slice A1 xs.length c2) xs, rsl kPair (.slice A6 ys.length c7) ys] := H
 refine c_seq (c_seq (c_reg (s_1 rfl (sc (sorted_ok (.slice A1 xs.length c2) xs (by first | omega | decide | (simp only [List.length_append, List.length_cons, List.length_nil, srt_len]; omega))) H (lR 0 rfl l0) rfl rfl (e_fn kn27 rfl rfl) ?_))))
 rintro _ _ w ⟨rfl, rfl⟩ H
 refine s_val rfl rfl (r_notP rfl rfl) (s_1 rfl ?_)
 refine s_dec (d := 9) rfl (fun h11 => ?_) (fun h11 => ?_)
 ·refine s_k 4 rfl (s_nil (q_then (c_yes rfl (c_seq (c_reg (s_1 rfl ?_))))))
  replace H := H.newnil kPair
  refine s_appF (xs := []) (ys := xs) rfl rfl rfl sl23 zr56 rfl (by decide) rfl rfl H (by first | omega | (simp only [List.length_append, List.length_cons, List.length_nil]; omega)) (fun F hA hR => hR _ (List.mem_of_getElem? (i := 0) rfl)) (fun v12 w H => (s_1 rfl (s_appF (xs := [] ++ xs) (ys := ys) rfl rfl rfl sl23 zr56 rfl (by decide) rfl rfl H (by first | omega | (simp only [List.length_append, List.length_cons, List.length_nil]; omega)) (fun F hA hR => hR _ (List.mem_of_getElem? (i := 1) rfl)) (fun v13 w H => ?_))))
  replace H : Hd _ _ _ [osl kPair v13 (([] ++ xs) ++ ys)] [rsl kPair (.slice A1 xs.length c2) xs, rsl kPair (.slice A6 ys.length c7) ys] := H
  refine sc (pairSort_ok v13 (([] ++ xs) ++ ys) (by first | omega | decide | (simp only [List.length_append, List.length_cons, List.length_nil, srt_len]; omega))) H (lA 0 rfl own_rd l0) rfl rfl (e_fn kn15 rfl rfl) ?_
  rintro v14 _ w rfl H
  replace H := H.h1 (A := osl kPair v14 (srt (([] ++ xs) ++ ys)))
  refine s_1 rfl (s_nil (q_then (c_ret (q_thenR (q_ret1 rfl rfl ?_)))))
  replace H := H.k1.h1 (A := osl kPair v14 (srt (xs ++ ys)))
  exact fin rfl H
 refine s_1 rfl (sc (sorted_ok (.slice A6 ys.length c7) ys (by first | omega | decide | (simp only [List.length_append, List.length_cons, List.length_nil, srt_len]; omega))) H (lR 1 rfl l0) rfl rfl (e_fn kn27 rfl rfl) ?_)
 rintro _ _ w ⟨rfl, rfl⟩ H
 refine s_val rfl rfl (r_notP rfl rfl) (s_1 rfl (s_nil (q_then ?_)))
 refine c_dec rfl (fun h15 => ?_) (fun h15 => ?_)
 ·refine c_seq (c_reg (s_1 rfl ?_))
  replace H := H.newnil kPair
  refine s_appF (xs := []) (ys := xs) rfl rfl rfl sl23 zr56 rfl (by decide) rfl rfl H (by first | omega | (simp only [List.length_append, List.length_cons, List.length_nil]; omega)) (fun F hA hR => hR _ (List.mem_of_getElem? (i := 0) rfl)) (fun v16 w H => (s_1 rfl (s_appF (xs := [] ++ xs) (ys := ys) rfl rfl rfl sl23 zr56 rfl (by decide) rfl rfl H (by first | omega | (simp only [List.length_append, List.length_cons, List.length_nil]; omega)) (fun F hA hR => hR _ (List.mem_of_getElem? (i := 1) rfl)) (fun v17 w H => ?_))))
  replace H : Hd _ _ _ [osl kPair v17 (([] ++ xs) ++ ys)] [rsl kPair (.slice A1 xs.length c2) xs, rsl kPair (.slice A6 ys.length c7) ys] := H
  refine sc (pairSort_ok v17 (([] ++ xs) ++ ys) (by first | omega | decide | (simp only [List.length_append, List.length_cons, List.length_nil, srt_len]; omega))) H (lA 0 rfl own_rd l0) rfl rfl (e_fn kn15 rfl rfl) ?_
  rintro v18 _ w rfl H
  replace H := H.h1 (A := osl kPair v18 (srt (([] ++ xs) ++ ys)))
  refine s_1 rfl (s_nil (q_then (c_ret (q_thenR (q_ret1 rfl rfl ?_)))))
  replace H := H.k1.h1 (A := osl kPair v18 (srt (xs ++ ys)))
  exact fin rfl H
 refine c_skip (q_then (c_seq ?_))
 have hoxs : Ord xs := Classical.not_not.1 h11
 have hoys : Ord ys := Classical.not_not.1 h15
 refine c_reg (s_1 rfl (s_nil (q_then (c_seq (c_block ?_)))))
 replace H := H.newnil kPair |>.dupR 1 rfl |>.dupR 1 rfl
 refine c_loop (σ := Value × Value × List Pair × List Pair × Value × List Pair) (fun (u, v, al, bl, q, zs) => [(0, u), (1, v), (4, .slice none 0 0), (5, q)]) (fun (u, v, al, bl, q, zs) w => (Hd w0 F0 w [osl kPair q zs] [rsl kPair u al, rsl kPair v bl, rsl kPair (.slice A1 xs.length c2) xs, rsl kPair (.slice A6 ys.length c7) ys]) ∧ (Ord al) ∧ (Ord bl) ∧ (zs.length + (al.length + bl.length) = xs.length + ys.length) ∧ (zs ++ srt (al ++ bl) = srt (xs ++ ys))) (fun (u, v, al, bl, q, zs) => al.length + bl.length) (.slice A1 xs.length c2, .slice A6 ys.length c7, xs, ys, .slice none 0 0, []) ⟨rfl, rfl, rfl, rfl, trivial⟩ ⟨H, hoxs, hoys, by (try dsimp only); simp only [List.length_nil]; omega, rfl⟩ ?_
 rintro ⟨u, v, al, bl, q, zs⟩ w ⟨H, ha, hb2, hl, hz⟩
 refine c_seq (c_seq (c_reg (s_1 rfl ?_)))
 obtain ⟨A19, c20, rfl, hc21, hm22, hp23⟩ := H.fR 0 rfl
 refine s_val rfl rfl (r_lenL rfl un23 rfl) (s_val rfl rfl (r_gt rfl rfl rfl) (s_1 rfl ?_))
 refine s_dec (d := 22) rfl (fun h24 => ?_) (fun h24 => ?_)
 ·refine s_1 rfl ?_
  obtain ⟨A25, c26, rfl, hc27, hm28, hp29⟩ := H.fR 1 rfl
  refine s_val rfl rfl (r_lenL rfl un23 rfl) (s_val rfl rfl (r_gt rfl rfl rfl) (s_1 rfl (s_nil (q_then ?_))))
  replace H : Hd _ _ _ [osl kPair q zs] [rsl kPair (.slice A19 al.length c20) al, rsl kPair (.slice A25 bl.length c26) bl, rsl kPair (.slice A1 xs.length c2) xs, rsl kPair (.slice A6 ys.length c7) ys] := H
  refine c_dec rfl (fun h30 => ?_) (fun h30 => ?_)
  ·refine c_skip (q_then (c_block (c_seq (c_seq (c_draw mo (by kernel_rfl) H (u_1 rfl ?_))))))
   obtain ⟨x31, hx32⟩ : ∃ z9, bl[0]? = some z9 := ⟨_, List.getElem?_eq_getElem (show 0 < bl.length by omega)⟩
   have th33 := H.thR 1 rfl hx32
   refine u_val rfl rfl (fun w H => r_iaE (p := oOf A25 + 0 * 2) rfl sl23 rfl rfl (by omega) (by omega) th33 (by omega)) (u_val rfl rfl (fun w H => r_fa rfl fo56_0 rfl) (u_val rfl rfl (fun w H => r_ld rfl ty9 rfl (H.elR 1 rfl hx32 (q := 0) rfl rfl)) (u_1 rfl ?_)))
   obtain ⟨x34, hx35⟩ : ∃ z9, al[0]? = some z9 := ⟨_, List.getElem?_eq_getElem (show 0 < al.length by omega)⟩
   have th36 := H.thR 0 rfl hx35
   refine u_val rfl rfl (fun w H => r_iaE (p := oOf A19 + 0 * 2) rfl sl23 rfl rfl (by omega) (by omega) th36 (by omega)) (u_val rfl rfl (fun w H => r_fa rfl fo56_0 rfl) (u_val rfl rfl (fun w H => r_ld rfl ty9 rfl (H.elR 0 rfl hx35 (q := 0) rfl rfl)) (u_val rfl rfl (fun w H => r_ltS rfl rfl rfl) (u_end (fun w H => (q_then ?_))))))
   refine c_dec rfl (fun h37 => ?_) (fun h37 => ?_)
   ·refine c_seq (c_reg (s_k 2 rfl ?_))
    have th38 := H.thR 1 rfl hx32
    refine s_val rfl rfl (r_iaE (p := oOf A25 + 0 * 2) rfl sl23 rfl rfl (by omega) (by omega) th38 (by omega)) (s_val rfl rfl (r_ldA (cs := [.string x31.key, .string x31.val]) rfl ty56 rfl rfl (H.elsR 1 rfl hx32 rfl)) (s_bsl (parts := [(0, .tmp 39)]) (vs := [.agg #[.string x31.key, .string x31.val]]) (cs := [.string x31.key, .string x31.val]) rfl rfl rfl sl23 zr56 rfl (by decide) (by decide) rfl rfl H (fun b39 w H => ?_)))
    replace H := H.p1
    refine s_appF (xs := zs) (ys := [x31]) rfl rfl rfl sl23 zr56 rfl (by decide) rfl rfl H (by first | omega | (simp only [List.length_append, List.length_cons, List.length_nil]; omega)) (fun F hA hR => blk_rsl (hA _ (List.mem_of_getElem? (i := 0) rfl)) rfl (by decide) (RepsR.flat_eq.2 rfl)) (fun v40 w H => (s_1 rfl (s_nil (q_then ?_))))
    replace H : Hd _ _ _ [osl kPair v40 (zs ++ [x31]), blk b39 [.string x31.key, .string x31.val] 56] [rsl kPair (.slice A19 al.length c20) al, rsl kPair (.slice A25 bl.length c26) bl, rsl kPair (.slice A1 xs.length c2) xs, rsl kPair (.slice A6 ys.length c7) ys] := H
    refine c_seq (c_reg (s_1 rfl (s_val rfl rfl (r_cutS rfl sl23 rfl rfl (by omega) (by omega) rfl) (s_1 rfl (s_nil (q_then (c_exit (q_thenE (q_blockE ?_)))))))))
    replace H := H.k1.sufR 1 rfl (n := 1) (by omega)
    replace H : Hd w0 F0 w [osl kPair v40 (zs ++ [x31])] [rsl kPair (.slice A19 al.length c20) al, rsl kPair (.slice (cutA A25 c26 1 2) (bl.length - 1) (c26 - 1)) (bl.drop 1), rsl kPair (.slice A1 xs.length c2) xs, rsl kPair (.slice A6 ys.length c7) ys] := H.pickR [1, 0, 3, 4]
    have hz2 : (zs ++ [x31]) ++ srt (al ++ bl.drop 1) = srt (xs ++ ys) := by rw [← hz, mer_b hx35 hx32 ha hb2 h37, List.append_assoc]; rfl
    exact q_round (s := (undef, undef, al, bl, undef, zs)) (.slice A19 al.length c20, .slice (cutA A25 c26 1 2) (bl.length - 1) (c26 - 1), al, bl.drop 1, v40, zs ++ [x31]) ⟨rfl, rfl, rfl, rfl, trivial⟩ ⟨H, ha, ord_drop hb2 1, by (try dsimp only); simp only [List.length_append, List.length_cons, List.length_nil, List.length_drop]; omega, hz2⟩ (by (try dsimp only); simp only [List.length_drop]; omega)
   refine c_skip (q_then (c_seq (c_reg (s_k 2 rfl ?_))))
   have th41 := H.thR 0 rfl hx35
   refine s_val rfl rfl (r_iaE (p := oOf A19 + 0 * 2) rfl sl23 rfl rfl (by omega) (by omega) th41 (by omega)) (s_val rfl rfl (r_ldA (cs := [.string x34.key, .string x34.val]) rfl ty56 rfl rfl (H.elsR 0 rfl hx35 rfl)) (s_bsl (parts := [(0, .tmp 47)]) (vs := [.agg #[.string x34.key, .string x34.val]]) (cs := [.string x34.key, .string x34.val]) rfl rfl rfl sl23 zr56 rfl (by decide) (by decide) rfl rfl H (fun b42 w H => ?_)))
   replace H := H.p1
   refine s_appF (xs := zs) (ys := [x34]) rfl rfl rfl sl23 zr56 rfl (by decide) rfl rfl H (by first | omega | (simp only [List.length_append, List.length_cons, List.length_nil]; omega)) (fun F hA hR => blk_rsl (hA _ (List.mem_of_getElem? (i := 0) rfl)) rfl (by decide) (RepsR.flat_eq.2 rfl)) (fun v43 w H => (s_1 rfl (s_nil (q_then ?_))))
   replace H : Hd _ _ _ [osl kPair v43 (zs ++ [x34]), blk b42 [.string x34.key, .string x34.val] 56] [rsl kPair (.slice A19 al.length c20) al, rsl kPair (.slice A25 bl.length c26) bl, rsl kPair (.slice A1 xs.length c2) xs, rsl kPair (.slice A6 ys.length c7) ys] := H
   refine c_reg (s_1 rfl (s_val rfl rfl (r_cutS rfl sl23 rfl rfl (by omega) (by omega) rfl) (s_1 rfl (s_nil (q_blockN ?_)))))
   replace H := H.k1.sufR 0 rfl (n := 1) (by omega)
   replace H : Hd w0 F0 w [osl kPair v43 (zs ++ [x34])] [rsl kPair (.slice (cutA A19 c20 1 2) (al.length - 1) (c20 - 1)) (al.drop 1), rsl kPair (.slice A25 bl.length c26) bl, rsl kPair (.slice A1 xs.length c2) xs, rsl kPair (.slice A6 ys.length c7) ys] := H.pickR [0, 2, 3, 4]
   have hz2 : (zs ++ [x34]) ++ srt (al.drop 1 ++ bl) = srt (xs ++ ys) := by rw [← hz, mer_a hx35 hx32 ha hb2 h37, List.append_assoc]; rfl
   exact q_round (s := (undef, undef, al, bl, undef, zs)) (.slice (cutA A19 c20 1 2) (al.length - 1) (c20 - 1), .slice A25 bl.length c26, al.drop 1, bl, v43, zs ++ [x34]) ⟨rfl, rfl, rfl, rfl, trivial⟩ ⟨H, ord_drop ha 1, hb2, by (try dsimp only); simp only [List.length_append, List.length_cons, List.length_nil, List.length_drop]; omega, hz2⟩ (by (try dsimp only); simp only [List.length_drop]; omega)
  refine c_exit (q_thenE (q_thenE (q_blockE (q_then (c_seq (c_reg (s_k 2 rfl (s_appF (xs := zs) (ys := al) rfl rfl rfl sl23 zr56 rfl (by decide) rfl rfl H (by first | omega | (simp only [List.length_append, List.length_cons, List.length_nil]; omega)) (fun F hA hR => hR _ (List.mem_of_getElem? (i := 0) rfl)) (fun v44 w H => (s_1 rfl (s_appF (xs := zs ++ al) (ys := bl) rfl rfl rfl sl23 zr56 rfl (by decide) rfl rfl H (by first | omega | (simp only [List.length_append, List.length_cons, List.length_nil]; omega)) (fun F hA hR => hR _ (List.mem_of_getElem? (i := 1) rfl)) (fun v45 w H => ?_))))))))))))
  replace H := H.h1 (A := osl kPair v45 ((zs ++ al) ++ bl))
  refine s_1 rfl (s_nil (q_then (c_ret (q_ret1 rfl rfl ?_))))
  replace H : Hd w0 F0 w [osl kPair v45 (srt (xs ++ ys))] [rsl kPair (.slice A19 al.length c20) al, rsl kPair (.slice A25 bl.length c26) bl, rsl kPair (.slice A1 xs.length c2) xs, rsl kPair (.slice A6 ys.length c7) ys] := by rw [← hz, mer_end ha hb2 (by omega), ← List.append_assoc]; exact H
  replace H := H.dropR |>.dropR
  exact fin rfl H
 refine s_k 4 rfl (s_nil (q_then ?_))
 replace H : Hd _ _ _ [osl kPair q zs] [rsl kPair (.slice A19 al.length c20) al, rsl kPair v bl, rsl kPair (.slice A1 xs.length c2) xs, rsl kPair (.slice A6 ys.length c7) ys] := H
 refine c_no rfl (c_exit (q_thenE (q_thenE (q_blockE (q_then (c_seq (c_reg (s_k 2 rfl (s_appF (xs := zs) (ys := al) rfl rfl rfl sl23 zr56 rfl (by decide) rfl rfl H (by first | omega | (simp only [List.length_append, List.length_cons, List.length_nil]; omega)) (fun F hA hR => hR _ (List.mem_of_getElem? (i := 0) rfl)) (fun v46 w H => (s_1 rfl ?_)))))))))))
 obtain ⟨A47, c48, rfl, hc49, hm50, hp51⟩ := H.fR 1 rfl
 refine s_appF (xs := zs ++ al) (ys := bl) rfl rfl rfl sl23 zr56 rfl (by decide) rfl rfl H (by first | omega | (simp only [List.length_append, List.length_cons, List.length_nil]; omega)) (fun F hA hR => hR _ (List.mem_of_getElem? (i := 1) rfl)) (fun v52 w H => (s_1 rfl (s_nil (q_then ?_))))
 replace H : Hd _ _ _ [osl kPair v52 ((zs ++ al) ++ bl)] [rsl kPair (.slice A19 al.length c20) al, rsl kPair (.slice A47 bl.length c48) bl, rsl kPair (.slice A1 xs.length c2) xs, rsl kPair (.slice A6 ys.length c7) ys] := H
 refine c_ret (q_ret1 rfl rfl ?_)
 replace H : Hd w0 F0 w [osl kPair v52 (srt (xs ++ ys))] [rsl kPair (.slice A19 al.length c20) al, rsl kPair (.slice A47 bl.length c48) bl, rsl kPair (.slice A1 xs.length c2) xs, rsl kPair (.slice A6 ys.length c7) ys] := by rw [← hz, mer_end ha hb2 (by omega), ← List.append_assoc]; exact H
 replace H := H.dropR |>.dropR
 exact fin rfl H
theorem runs_ok (vus : Value) (us : List (Value × List Pair)) (hb : (flat2 us).length ≤ 1000000) :
    Cn Tryz.prog 18 [vus] [] [rsl (kHd kPair) vus us] (fun v Bs => Bs = [osl kPair v (srt (flat2 us))]) := by
 intro w0 F0 H
 obtain ⟨A1, c2, rfl, hc3, hm4, hp5⟩ := H.fR 0 rfl
 refine enter Tryz.func18 rfl rfl (Nat.le_of_ble_eq_true rfl) (c_seq (c_reg (s_1 rfl (s_nil (q_then ?_)))))
 replace H : Hd _ _ _ [] [rsl (kHd kPair) (.slice A1 us.length c2) us] := H
 refine c_seq (c_reg (s_1 rfl (s_nil (q_then (c_seq (c_seq (c_reg (s_1 rfl (s_val rfl rfl (r_lenL rfl un31 rfl) (s_1 rfl (s_nil (q_then (c_block ?_)))))))))))))
 replace H := H.newnil kPair
 refine c_loop (σ := Nat × Value) (fun (k, q) => [(2, .slice none 0 0), (3, q), (6, .slice A1 us.length c2), (7, .int .i64 ((us.length : Nat) : Int)), (8, .int .i64 ((k : Nat) : Int))]) (fun (k, q) w => (Hd w0 F0 w [osl kPair q (srt (flat2 (us.take k)))] [rsl (kHd kPair) (.slice A1 us.length c2) us]) ∧ (k ≤ us.length)) (fun (k, q) => us.length - k) (0, .slice none 0 0) ⟨rfl, rfl, rfl, rfl, rfl, trivial⟩ ⟨H, by (try dsimp only); omega⟩ ?_
 rintro ⟨k, q⟩ w ⟨H, hk⟩
 have hsl := srt_len (flat2 (us.take k))
 refine c_seq (c_reg (s_val rfl rfl (r_lt rfl rfl rfl) (s_nil (q_then (c_seq ?_)))))
 refine c_dec rfl (fun h6 => ?_) (fun h6 => ?_)
 ·refine c_skip (q_then (c_seq (c_block (c_seq (c_reg ?_)))))
  obtain ⟨⟨u9, x7⟩, hx8⟩ : ∃ z9, us[k]? = some z9 := ⟨_, List.getElem?_eq_getElem (show k < us.length by omega)⟩
  obtain ⟨A10, c11, rfl, hc12, hm13⟩ := H.nestR 0 rfl hx8
  have th14 := H.thRd 0 rfl hx8
  refine s_val rfl rfl (r_iaE (p := oOf A1 + k * 1) rfl sl31 rfl rfl (by omega) (by omega) th14 rfl) (s_val rfl rfl (r_ld rfl ty23 rfl (H.elRd 0 rfl hx8 rfl)) (s_1 rfl (s_nil (q_then ?_))))
  have hfl := flat2_le us (k + 1)
  rw [flat2_step hx8, List.length_append] at hfl
  refine c_reg (s_k 2 rfl (sc (two_ok q (srt (flat2 (us.take k))) (.slice A10 x7.length c11) x7 (by first | omega | decide | (simp only [List.length_append, List.length_cons, List.length_nil, srt_len]; omega))) H (lA 0 rfl own_rd (lX (fun F hA hR => nest_rsl (hR _ (List.mem_of_getElem? (i := 0) rfl)) hx8) l0)) rfl rfl (e_fn kn41 rfl rfl) ?_))
  rintro v15 _ w rfl H
  refine s_1 rfl (s_nil (q_blockN (q_then ?_)))
  replace H : Hd _ _ _ [osl kPair v15 (srt ((srt (flat2 (us.take k))) ++ x7)), osl kPair q (srt (flat2 (us.take k)))] [rsl (kHd kPair) (.slice A1 us.length c2) us] := H
  refine c_reg (s_val rfl rfl (r_add (z := ((k + 1 : Nat) : Int)) rfl rfl rfl (by rw [w64 (by omega) (by omega)]; omega)) (s_1 rfl (s_nil ?_)))
  replace H := H.k1
  replace H : Hd w0 F0 w [osl kPair v15 (srt (flat2 (us.take (k + 1))))] [rsl (kHd kPair) (.slice A1 us.length c2) us] := by rw [flat2_step hx8, ← srt_app_srt]; exact H
  exact q_round (s := (k, undef)) (k + 1, v15) ⟨rfl, rfl, rfl, rfl, rfl, trivial⟩ ⟨H, by (try dsimp only); omega⟩ (by (try dsimp only); omega)
 refine c_exit (q_thenE (q_thenE (q_blockE (q_then (c_seq (c_reg (s_k 2 rfl (s_nil (q_then (c_ret (q_ret1 rfl rfl ?_)))))))))))
 replace H : Hd w0 F0 w [osl kPair q (srt (flat2 us))] [rsl (kHd kPair) (.slice A1 us.length c2) us] := by rw [List.take_of_length_le (show us.length ≤ k by omega)] at H; exact H
 exact fin rfl H
theorem mapped_ok (vS vM vC vR vK : Value) (J : Job) (hJ : OkJ J) (s : Nat) (hs : s < J.us.length) :
    Cn Tryz.prog 49 [.agg #[vS, .int .i64 J.parts, vM, vC, vR, .int .i64 J.chunk, .int .i64 J.window, .int .i64 J.fuel, vK], .int .i64 ((s : Nat) : Int)] [] [rsl (kHd kPair) vS J.us, rsl kIns vM J.map, rsl kIns vC J.comb, rsl kIns vR J.red, rsl (kInt .i64) vK J.marks, gl] (fun v Bs => ∃ u, v = .tuple #[u, .int .i64 (mapM dg J s).2] ∧ Bs = [osl kPair u (mapM dg J s).1]) := by
 intro w0 F0 H
 obtain ⟨A1, c2, rfl, hc3, hm4, hp5⟩ := H.fR 0 rfl
 obtain ⟨A6, c7, rfl, hc8, hm9, hp10⟩ := H.fR 1 rfl
 obtain ⟨A11, c12, rfl, hc13, hm14, hp15⟩ := H.fR 2 rfl
 obtain ⟨A16, c17, rfl, hc18, hm19, hp20⟩ := H.fR 3 rfl
 obtain ⟨A21, c22, rfl, hc23, hm24, hp25⟩ := H.fR 4 rfl
 have hus := hJ.us
 have hpt := hJ.parts
 have hfu := hJ.fuel
 refine enter Tryz.func49 rfl rfl (Nat.le_of_ble_eq_true rfl) (c_seq (c_reg (s_box rfl rfl rfl rfl H (fun b26 w H => (s_k 2 rfl (s_nil (q_then ?_)))))))
 replace H : Hd _ _ _ [blk b26 [.slice A1 J.us.length c2, .int .i64 J.parts, .slice A6 J.map.length c7, .slice A11 J.comb.length c12, .slice A16 J.red.length c17, .int .i64 J.chunk, .int .i64 J.window, .int .i64 J.fuel, .slice A21 J.marks.length c22] 43] [rsl (kHd kPair) (.slice A1 J.us.length c2) J.us, rsl kIns (.slice A6 J.map.length c7) J.map, rsl kIns (.slice A11 J.comb.length c12) J.comb, rsl kIns (.slice A16 J.red.length c17) J.red, rsl (kInt .i64) (.slice A21 J.marks.length c22) J.marks, gl] := H
 refine c_seq (c_reg (s_1 rfl (s_nil (q_then (c_seq (c_seq (c_reg (s_val rfl rfl (r_fa rfl fo43_0 rfl) (s_val rfl rfl (r_ld rfl ty31 rfl (H.cellI 0 rfl rfl)) (s_1 rfl ?_))))))))))
 obtain ⟨⟨u29, x27⟩, hx28⟩ : ∃ z9, J.us[s]? = some z9 := ⟨_, List.getElem?_eq_getElem (show s < J.us.length by omega)⟩
 obtain ⟨A30, c31, rfl, hc32, hm33⟩ := H.nestR 0 rfl hx28
 have th34 := H.thRd 0 rfl hx28
 refine s_val rfl rfl (r_iaE (p := oOf A1 + s * 1) rfl sl31 rfl rfl (by omega) (by omega) th34 rfl) (s_val rfl rfl (r_ld rfl ty23 rfl (H.elRd 0 rfl hx28 rfl)) (s_val rfl rfl (r_lenL rfl un23 rfl) (s_1 rfl (s_nil (q_then (c_block ?_))))))
 have hrec := recs_at hx28
 have hrl : x27.length ≤ 8 := (hJ.split _ (at_mem hx28)).1
 replace H := H.addR (R := rsl kPair (.slice A30 x27.length c31) x27) fun _ h => nest_rsl (h _ (List.mem_of_getElem? (i := 0) rfl)) hx28
 replace H := H.newnil kPair
 refine c_loop (σ := Nat × Value × List Pair) (fun (i, q, out) => [(2, .pointer (some ⟨b26, 0, none⟩)), (6, q), (15, .slice A30 x27.length c31), (16, .int .i64 ((x27.length : Nat) : Int)), (17, .int .i64 ((i : Nat) : Int))]) (fun (i, q, out) w => (Hd w0 F0 w [osl kPair q out, blk b26 [.slice A1 J.us.length c2, .int .i64 J.parts, .slice A6 J.map.length c7, .slice A11 J.comb.length c12, .slice A16 J.red.length c17, .int .i64 J.chunk, .int .i64 J.window, .int .i64 J.fuel, .slice A21 J.marks.length c22] 43] [rsl kPair (.slice A30 x27.length c31) x27, rsl (kHd kPair) (.slice A1 J.us.length c2) J.us, rsl kIns (.slice A6 J.map.length c7) J.map, rsl kIns (.slice A11 J.comb.length c12) J.comb, rsl kIns (.slice A16 J.red.length c17) J.red, rsl (kInt .i64) (.slice A21 J.marks.length c22) J.marks, gl]) ∧ (i ≤ x27.length) ∧ (mapGo dg J.map J.fuel (x27.drop i) out = mapGo dg J.map J.fuel x27 []) ∧ (out.length ≤ 40)) (fun (i, q, out) => x27.length - i) (0, .slice none 0 0, []) ⟨rfl, rfl, rfl, rfl, rfl, trivial⟩ ⟨H, Nat.zero_le _, rfl, Nat.zero_le _⟩ ?_
 rintro ⟨i, q, out⟩ w ⟨H, hi, hgo, ho⟩
 refine c_seq (c_reg (s_val rfl rfl (r_lt rfl rfl rfl) (s_nil (q_then (c_seq ?_)))))
 refine c_dec rfl (fun h35 => ?_) (fun h35 => ?_)
 ·refine c_skip (q_then (c_seq (c_block (c_seq (c_reg ?_)))))
  obtain ⟨x36, hx37⟩ : ∃ z9, x27[i]? = some z9 := ⟨_, List.getElem?_eq_getElem (show i < x27.length by omega)⟩
  have th38 := H.thR 0 rfl hx37
  refine s_val rfl rfl (r_iaE (p := oOf A30 + i * 2) rfl sl23 rfl rfl (by omega) (by omega) th38 rfl) (s_val rfl rfl (r_ldA (cs := [.string x36.key, .string x36.val]) rfl ty56 rfl rfl (H.elsR 0 rfl hx37 rfl)) (s_alloc rfl rfl rfl zr56 H (fun b39 w H => (s_st rfl rfl rfl ty56 rfl rfl H rfl (Nat.le_of_ble_eq_true rfl) (fun u hu => by simp [Value.cells] at hu; rcases hu with rfl | rfl <;> rfl) (fun w H => ?_)))))
  replace H : Hd _ _ _ [blk b39 [.string x36.key, .string x36.val] 56, osl kPair q out, blk b26 [.slice A1 J.us.length c2, .int .i64 J.parts, .slice A6 J.map.length c7, .slice A11 J.comb.length c12, .slice A16 J.red.length c17, .int .i64 J.chunk, .int .i64 J.window, .int .i64 J.fuel, .slice A21 J.marks.length c22] 43] [rsl kPair (.slice A30 x27.length c31) x27, rsl (kHd kPair) (.slice A1 J.us.length c2) J.us, rsl kIns (.slice A6 J.map.length c7) J.map, rsl kIns (.slice A11 J.comb.length c12) J.comb, rsl kIns (.slice A16 J.red.length c17) J.red, rsl (kInt .i64) (.slice A21 J.marks.length c22) J.marks, gl] := H
  refine s_nil (q_then (c_seq (c_reg (s_val rfl rfl (r_fa rfl fo43_2 rfl) (s_val rfl rfl (r_ld rfl ty22 rfl (H.cellI 2 rfl rfl)) (s_val rfl rfl (r_fa rfl fo56_0 rfl) (s_val rfl rfl (r_ld rfl ty9 rfl (H.cellI 0 rfl rfl)) (s_val rfl rfl (r_fa rfl fo56_1 rfl) (s_val rfl rfl (r_ld rfl ty9 rfl (H.cellI 0 rfl rfl)) (s_bsl (parts := [(0, .tmp 27)]) (vs := [.string x36.val]) (cs := [.string x36.val]) rfl rfl rfl sl75 zr9 rfl (by decide) (by decide) rfl rfl H (fun b40 w H => (s_val rfl rfl (r_fa rfl fo43_7 rfl) (s_val rfl rfl (r_ld rfl ty3 rfl (H.cellI 3 rfl rfl)) (sc (vmRun_ok (.slice A6 J.map.length c7) J.map x36.key (.slice (some ⟨b40, 0, none⟩) 1 1) [x36.val] J.fuel hJ.map hJ.f64) H (lR 2 rfl (lA 0 rfl (fun F h => blk_rsl h rfl (by decide) (RepsR.flat_eq.2 rfl)) (lR 6 rfl l0))) rfl rfl (e_fn kn54 rfl rfl) ?_))))))))))))))
  rintro _ _ w ⟨u41, rfl, rfl⟩ H
  replace H := H.h2 (A := osl kPair u41 ((runM dg J.map x36.key [x36.val] J.fuel).1)) (B := blk b40 [.string x36.val] 9)
  have hrt := run_told dg J.map x36.key [x36.val] J.fuel
  refine s_k 5 rfl (s_nil (q_then (c_seq (c_seq (c_reg (s_1 rfl (s_val rfl rfl (r_ne rfl rfl rfl) (s_nil (q_then ?_)))))))))
  refine c_dec rfl (fun h42 => ?_) (fun h42 => ?_)
  ·refine c_seq (c_reg (s_k 3 rfl (s_nil (q_then (c_ret (q_thenR (q_blockR (q_thenR (q_thenR (q_blockR (q_thenR (q_ret2 rfl rfl rfl ?_))))))))))))
   have e : mapM dg J s = ([], (runM dg J.map x36.key [x36.val] J.fuel).2) := by unfold mapM; rw [hrec]; exact hgo.symm.trans (map_why hx37 h42)
   replace H := H.nil |>.newnil kPair |>.dropR
   replace H : Hd _ _ _ [osl kPair (.slice none 0 0) []] [rsl (kHd kPair) (.slice A1 J.us.length c2) J.us, rsl kIns (.slice A6 J.map.length c7) J.map, rsl kIns (.slice A11 J.comb.length c12) J.comb, rsl kIns (.slice A16 J.red.length c17) J.red, rsl (kInt .i64) (.slice A21 J.marks.length c22) J.marks, gl] := H
   exact fin ⟨_, by rw [e] <;> rfl, by rw [e] <;> rfl⟩ H
  refine c_skip (q_then (c_seq (c_reg (s_k 2 rfl ?_))))
  replace H := H.p3
  obtain ⟨A43, c44, rfl, hc45, hm46, hp47⟩ := H.fA 1 rfl
  refine s_appF (xs := out) (ys := (runM dg J.map x36.key [x36.val] J.fuel).1) rfl rfl rfl sl23 zr56 rfl (by decide) rfl rfl H (by first | omega | (rw [List.length_append]; omega)) (fun F hA hR => own_rd F (hA _ (List.mem_of_getElem? (i := 0) rfl))) (fun v48 w H => (s_1 rfl (s_nil (q_then ?_))))
  replace H : Hd _ _ _ [osl kPair v48 (out ++ ((runM dg J.map x36.key [x36.val] J.fuel).1)), osl kPair (.slice A43 (((runM dg J.map x36.key [x36.val] J.fuel).1).length) c44) ((runM dg J.map x36.key [x36.val] J.fuel).1), blk b40 [.string x36.val] 9, blk b39 [.string x36.key, .string x36.val] 56, blk b26 [.slice A1 J.us.length c2, .int .i64 J.parts, .slice A6 J.map.length c7, .slice A11 J.comb.length c12, .slice A16 J.red.length c17, .int .i64 J.chunk, .int .i64 J.window, .int .i64 J.fuel, .slice A21 J.marks.length c22] 43] [rsl kPair (.slice A30 x27.length c31) x27, rsl (kHd kPair) (.slice A1 J.us.length c2) J.us, rsl kIns (.slice A6 J.map.length c7) J.map, rsl kIns (.slice A11 J.comb.length c12) J.comb, rsl kIns (.slice A16 J.red.length c17) J.red, rsl (kInt .i64) (.slice A21 J.marks.length c22) J.marks, gl] := H
  refine c_seq (c_reg (s_1 rfl ?_))
  obtain ⟨A49, c50, rfl, hc51, hm52, hp53⟩ := H.fA 0 rfl
  refine s_val rfl rfl (r_lenL rfl un23 rfl) (s_val rfl rfl (r_gt rfl rfl rfl) (s_nil (q_then ?_)))
  refine c_dec rfl (fun h54 => ?_) (fun h54 => ?_)
  ·refine c_seq (c_reg (s_k 2 rfl (s_nil (q_then (c_ret (q_blockR (q_thenR (q_thenR (q_blockR (q_thenR (q_ret2 rfl rfl rfl ?_)))))))))))
   have hap : (out ++ (runM dg J.map x36.key [x36.val] J.fuel).1).length = out.length + (runM dg J.map x36.key [x36.val] J.fuel).1.length := List.length_append
   have e : mapM dg J s = ([], 5) := by unfold mapM; rw [hrec]; exact hgo.symm.trans (map_many hx37 h42 (by omega))
   replace H := H.nil |>.newnil kPair |>.dropR
   replace H : Hd _ _ _ [osl kPair (.slice none 0 0) []] [rsl (kHd kPair) (.slice A1 J.us.length c2) J.us, rsl kIns (.slice A6 J.map.length c7) J.map, rsl kIns (.slice A11 J.comb.length c12) J.comb, rsl kIns (.slice A16 J.red.length c17) J.red, rsl (kInt .i64) (.slice A21 J.marks.length c22) J.marks, gl] := H
   exact fin ⟨_, by rw [e] <;> rfl, by rw [e] <;> rfl⟩ H
  refine c_skip (q_blockN (q_then (c_reg (s_val rfl rfl (r_add (z := ((i + 1 : Nat) : Int)) rfl rfl rfl (by rw [w64 (by omega) (by omega)]; omega)) (s_1 rfl (s_nil ?_))))))
  replace H := H.p4.p1.k2
  have hap : (out ++ (runM dg J.map x36.key [x36.val] J.fuel).1).length = out.length + (runM dg J.map x36.key [x36.val] J.fuel).1.length := List.length_append
  have hl2 : (out ++ (runM dg J.map x36.key [x36.val] J.fuel).1).length ≤ 40 := by omega
  have hg2 := (map_on (out := out) hx37 h42 (by omega)).trans hgo
  exact q_round (s := (i, undef, out)) (i + 1, .slice A49 ((out ++ ((runM dg J.map x36.key [x36.val] J.fuel).1)).length) c50, out ++ (runM dg J.map x36.key [x36.val] J.fuel).1) ⟨rfl, rfl, rfl, rfl, rfl, trivial⟩ ⟨H, by (try dsimp only); omega, hg2, hl2⟩ (by (try dsimp only); omega)
 refine c_exit (q_thenE (q_thenE (q_blockE (q_then (c_seq (c_reg (s_k 3 rfl (s_nil (q_then (c_ret (q_ret2 rfl rfl rfl ?_)))))))))))
 replace H := H.k1
 have e : mapM dg J s = (out, 0) := by unfold mapM; rw [hrec]; exact hgo.symm.trans (map_end (by omega))
 replace H := H.dropR
 replace H : Hd _ _ _ [osl kPair q out] [rsl (kHd kPair) (.slice A1 J.us.length c2) J.us, rsl kIns (.slice A6 J.map.length c7) J.map, rsl kIns (.slice A11 J.comb.length c12) J.comb, rsl kIns (.slice A16 J.red.length c17) J.red, rsl (kInt .i64) (.slice A21 J.marks.length c22) J.marks, gl] := H
 exact fin ⟨_, by rw [e] <;> rfl, by rw [e] <;> rfl⟩ H
theorem split_ok (vS vM vC vR vK : Value) (J : Job) (hJ : OkJ J) (s : Nat) (hs : s < J.us.length) :
    Cn Tryz.prog 25 [.agg #[vS, .int .i64 J.parts, vM, vC, vR, .int .i64 J.chunk, .int .i64 J.window, .int .i64 J.fuel, vK], .int .i64 ((s : Nat) : Int)] [] [rsl (kHd kPair) vS J.us, rsl kIns vM J.map, rsl kIns vC J.comb, rsl kIns vR J.red, rsl (kInt .i64) vK J.marks, gl] (fun v Bs => ∃ u, v = .tuple #[u, .int .i64 (splitM dg J s).2] ∧ Bs = [osl kPair u (splitM dg J s).1]) := by
 intro w0 F0 H
 obtain ⟨A1, c2, rfl, hc3, hm4, hp5⟩ := H.fR 0 rfl
 obtain ⟨A6, c7, rfl, hc8, hm9, hp10⟩ := H.fR 1 rfl
 obtain ⟨A11, c12, rfl, hc13, hm14, hp15⟩ := H.fR 2 rfl
 obtain ⟨A16, c17, rfl, hc18, hm19, hp20⟩ := H.fR 3 rfl
 obtain ⟨A21, c22, rfl, hc23, hm24, hp25⟩ := H.fR 4 rfl
 have hus := hJ.us
 have hpt := hJ.parts
 have hfu := hJ.fuel
 refine enter Tryz.func25 rfl rfl (Nat.le_of_ble_eq_true rfl) (c_seq (c_reg (s_box rfl rfl rfl rfl H (fun b26 w H => (s_k 2 rfl (s_nil (q_then ?_)))))))
 replace H : Hd _ _ _ [blk b26 [.slice A1 J.us.length c2, .int .i64 J.parts, .slice A6 J.map.length c7, .slice A11 J.comb.length c12, .slice A16 J.red.length c17, .int .i64 J.chunk, .int .i64 J.window, .int .i64 J.fuel, .slice A21 J.marks.length c22] 43] [rsl (kHd kPair) (.slice A1 J.us.length c2) J.us, rsl kIns (.slice A6 J.map.length c7) J.map, rsl kIns (.slice A11 J.comb.length c12) J.comb, rsl kIns (.slice A16 J.red.length c17) J.red, rsl (kInt .i64) (.slice A21 J.marks.length c22) J.marks, gl] := H
 refine c_seq (c_seq (c_reg (s_val rfl rfl (r_ldA (cs := [.slice A1 J.us.length c2, .int .i64 J.parts, .slice A6 J.map.length c7, .slice A11 J.comb.length c12, .slice A16 J.red.length c17, .int .i64 J.chunk, .int .i64 J.window, .int .i64 J.fuel, .slice A21 J.marks.length c22]) rfl ty43 rfl rfl (H.cellsI 0 rfl rfl)) (sc (jmay_ok (.slice A1 J.us.length c2) (.slice A6 J.map.length c7) (.slice A11 J.comb.length c12) (.slice A16 J.red.length c17) (.slice A21 J.marks.length c22) J) H (lR 0 rfl (lR 1 rfl (lR 2 rfl (lR 3 rfl (lR 4 rfl l0))))) rfl rfl (e_fn kn22 rfl rfl) ?_))))
 rintro _ _ w ⟨rfl, rfl⟩ H
 refine s_val rfl rfl (r_notP rfl rfl) (s_1 rfl ?_)
 refine s_dec (d := 11) rfl (fun h27 => ?_) (fun h27 => ?_)
 ·exact (h27 hJ.may).elim
 refine s_1 rfl (s_val rfl rfl (r_lt rfl rfl rfl) (s_k 2 rfl ?_))
 refine s_dec (d := 15) rfl (fun h28 => ?_) (fun h28 => ?_)
 ·exfalso; omega
 refine s_1 rfl (s_val rfl rfl (r_fa rfl fo43_0 rfl) (s_val rfl rfl (r_ld rfl ty31 rfl (H.cellI 0 rfl rfl)) (s_val rfl rfl (r_lenL rfl un31 rfl) (s_val rfl rfl (r_ge rfl rfl rfl) (s_1 rfl (s_nil (q_then ?_)))))))
 refine c_dec rfl (fun h29 => ?_) (fun h29 => ?_)
 ·exfalso; omega
 refine c_skip (q_then (c_seq (c_reg (s_val rfl rfl (r_ldA (cs := [.slice A1 J.us.length c2, .int .i64 J.parts, .slice A6 J.map.length c7, .slice A11 J.comb.length c12, .slice A16 J.red.length c17, .int .i64 J.chunk, .int .i64 J.window, .int .i64 J.fuel, .slice A21 J.marks.length c22]) rfl ty43 rfl rfl (H.cellsI 0 rfl rfl)) (s_1 rfl (sc (mapped_ok (.slice A1 J.us.length c2) (.slice A6 J.map.length c7) (.slice A11 J.comb.length c12) (.slice A16 J.red.length c17) (.slice A21 J.marks.length c22) J hJ s (by omega)) H (lR 0 rfl (lR 1 rfl (lR 2 rfl (lR 3 rfl (lR 4 rfl (lR 5 rfl l0)))))) rfl rfl (e_fn kn49 rfl rfl) ?_))))))
 rintro _ _ w ⟨u30, rfl, rfl⟩ H
 refine s_k 5 rfl (s_nil (q_then ?_))
 replace H : Hd _ _ _ [osl kPair u30 ((mapM dg J s).1), blk b26 [.slice A1 J.us.length c2, .int .i64 J.parts, .slice A6 J.map.length c7, .slice A11 J.comb.length c12, .slice A16 J.red.length c17, .int .i64 J.chunk, .int .i64 J.window, .int .i64 J.fuel, .slice A21 J.marks.length c22] 43] [rsl (kHd kPair) (.slice A1 J.us.length c2) J.us, rsl kIns (.slice A6 J.map.length c7) J.map, rsl kIns (.slice A11 J.comb.length c12) J.comb, rsl kIns (.slice A16 J.red.length c17) J.red, rsl (kInt .i64) (.slice A21 J.marks.length c22) J.marks, gl] := H
 refine c_seq (c_seq (c_reg (s_1 rfl (s_val rfl rfl (r_ne rfl rfl rfl) (s_nil (q_then ?_))))))
 refine c_dec rfl (fun h31 => ?_) (fun h31 => ?_)
 ·refine c_seq (c_reg (s_k 3 rfl (s_nil (q_then (c_ret (q_thenR (q_ret2 rfl rfl rfl ?_)))))))
  have e : splitM dg J s = ([], (mapM dg J s).2) := if_pos h31
  replace H := H.nil |>.newnil kPair
  exact fin ⟨_, by rw [e] <;> rfl, by rw [e] <;> rfl⟩ H
 refine c_skip (q_then (c_seq (c_reg (s_val rfl rfl (r_fa rfl fo43_3 rfl) (s_val rfl rfl (r_ld rfl ty22 rfl (H.cellI 1 rfl rfl)) (s_1 rfl (s_val rfl rfl (r_fa rfl fo43_7 rfl) (s_val rfl rfl (r_ld rfl ty3 rfl (H.cellI 1 rfl rfl)) ?_))))))))
 have hml := mapM_len dg J s
 refine sc (foldCombine_ok (.slice A11 J.comb.length c12) J.comb u30 ((mapM dg J s).1) J.fuel hJ.comb hJ.f64 (by omega)) H (lR 2 rfl (lA 0 rfl own_rd (lR 5 rfl l0))) rfl rfl (e_fn kn11 rfl rfl) ?_
 rintro _ _ w ⟨u32, rfl, rfl⟩ H
 replace H := H.h1 (A := osl kPair u32 ((combM dg J.comb (mapM dg J s).1 J.fuel).1))
 refine s_k 4 rfl (s_nil (q_then (c_ret (q_ret2 rfl rfl rfl ?_))))
 have e : splitM dg J s = combM dg J.comb (mapM dg J s).1 J.fuel := if_neg h31
 replace H := H.k1
 exact fin ⟨_, by rw [e] <;> rfl, by rw [e] <;> rfl⟩ H
theorem jrun_ok (vS vM vC vR vK : Value) (J : Job) (hJ : OkJ J) (s : Nat) (p : Int) (hs : s < J.us.length) :
    Cn Tryz.prog 26 [.agg #[vS, .int .i64 J.parts, vM, vC, vR, .int .i64 J.chunk, .int .i64 J.window, .int .i64 J.fuel, vK], .int .i64 ((s : Nat) : Int), .int .i64 p] [] [rsl (kHd kPair) vS J.us, rsl kIns vM J.map, rsl kIns vC J.comb, rsl kIns vR J.red, rsl (kInt .i64) vK J.marks, gl] (fun v Bs => ∃ u, v = .tuple #[u, .int .i64 (runJ dg J s p).2] ∧ Bs = [osl kPair u (runJ dg J s p).1]) := by
 intro w0 F0 H
 obtain ⟨A1, c2, rfl, hc3, hm4, hp5⟩ := H.fR 0 rfl
 obtain ⟨A6, c7, rfl, hc8, hm9, hp10⟩ := H.fR 1 rfl
 obtain ⟨A11, c12, rfl, hc13, hm14, hp15⟩ := H.fR 2 rfl
 obtain ⟨A16, c17, rfl, hc18, hm19, hp20⟩ := H.fR 3 rfl
 obtain ⟨A21, c22, rfl, hc23, hm24, hp25⟩ := H.fR 4 rfl
 have hus := hJ.us
 have hpt := hJ.parts
 have hfu := hJ.fuel
 refine enter Tryz.func26 rfl rfl (Nat.le_of_ble_eq_true rfl) (c_seq (c_reg (s_box rfl rfl rfl rfl H (fun b26 w H => (s_k 2 rfl (s_nil (q_then ?_)))))))
 replace H : Hd _ _ _ [blk b26 [.slice A1 J.us.length c2, .int .i64 J.parts, .slice A6 J.map.length c7, .slice A11 J.comb.length c12, .slice A16 J.red.length c17, .int .i64 J.chunk, .int .i64 J.window, .int .i64 J.fuel, .slice A21 J.marks.length c22] 43] [rsl (kHd kPair) (.slice A1 J.us.length c2) J.us, rsl kIns (.slice A6 J.map.length c7) J.map, rsl kIns (.slice A11 J.comb.length c12) J.comb, rsl kIns (.slice A16 J.red.length c17) J.red, rsl (kInt .i64) (.slice A21 J.marks.length c22) J.marks, gl] := H
 refine c_seq (c_reg (s_val rfl rfl (r_ldA (cs := [.slice A1 J.us.length c2, .int .i64 J.parts, .slice A6 J.map.length c7, .slice A11 J.comb.length c12, .slice A16 J.red.length c17, .int .i64 J.chunk, .int .i64 J.window, .int .i64 J.fuel, .slice A21 J.marks.length c22]) rfl ty43 rfl rfl (H.cellsI 0 rfl rfl)) (s_1 rfl (sc (split_ok (.slice A1 J.us.length c2) (.slice A6 J.map.length c7) (.slice A11 J.comb.length c12) (.slice A16 J.red.length c17) (.slice A21 J.marks.length c22) J hJ s (by omega)) H (lR 0 rfl (lR 1 rfl (lR 2 rfl (lR 3 rfl (lR 4 rfl (lR 5 rfl l0)))))) rfl rfl (e_fn kn25 rfl rfl) ?_))))
 rintro _ _ w ⟨u27, rfl, rfl⟩ H
 replace H := H.h1 (A := osl kPair u27 ((splitM dg J s).1))
 refine s_k 5 rfl (s_nil (q_then (c_seq (c_seq (c_reg (s_1 rfl (s_val rfl rfl (r_ne rfl rfl rfl) (s_nil (q_then ?_)))))))))
 refine c_dec rfl (fun h28 => ?_) (fun h28 => ?_)
 ·refine c_seq (c_reg (s_k 3 rfl (s_nil (q_then (c_ret (q_thenR (q_ret2 rfl rfl rfl ?_)))))))
  have e : runJ dg J s p = ([], (splitM dg J s).2) := if_pos h28
  replace H := H.nil |>.newnil kPair
  exact fin ⟨_, by rw [e] <;> rfl, by rw [e] <;> rfl⟩ H
 refine c_skip (q_then (c_seq (c_reg (s_1 rfl (s_val rfl rfl (r_fa rfl fo43_1 rfl) (s_val rfl rfl (r_ld rfl ty3 rfl (H.cellI 1 rfl rfl)) (s_1 rfl ?_)))))))
 have hsl := split_len dg J s
 have hsk : ∀ x ∈ (splitM dg J s).1, x.key.size ≤ 9223372036854775807 := fun x hx => by have := (split_small num_in hJ s x hx).1; omega
 refine sc (only_ok u27 ((splitM dg J s).1) J.parts p (by omega) (by omega) hsk) H (lA 0 rfl own_rd l0) rfl rfl (e_fn kn28 rfl rfl) ?_
 rintro u29 _ w rfl H
 replace H := H.h1 (A := osl kPair u29 (onlyM dg J s p))
 refine s_k 2 rfl (s_nil (q_then (c_ret (q_ret2 rfl rfl rfl ?_))))
 have e : runJ dg J s p = (onlyM dg J s p, 0) := if_neg h28
 replace H := H.k1
 exact fin ⟨_, by rw [e] <;> rfl, by rw [e] <;> rfl⟩ H
theorem indexI_ok (v : Value) (xs : List Int) (x : Int) :
    Cn Tryz.prog 76 [v, .int .i64 x] [] [rsl (kInt .i64) v xs] (fun v Bs => v = .int .i64 (fidx (fun y => decide (x = y)) xs) ∧ Bs = []) := by
 intro w0 F0 H
 obtain ⟨A1, c2, rfl, hc3, hm4, hp5⟩ := H.fR 0 rfl
 refine enter Tryz.func76 rfl rfl (Nat.le_of_ble_eq_true rfl) (c_seq (c_reg (s_1 rfl (s_nil (q_then ?_)))))
 replace H : Hd _ _ _ [] [rsl (kInt .i64) (.slice A1 xs.length c2) xs] := H
 refine c_seq (c_seq (c_reg (s_1 rfl (s_val rfl rfl (r_lenL rfl un41 rfl) (s_1 rfl (s_nil (q_then (c_block (c_loop (σ := Nat) (fun k => [(0, .slice A1 xs.length c2), (1, .int .i64 x), (7, .int .i64 ((xs.length : Nat) : Int)), (8, .int .i64 ((k : Nat) : Int))]) (fun k w => (Hd w0 F0 w [] [rsl (kInt .i64) (.slice A1 xs.length c2) xs]) ∧ (k ≤ xs.length) ∧ (∀ y ∈ xs.take k, (fun y => decide (x = y)) y = false)) (fun k => xs.length - k) 0 ⟨rfl, rfl, rfl, rfl, trivial⟩ ⟨H, by omega, by simp⟩ ?_)))))))))
 rintro k w ⟨H, hk, hn⟩
 refine c_seq (c_reg (s_val rfl rfl (r_lt rfl rfl rfl) (s_nil (q_then (c_seq ?_)))))
 refine c_dec rfl (fun h6 => ?_) (fun h6 => ?_)
 ·refine c_skip (q_then (c_seq (c_block (c_seq (c_reg (s_k 2 rfl (s_nil (q_then (c_seq (c_reg (s_k 3 rfl ?_)))))))))))
  obtain ⟨x7, hx8⟩ : ∃ z9, xs[k]? = some z9 := ⟨_, List.getElem?_eq_getElem (show k < xs.length by omega)⟩
  have th9 := H.thR 0 rfl hx8
  refine s_val rfl rfl (r_iaE (p := oOf A1 + k * 1) rfl sl41 rfl rfl (by omega) (by omega) th9 rfl) (s_val rfl rfl (r_ld rfl ty3 rfl (H.elR 0 rfl hx8 (q := 0) rfl rfl)) (s_val rfl rfl (r_eq rfl rfl rfl) (s_nil (q_then ?_))))
  refine c_dec rfl (fun h10 => ?_) (fun h10 => ?_)
  ·exact c_seq (c_reg (s_k 2 rfl (s_nil (q_then (c_ret (q_blockR (q_thenR (q_thenR (q_blockR (q_thenR (q_ret1 rfl rfl (fin ⟨by rw [fidx_hit (p := (fun y => decide (x = y))) hn hx8 (decide_eq_true h10)] <;> rfl, rfl⟩ H))))))))))))
  exact c_skip (q_blockN (q_then (c_reg (s_val rfl rfl (r_add (z := ((k + 1 : Nat) : Int)) rfl rfl rfl (by rw [w64 (by omega) (by omega)]; omega)) (s_1 rfl (s_nil (q_round (s := k) (k + 1) ⟨rfl, rfl, rfl, rfl, trivial⟩ ⟨H, by omega, take_false (p := (fun y => decide (x = y))) hn hx8 (decide_eq_false h10)⟩ (by (try dsimp only); omega))))))))
 refine c_exit (q_thenE (q_thenE (q_blockE (q_then (c_seq (c_reg (s_1 rfl (s_nil (q_then (c_ret (q_ret1 rfl rfl ?_)))))))))))
 have hn2 : ∀ y ∈ xs, (fun y => decide (x = y)) y = false := by rw [← take_all (xs := xs) (k := k) (by omega)]; exact hn
 exact fin ⟨by rw [fidx_miss hn2] <;> rfl, rfl⟩ H
theorem containsI_ok (v : Value) (xs : List Int) (x : Int) :
    Cn Tryz.prog 59 [v, .int .i64 x] [] [rsl (kInt .i64) v xs] (fun v Bs => v = .bool (decide (x ∈ xs)) ∧ Bs = []) := by
 intro w0 F0 H
 refine enter Tryz.func59 rfl rfl (Nat.le_of_ble_eq_true rfl) (c_seq (c_reg (s_1 rfl (s_nil (q_then (c_seq (c_reg (s_k 2 rfl (sc (indexI_ok v xs x) H (lR 0 rfl l0) rfl rfl (e_fn kn76 rfl rfl) ?_)))))))))
 rintro _ _ w ⟨rfl, rfl⟩ H
 refine s_val rfl rfl (r_ge rfl rfl rfl) (s_1 rfl (s_nil (q_then (c_ret (q_ret1 rfl rfl ?_)))))
 have e : decide (0 ≤ fidx (fun y => decide (x = y)) xs) = decide (x ∈ xs) := by rw [fidx_nonneg]; rw [Bool.eq_iff_iff]; simp
 exact fin ⟨congrArg Value.bool e, rfl⟩ H
theorem all_ok (n : Nat) (hn : n ≤ 1000) :
    Cn Tryz.prog 48 [.int .i64 ((n : Nat) : Int)] [] [] (fun v Bs => Bs = [osl (kInt .i64) v (upto n)]) := by
 intro w0 F0 H
 refine enter Tryz.func48 rfl rfl (Nat.le_of_ble_eq_true rfl) (c_seq (c_reg (s_1 rfl (s_nil (q_then (c_seq (c_reg (s_1 rfl (s_nil (q_then (c_seq (c_seq (c_reg (s_k 2 rfl (s_nil (q_then (c_block ?_)))))))))))))))))
 replace H := H.newnil (kInt .i64)
 refine c_loop (σ := Nat × Value) (fun (i, q) => [(2, .slice none 0 0), (3, q), (5, .int .i64 ((n : Nat) : Int)), (6, .int .i64 ((i : Nat) : Int))]) (fun (i, q) w => (Hd w0 F0 w [osl (kInt .i64) q (upto i)] []) ∧ (i ≤ n)) (fun (i, q) => n - i) (0, .slice none 0 0) ⟨rfl, rfl, rfl, rfl, trivial⟩ ⟨H, Nat.zero_le _⟩ ?_
 rintro ⟨i, q⟩ w ⟨H, hi⟩
 have hul := upto_len i
 refine c_seq (c_reg (s_val rfl rfl (r_lt rfl rfl rfl) (s_nil (q_then (c_seq ?_)))))
 refine c_dec rfl (fun h1 => ?_) (fun h1 => ?_)
 ·refine c_skip (q_then (c_seq (c_block (c_seq (c_reg (s_k 2 rfl (s_nil (q_then (c_reg (s_k 2 rfl (s_bsl (parts := [(0, .tmp 10)]) (vs := [.int .i64 ((i : Nat) : Int)]) (cs := [.int .i64 ((i : Nat) : Int)]) rfl rfl rfl sl41 zr3 rfl (by decide) (by decide) rfl rfl H (fun b2 w H => ?_))))))))))))
  replace H := H.p1
  refine s_appF (xs := upto i) (ys := [((i : Nat) : Int)]) rfl rfl rfl sl41 zr3 rfl (by decide) rfl rfl H (by first | omega | (rw [List.length_append]; omega)) (fun F hA hR => blk_rsl (hA _ (List.mem_of_getElem? (i := 0) rfl)) rfl (by decide) (RepsR.flat_eq.2 rfl)) (fun v3 w H => (s_1 rfl (s_nil (q_blockN (q_then ?_)))))
  replace H : Hd _ _ _ [osl (kInt .i64) v3 ((upto i) ++ [((i : Nat) : Int)]), blk b2 [.int .i64 ((i : Nat) : Int)] 3] [] := H
  refine c_reg (s_val rfl rfl (r_add (z := ((i + 1 : Nat) : Int)) rfl rfl rfl (by rw [w64 (by omega) (by omega)]; omega)) (s_1 rfl (s_nil ?_)))
  replace H := H.k1
  replace H : Hd w0 F0 w [osl (kInt .i64) v3 (upto (i + 1))] [] := by rw [upto_succ]; exact H
  exact q_round (s := (i, undef)) (i + 1, v3) ⟨rfl, rfl, rfl, rfl, trivial⟩ ⟨H, by (try dsimp only); omega⟩ (by (try dsimp only); omega)
 refine c_exit (q_thenE (q_thenE (q_blockE (q_then (c_seq (c_reg (s_k 2 rfl (s_nil (q_then (c_ret (q_ret1 rfl rfl ?_)))))))))))
 obtain rfl : i = n := by omega
 exact fin rfl H
theorem part_ok (vS vM vC vR vK : Value) (J : Job) (hJ : OkJ J) (p : Nat) (hp : (p : Int) < J.parts) (hsp : ∀ s, s < J.us.length → (splitM dg J s).2 = 0) (vl : Value) :
    Cn Tryz.prog 47 [.agg #[vS, .int .i64 J.parts, vM, vC, vR, .int .i64 J.chunk, .int .i64 J.window, .int .i64 J.fuel, vK], .int .i64 ((p : Nat) : Int), vl] [] [rsl (kHd kPair) vS J.us, rsl kIns vM J.map, rsl kIns vC J.comb, rsl kIns vR J.red, rsl (kInt .i64) vK J.marks, rsl (kInt .i64) vl (upto J.us.length), gl] (fun v Bs => ∃ u, v = .tuple #[u, .int .i64 (partM dg J p).2] ∧ Bs = [osl kPair u (partM dg J p).1]) := by
 intro w0 F0 H
 obtain ⟨A1, c2, rfl, hc3, hm4, hp5⟩ := H.fR 0 rfl
 obtain ⟨A6, c7, rfl, hc8, hm9, hp10⟩ := H.fR 1 rfl
 obtain ⟨A11, c12, rfl, hc13, hm14, hp15⟩ := H.fR 2 rfl
 obtain ⟨A16, c17, rfl, hc18, hm19, hp20⟩ := H.fR 3 rfl
 obtain ⟨A21, c22, rfl, hc23, hm24, hp25⟩ := H.fR 4 rfl
 obtain ⟨A26, c27, rfl, hc28, hm29, hp30⟩ := H.fR 5 rfl
 have hus := hJ.us
 have hpt := hJ.parts
 have hfu := hJ.fuel
 refine enter Tryz.func47 rfl rfl (Nat.le_of_ble_eq_true rfl) (c_seq (c_reg (s_box rfl rfl rfl rfl H (fun b31 w H => (s_k 2 rfl (s_nil (q_then ?_)))))))
 replace H : Hd _ _ _ [blk b31 [.slice A1 J.us.length c2, .int .i64 J.parts, .slice A6 J.map.length c7, .slice A11 J.comb.length c12, .slice A16 J.red.length c17, .int .i64 J.chunk, .int .i64 J.window, .int .i64 J.fuel, .slice A21 J.marks.length c22] 43] [rsl (kHd kPair) (.slice A1 J.us.length c2) J.us, rsl kIns (.slice A6 J.map.length c7) J.map, rsl kIns (.slice A11 J.comb.length c12) J.comb, rsl kIns (.slice A16 J.red.length c17) J.red, rsl (kInt .i64) (.slice A21 J.marks.length c22) J.marks, rsl (kInt .i64) (.slice A26 ((upto J.us.length).length) c27) (upto J.us.length), gl] := H
 refine c_seq (c_seq (c_reg (s_val rfl rfl (r_ldA (cs := [.slice A1 J.us.length c2, .int .i64 J.parts, .slice A6 J.map.length c7, .slice A11 J.comb.length c12, .slice A16 J.red.length c17, .int .i64 J.chunk, .int .i64 J.window, .int .i64 J.fuel, .slice A21 J.marks.length c22]) rfl ty43 rfl rfl (H.cellsI 0 rfl rfl)) (sc (jmay_ok (.slice A1 J.us.length c2) (.slice A6 J.map.length c7) (.slice A11 J.comb.length c12) (.slice A16 J.red.length c17) (.slice A21 J.marks.length c22) J) H (lR 0 rfl (lR 1 rfl (lR 2 rfl (lR 3 rfl (lR 4 rfl l0))))) rfl rfl (e_fn kn22 rfl rfl) ?_))))
 rintro _ _ w ⟨rfl, rfl⟩ H
 refine s_val rfl rfl (r_notP rfl rfl) (s_1 rfl ?_)
 refine s_dec (d := 15) rfl (fun h32 => ?_) (fun h32 => ?_)
 ·exact (h32 hJ.may).elim
 refine s_1 rfl (s_val rfl rfl (r_lt rfl rfl rfl) (s_k 2 rfl ?_))
 refine s_dec (d := 19) rfl (fun h33 => ?_) (fun h33 => ?_)
 ·exfalso; omega
 refine s_1 rfl (s_val rfl rfl (r_fa rfl fo43_1 rfl) (s_val rfl rfl (r_ld rfl ty3 rfl (H.cellI 0 rfl rfl)) (s_val rfl rfl (r_ge rfl rfl rfl) (s_1 rfl (s_nil (q_then ?_))))))
 refine c_dec rfl (fun h34 => ?_) (fun h34 => ?_)
 ·exfalso; omega
 refine c_skip (q_then (c_seq (c_reg (s_1 rfl (s_nil (q_then (c_seq (c_seq (c_reg (s_val rfl rfl (r_fa rfl fo43_0 rfl) (s_val rfl rfl (r_ld rfl ty31 rfl (H.cellI 0 rfl rfl)) (s_val rfl rfl (r_lenL rfl un31 rfl) (s_1 rfl (s_nil (q_then (c_block ?_))))))))))))))))
 replace H := H.newnil (kHd kPair)
 refine c_loop (σ := Nat × Value × List (Value × List Pair)) (fun (k, q, zs) => [(1, .int .i64 ((p : Nat) : Int)), (2, .slice A26 ((upto J.us.length).length) c27), (3, .pointer (some ⟨b31, 0, none⟩)), (8, q), (27, .int .i64 ((J.us.length : Nat) : Int)), (28, .int .i64 ((k : Nat) : Int))]) (fun (k, q, zs) w => (Hd w0 F0 w [osl (kHd kPair) q zs, blk b31 [.slice A1 J.us.length c2, .int .i64 J.parts, .slice A6 J.map.length c7, .slice A11 J.comb.length c12, .slice A16 J.red.length c17, .int .i64 J.chunk, .int .i64 J.window, .int .i64 J.fuel, .slice A21 J.marks.length c22] 43] [rsl (kHd kPair) (.slice A1 J.us.length c2) J.us, rsl kIns (.slice A6 J.map.length c7) J.map, rsl kIns (.slice A11 J.comb.length c12) J.comb, rsl kIns (.slice A16 J.red.length c17) J.red, rsl (kInt .i64) (.slice A21 J.marks.length c22) J.marks, rsl (kInt .i64) (.slice A26 ((upto J.us.length).length) c27) (upto J.us.length), gl]) ∧ (k ≤ J.us.length ∧ zs.length = k) ∧ (flat2 zs = allOf dg J p k)) (fun (k, q, zs) => J.us.length - k) (0, .slice none 0 0, []) ⟨rfl, rfl, rfl, rfl, rfl, rfl, trivial⟩ ⟨H, ⟨Nat.zero_le _, rfl⟩, rfl⟩ ?_
 rintro ⟨k, q, zs⟩ w ⟨H, hk, hz⟩
 have hal := allOf_len dg J p k
 have hfz : (flat2 zs).length ≤ 40 * k := by rw [hz]; exact hal
 refine c_seq (c_reg (s_val rfl rfl (r_lt rfl rfl rfl) (s_nil (q_then (c_seq ?_)))))
 refine c_dec rfl (fun h35 => ?_) (fun h35 => ?_)
 ·refine c_skip (q_then (c_seq (c_block (c_seq (c_reg (s_k 2 rfl (s_nil (q_then (c_seq (c_seq (c_reg (s_k 2 rfl (sc (containsI_ok (.slice A26 ((upto J.us.length).length) c27) (upto J.us.length) ((k : Nat) : Int)) H (lR 5 rfl l0) rfl rfl (e_fn kn59 rfl rfl) ?_)))))))))))))
  rintro _ _ w ⟨rfl, rfl⟩ H
  refine s_val rfl rfl (r_notP rfl rfl) (s_nil (q_then ?_))
  refine c_dec rfl (fun h36 => ?_) (fun h36 => ?_)
  ·exact (h36 (upto_mem (by omega))).elim
  refine c_skip (q_then (c_seq (c_reg (s_val rfl rfl (r_ldA (cs := [.slice A1 J.us.length c2, .int .i64 J.parts, .slice A6 J.map.length c7, .slice A11 J.comb.length c12, .slice A16 J.red.length c17, .int .i64 J.chunk, .int .i64 J.window, .int .i64 J.fuel, .slice A21 J.marks.length c22]) rfl ty43 rfl rfl (H.cellsI 1 rfl rfl)) (s_k 2 rfl (sc (jrun_ok (.slice A1 J.us.length c2) (.slice A6 J.map.length c7) (.slice A11 J.comb.length c12) (.slice A16 J.red.length c17) (.slice A21 J.marks.length c22) J hJ k ((p : Nat) : Int) (by omega)) H (lR 0 rfl (lR 1 rfl (lR 2 rfl (lR 3 rfl (lR 4 rfl (lR 6 rfl l0)))))) rfl rfl (e_fn kn26 rfl rfl) ?_))))))
  rintro _ _ w ⟨u37, rfl, rfl⟩ H
  have hrj : runJ dg J k p = (onlyM dg J k p, 0) := if_neg (fun h => h (hsp k (by omega)))
  rw [hrj] at H ⊢
  replace H : Hd w0 F0 w [osl kPair u37 (onlyM dg J k p), osl (kHd kPair) q zs, blk b31 [.slice A1 J.us.length c2, .int .i64 J.parts, .slice A6 J.map.length c7, .slice A11 J.comb.length c12, .slice A16 J.red.length c17, .int .i64 J.chunk, .int .i64 J.window, .int .i64 J.fuel, .slice A21 J.marks.length c22] 43] [rsl (kHd kPair) (.slice A1 J.us.length c2) J.us, rsl kIns (.slice A6 J.map.length c7) J.map, rsl kIns (.slice A11 J.comb.length c12) J.comb, rsl kIns (.slice A16 J.red.length c17) J.red, rsl (kInt .i64) (.slice A21 J.marks.length c22) J.marks, rsl (kInt .i64) (.slice A26 ((upto J.us.length).length) c27) (upto J.us.length), gl] := H
  refine s_k 5 rfl (s_nil (q_then (c_seq (c_seq (c_reg (s_1 rfl (s_val rfl rfl (r_ne rfl rfl rfl) (s_nil (q_then (c_no rfl (c_skip (q_then (c_reg (s_k 2 rfl ?_))))))))))))))
  obtain ⟨A39, c40, rfl, hc41, hm42, hp43⟩ := H.fA 0 rfl
  refine s_bsl (parts := [(0, .tmp 46)]) (vs := [.slice A39 ((onlyM dg J k p).length) c40]) (cs := [.slice A39 ((onlyM dg J k p).length) c40]) rfl rfl rfl sl31 zr23 rfl (by decide) (by decide) rfl rfl H (fun b38 w H => ?_)
  replace H := H.p2
  replace H : Hd _ _ _ [osl (kHd kPair) q zs, blk b38 [.slice A39 ((onlyM dg J k p).length) c40] 23, osl kPair (.slice A39 ((onlyM dg J k p).length) c40) (onlyM dg J k p), blk b31 [.slice A1 J.us.length c2, .int .i64 J.parts, .slice A6 J.map.length c7, .slice A11 J.comb.length c12, .slice A16 J.red.length c17, .int .i64 J.chunk, .int .i64 J.window, .int .i64 J.fuel, .slice A21 J.marks.length c22] 43] [rsl (kHd kPair) (.slice A1 J.us.length c2) J.us, rsl kIns (.slice A6 J.map.length c7) J.map, rsl kIns (.slice A11 J.comb.length c12) J.comb, rsl kIns (.slice A16 J.red.length c17) J.red, rsl (kInt .i64) (.slice A21 J.marks.length c22) J.marks, rsl (kInt .i64) (.slice A26 ((upto J.us.length).length) c27) (upto J.us.length), gl] := H
  refine s_appH rfl rfl rfl sl31 zr23 rfl (by decide) rfl rfl H (by first | omega | (simp only [List.length_append, List.length_cons, List.length_nil]; omega)) (fun v44 w H => ?_)
  replace H := H.h1 (A := osl (kHd kPair) v44 (zs ++ [((.slice A39 ((onlyM dg J k p).length) c40 : Value), onlyM dg J k p)]))
  refine s_1 rfl (s_nil (q_blockN (q_then (c_reg (s_val rfl rfl (r_add (z := ((k + 1 : Nat) : Int)) rfl rfl rfl (by rw [w64 (by omega) (by omega)]; omega)) (s_1 rfl (s_nil ?_)))))))
  have hz2 : flat2 (zs ++ [((.slice A39 ((onlyM dg J k p).length) c40 : Value), onlyM dg J k p)]) = allOf dg J p (k + 1) := by rw [flat2_snoc, hz]; rfl
  exact q_round (s := (k, undef, zs)) (k + 1, v44, zs ++ [((.slice A39 ((onlyM dg J k p).length) c40 : Value), onlyM dg J k p)]) ⟨rfl, rfl, rfl, rfl, rfl, rfl, trivial⟩ ⟨H, by (try dsimp only); simp only [List.length_append, List.length_cons, List.length_nil]; omega, hz2⟩ (by (try dsimp only); omega)
 refine c_exit (q_thenE (q_thenE (q_blockE (q_then (c_seq (c_ord (.e 0 (.e 1 (.e 2 (.e 4 (.e 5 (.m 3 (.m 6 (.e 7 (.e 8 (.e 9 (.e 10 .z))))))))))) (fun w => ∃ Ar, Hd w0 F0 w (osl (kHd kPair) q zs :: blk b31 [.slice A1 J.us.length c2, .int .i64 J.parts, .slice A6 J.map.length c7, .slice A11 J.comb.length c12, .slice A16 J.red.length c17, .int .i64 J.chunk, .int .i64 J.window, .int .i64 J.fuel, .slice A21 J.marks.length c22] 43 :: Ar) [rsl (kHd kPair) (.slice A1 J.us.length c2) J.us, rsl kIns (.slice A6 J.map.length c7) J.map, rsl kIns (.slice A11 J.comb.length c12) J.comb, rsl kIns (.slice A16 J.red.length c17) J.red, rsl (kInt .i64) (.slice A21 J.marks.length c22) J.marks, rsl (kInt .i64) (.slice A26 ((upto J.us.length).length) c27) (upto J.us.length), gl]) mo (by kernel_rfl) (fun w H => ⟨_, H⟩) H (fun w H => (d_val rfl rfl rfl (fun w ⟨Ar, H⟩ => r_fa rfl fo43_4 rfl) (d_val rfl rfl rfl (fun w ⟨Ar, H⟩ => r_ld rfl ty22 rfl (H.cellI 1 rfl rfl)) ?_)))))))))
 refine d_1 rfl (d_val rfl rfl rfl (fun w ⟨Ar, H⟩ => r_fa rfl fo43_7 rfl) (d_val rfl rfl rfl (fun w ⟨Ar, H⟩ => r_ld rfl ty3 rfl (H.cellI 1 rfl rfl)) (d_main rfl (sc (runs_ok q zs (by first | omega | decide | exact Nat.le_trans (flat2_le _ _) (by omega) | exact Nat.le_trans (flat2_le' _ _) (by omega) | (simp only [flat2, List.flatMap_cons, List.flatMap_nil, List.append_nil, srt_len]; omega))) H (lA 0 rfl own_rd l0) rfl rfl (e_fn kn18 rfl rfl) ?_))))
 rintro v45 _ w rfl H
 replace H : Hd _ _ _ [osl kPair v45 (srt (flat2 zs)), osl (kHd kPair) q zs, blk b31 [.slice A1 J.us.length c2, .int .i64 J.parts, .slice A6 J.map.length c7, .slice A11 J.comb.length c12, .slice A16 J.red.length c17, .int .i64 J.chunk, .int .i64 J.window, .int .i64 J.fuel, .slice A21 J.marks.length c22] 43] [rsl (kHd kPair) (.slice A1 J.us.length c2) J.us, rsl kIns (.slice A6 J.map.length c7) J.map, rsl kIns (.slice A11 J.comb.length c12) J.comb, rsl kIns (.slice A16 J.red.length c17) J.red, rsl (kInt .i64) (.slice A21 J.marks.length c22) J.marks, rsl (kInt .i64) (.slice A26 ((upto J.us.length).length) c27) (upto J.us.length), gl] := H
 replace H := H.p2.p2
 refine d_back ⟨_, H⟩ (d_main rfl ?_)
 have hsl := srt_len (flat2 zs)
 refine sc (foldEach_ok (.slice A16 J.red.length c17) J.red v45 (srt (flat2 zs)) J.fuel hJ.red hJ.f64 (by rw [srt_len, hz]; omega)) H (lR 3 rfl (lA 2 rfl own_rd (lR 6 rfl l0))) rfl rfl (e_fn kn10 rfl rfl) ?_
 rintro _ _ w ⟨u46, rfl, rfl⟩ H
 replace H := H.h1 (A := osl kPair u46 ((eachM dg J.red (srt (flat2 zs)) J.fuel false).1)) |>.p2 |>.p2
 refine d_back ⟨_, H⟩ (d_1 rfl (d_1 rfl (d_1 rfl (d_1 rfl (d_nil (q_then (c_ret (q_ret2 rfl rfl rfl ?_))))))))
 obtain rfl : k = J.us.length := by omega
 have e : partM dg J p = eachM dg J.red (srt (flat2 zs)) J.fuel false := by rw [hz]; rfl
 replace H := H.p2.k1
 exact fin ⟨_, by rw [e] <;> rfl, by rw [e] <;> rfl⟩ H
theorem whole_ok (vS vM vC vR vK : Value) (J : Job) (hJ : OkJ J) :
    Cn Tryz.prog 24 [.agg #[vS, .int .i64 J.parts, vM, vC, vR, .int .i64 J.chunk, .int .i64 J.window, .int .i64 J.fuel, vK]] [] [rsl (kHd kPair) vS J.us, rsl kIns vM J.map, rsl kIns vC J.comb, rsl kIns vR J.red, rsl (kInt .i64) vK J.marks, gl] (fun v Bs => ∃ u zs, v = .tuple #[u, .int .i64 (wholeM dg J).2.1, .int .i64 (wholeM dg J).2.2] ∧ Bs = [osl (kHd kPair) u zs] ∧ zs.map (·.2) = (wholeM dg J).1) := by
 intro w0 F0 H
 obtain ⟨A1, c2, rfl, hc3, hm4, hp5⟩ := H.fR 0 rfl
 obtain ⟨A6, c7, rfl, hc8, hm9, hp10⟩ := H.fR 1 rfl
 obtain ⟨A11, c12, rfl, hc13, hm14, hp15⟩ := H.fR 2 rfl
 obtain ⟨A16, c17, rfl, hc18, hm19, hp20⟩ := H.fR 3 rfl
 obtain ⟨A21, c22, rfl, hc23, hm24, hp25⟩ := H.fR 4 rfl
 have hus := hJ.us
 have hpt := hJ.parts
 have hfu := hJ.fuel
 refine enter Tryz.func24 rfl rfl (Nat.le_of_ble_eq_true rfl) (c_seq (c_reg (s_box rfl rfl rfl rfl H (fun b26 w H => (s_k 3 rfl (s_nil (q_then ?_)))))))
 replace H : Hd _ _ _ [blk b26 [.slice A1 J.us.length c2, .int .i64 J.parts, .slice A6 J.map.length c7, .slice A11 J.comb.length c12, .slice A16 J.red.length c17, .int .i64 J.chunk, .int .i64 J.window, .int .i64 J.fuel, .slice A21 J.marks.length c22] 43] [rsl (kHd kPair) (.slice A1 J.us.length c2) J.us, rsl kIns (.slice A6 J.map.length c7) J.map, rsl kIns (.slice A11 J.comb.length c12) J.comb, rsl kIns (.slice A16 J.red.length c17) J.red, rsl (kInt .i64) (.slice A21 J.marks.length c22) J.marks, gl] := H
 refine c_seq (c_seq (c_reg (s_val rfl rfl (r_ldA (cs := [.slice A1 J.us.length c2, .int .i64 J.parts, .slice A6 J.map.length c7, .slice A11 J.comb.length c12, .slice A16 J.red.length c17, .int .i64 J.chunk, .int .i64 J.window, .int .i64 J.fuel, .slice A21 J.marks.length c22]) rfl ty43 rfl rfl (H.cellsI 0 rfl rfl)) (sc (jmay_ok (.slice A1 J.us.length c2) (.slice A6 J.map.length c7) (.slice A11 J.comb.length c12) (.slice A16 J.red.length c17) (.slice A21 J.marks.length c22) J) H (lR 0 rfl (lR 1 rfl (lR 2 rfl (lR 3 rfl (lR 4 rfl l0))))) rfl rfl (e_fn kn22 rfl rfl) ?_))))
 rintro _ _ w ⟨rfl, rfl⟩ H
 refine s_val rfl rfl (r_notP rfl rfl) (s_nil (q_then ?_))
 refine c_dec rfl (fun h27 => ?_) (fun h27 => ?_)
 ·exact (h27 hJ.may).elim
 refine c_skip (q_then (c_seq (c_seq (c_reg (s_val rfl rfl (r_fa rfl fo43_0 rfl) (s_val rfl rfl (r_ld rfl ty31 rfl (H.cellI 0 rfl rfl)) (s_val rfl rfl (r_lenL rfl un31 rfl) (s_1 rfl (s_nil (q_then (c_block (c_loop (σ := Nat) (fun s => [(1, .pointer (some ⟨b26, 0, none⟩)), (17, .int .i64 ((J.us.length : Nat) : Int)), (18, .int .i64 ((s : Nat) : Int))]) (fun s w => (Hd w0 F0 w [blk b26 [.slice A1 J.us.length c2, .int .i64 J.parts, .slice A6 J.map.length c7, .slice A11 J.comb.length c12, .slice A16 J.red.length c17, .int .i64 J.chunk, .int .i64 J.window, .int .i64 J.fuel, .slice A21 J.marks.length c22] 43] [rsl (kHd kPair) (.slice A1 J.us.length c2) J.us, rsl kIns (.slice A6 J.map.length c7) J.map, rsl kIns (.slice A11 J.comb.length c12) J.comb, rsl kIns (.slice A16 J.red.length c17) J.red, rsl (kInt .i64) (.slice A21 J.marks.length c22) J.marks, gl]) ∧ (s ≤ J.us.length) ∧ (wholeGo dg J (J.us.length - s) s = wholeM dg J) ∧ (∀ q, q < s → (splitM dg J q).2 = 0)) (fun s => J.us.length - s) 0 ⟨rfl, rfl, rfl, trivial⟩ ⟨H, Nat.zero_le _, rfl, fun q h => absurd h (Nat.not_lt_zero _)⟩ ?_))))))))))))
 rintro s w ⟨H, hs, hgo, hsp0⟩
 refine c_seq (c_reg (s_val rfl rfl (r_lt rfl rfl rfl) (s_nil (q_then (c_seq ?_)))))
 refine c_dec rfl (fun h28 => ?_) (fun h28 => ?_)
 ·refine c_skip (q_then (c_seq (c_block (c_seq (c_reg (s_k 2 rfl (s_nil (q_then (c_seq (c_reg (s_val rfl rfl (r_ldA (cs := [.slice A1 J.us.length c2, .int .i64 J.parts, .slice A6 J.map.length c7, .slice A11 J.comb.length c12, .slice A16 J.red.length c17, .int .i64 J.chunk, .int .i64 J.window, .int .i64 J.fuel, .slice A21 J.marks.length c22]) rfl ty43 rfl rfl (H.cellsI 0 rfl rfl)) (s_1 rfl (sc (split_ok (.slice A1 J.us.length c2) (.slice A6 J.map.length c7) (.slice A11 J.comb.length c12) (.slice A16 J.red.length c17) (.slice A21 J.marks.length c22) J hJ s (by omega)) H (lR 0 rfl (lR 1 rfl (lR 2 rfl (lR 3 rfl (lR 4 rfl (lR 5 rfl l0)))))) rfl rfl (e_fn kn25 rfl rfl) ?_)))))))))))))
  rintro _ _ w ⟨u29, rfl, rfl⟩ H
  refine s_k 5 rfl (s_nil (q_then ?_))
  replace H : Hd _ _ _ [osl kPair u29 ((splitM dg J s).1), blk b26 [.slice A1 J.us.length c2, .int .i64 J.parts, .slice A6 J.map.length c7, .slice A11 J.comb.length c12, .slice A16 J.red.length c17, .int .i64 J.chunk, .int .i64 J.window, .int .i64 J.fuel, .slice A21 J.marks.length c22] 43] [rsl (kHd kPair) (.slice A1 J.us.length c2) J.us, rsl kIns (.slice A6 J.map.length c7) J.map, rsl kIns (.slice A11 J.comb.length c12) J.comb, rsl kIns (.slice A16 J.red.length c17) J.red, rsl (kInt .i64) (.slice A21 J.marks.length c22) J.marks, gl] := H
  refine c_seq (c_reg (s_1 rfl (s_val rfl rfl (r_ne rfl rfl rfl) (s_nil (q_then ?_)))))
  refine c_dec rfl (fun h30 => ?_) (fun h30 => ?_)
  ·refine c_seq (c_reg (s_k 5 rfl (s_nil (q_then (c_ret (q_blockR (q_thenR (q_thenR (q_blockR (q_thenR (q_ret3 rfl rfl rfl rfl ?_)))))))))))
   replace H := H.nil |>.newnil (kHd kPair)
   have e : wholeM dg J = ([], (splitM dg J s).2, (s : Int)) := hgo.symm.trans (whole_bad (by omega) h30)
   exact fin ⟨_, [], by rw [e] <;> rfl, rfl, by rw [e]; rfl⟩ H
  refine c_skip (q_blockN (q_then (c_reg (s_val rfl rfl (r_add (z := ((s + 1 : Nat) : Int)) rfl rfl rfl (by rw [w64 (by omega) (by omega)]; omega)) (s_1 rfl (s_nil ?_))))))
  replace H := H.p1.k1
  have hg2 := (whole_on (by omega) h30).trans hgo
  have hs2 : ∀ q, q < s + 1 → (splitM dg J q).2 = 0 := fun q hq => by
    rcases Nat.lt_or_ge q s with h | h
    · exact hsp0 q h
    · obtain rfl : q = s := by omega
      exact Classical.not_not.1 h30
  exact q_round (s := s) (s + 1) ⟨rfl, rfl, rfl, trivial⟩ ⟨H, by (try dsimp only); omega, hg2, hs2⟩ (by (try dsimp only); omega)
 refine c_exit (q_thenE (q_thenE (q_blockE (q_then (c_seq (c_reg (s_1 rfl (s_nil (q_then (c_seq (c_seq (c_reg (s_val rfl rfl (r_fa rfl fo43_1 rfl) (s_val rfl rfl (r_ld rfl ty3 rfl (H.cellI 0 rfl rfl)) (s_1 rfl (s_nil (q_then (c_block ?_))))))))))))))))))
 have hgp : partsGo dg J J.parts.toNat 0 [] = wholeM dg J := (whole_end (by omega)).symm.trans hgo
 have hsp : ∀ q, q < J.us.length → (splitM dg J q).2 = 0 := fun q hq => hsp0 q (by omega)
 replace H := H.newnil (kHd kPair)
 refine c_loop (σ := Nat × Value × List (Value × List Pair)) (fun (p, q, zs) => [(1, .pointer (some ⟨b26, 0, none⟩)), (8, q), (33, .int .i64 J.parts), (34, .int .i64 ((p : Nat) : Int))]) (fun (p, q, zs) w => (Hd w0 F0 w [osl (kHd kPair) q zs, blk b26 [.slice A1 J.us.length c2, .int .i64 J.parts, .slice A6 J.map.length c7, .slice A11 J.comb.length c12, .slice A16 J.red.length c17, .int .i64 J.chunk, .int .i64 J.window, .int .i64 J.fuel, .slice A21 J.marks.length c22] 43] [rsl (kHd kPair) (.slice A1 J.us.length c2) J.us, rsl kIns (.slice A6 J.map.length c7) J.map, rsl kIns (.slice A11 J.comb.length c12) J.comb, rsl kIns (.slice A16 J.red.length c17) J.red, rsl (kInt .i64) (.slice A21 J.marks.length c22) J.marks, gl]) ∧ ((p : Int) ≤ J.parts ∧ zs.length = p) ∧ (partsGo dg J (J.parts.toNat - p) p (zs.map (·.2)) = wholeM dg J)) (fun (p, q, zs) => J.parts.toNat - p) (0, .slice none 0 0, []) ⟨rfl, rfl, rfl, rfl, trivial⟩ ⟨H, ⟨by (try dsimp only); omega, rfl⟩, hgp⟩ ?_
 rintro ⟨p, q, zs⟩ w ⟨H, hp, hg⟩
 refine c_seq (c_reg (s_val rfl rfl (r_lt rfl rfl rfl) (s_nil (q_then (c_seq ?_)))))
 refine c_dec rfl (fun h31 => ?_) (fun h31 => ?_)
 ·refine c_skip (q_then (c_seq (c_block (c_seq (c_reg (s_k 2 rfl (s_nil (q_then (c_seq (c_ord (.e 0 (.e 1 (.e 2 (.e 3 (.e 4 (.m 5 (.m 6 (.e 7 (.e 8 (.e 9 (.e 10 (.e 11 .z)))))))))))) (fun w => ∃ Ar, Hd w0 F0 w (osl (kHd kPair) q zs :: blk b26 [.slice A1 J.us.length c2, .int .i64 J.parts, .slice A6 J.map.length c7, .slice A11 J.comb.length c12, .slice A16 J.red.length c17, .int .i64 J.chunk, .int .i64 J.window, .int .i64 J.fuel, .slice A21 J.marks.length c22] 43 :: Ar) [rsl (kHd kPair) (.slice A1 J.us.length c2) J.us, rsl kIns (.slice A6 J.map.length c7) J.map, rsl kIns (.slice A11 J.comb.length c12) J.comb, rsl kIns (.slice A16 J.red.length c17) J.red, rsl (kInt .i64) (.slice A21 J.marks.length c22) J.marks, gl]) mo (by kernel_rfl) (fun w H => ⟨_, H⟩) H (fun w H => (d_val rfl rfl rfl (fun w ⟨Ar, H⟩ => r_ldA (cs := [.slice A1 J.us.length c2, .int .i64 J.parts, .slice A6 J.map.length c7, .slice A11 J.comb.length c12, .slice A16 J.red.length c17, .int .i64 J.chunk, .int .i64 J.window, .int .i64 J.fuel, .slice A21 J.marks.length c22]) rfl ty43 rfl rfl (H.cellsI 1 rfl rfl)) ?_))))))))))))
  refine d_1 rfl (d_val rfl rfl rfl (fun w ⟨Ar, H⟩ => r_fa rfl fo43_0 rfl) (d_val rfl rfl rfl (fun w ⟨Ar, H⟩ => r_ld rfl ty31 rfl (H.cellI 1 rfl rfl)) (d_val rfl rfl rfl (fun w ⟨Ar, H⟩ => r_lenL rfl un31 rfl) (d_main rfl (sc (all_ok J.us.length (by omega)) H l0 rfl rfl (e_fn kn48 rfl rfl) ?_)))))
  rintro v32 _ w rfl H
  replace H : Hd _ _ _ [osl (kInt .i64) v32 (upto J.us.length), osl (kHd kPair) q zs, blk b26 [.slice A1 J.us.length c2, .int .i64 J.parts, .slice A6 J.map.length c7, .slice A11 J.comb.length c12, .slice A16 J.red.length c17, .int .i64 J.chunk, .int .i64 J.window, .int .i64 J.fuel, .slice A21 J.marks.length c22] 43] [rsl (kHd kPair) (.slice A1 J.us.length c2) J.us, rsl kIns (.slice A6 J.map.length c7) J.map, rsl kIns (.slice A11 J.comb.length c12) J.comb, rsl kIns (.slice A16 J.red.length c17) J.red, rsl (kInt .i64) (.slice A21 J.marks.length c22) J.marks, gl] := H
  replace H := H.p2.p2
  refine d_back ⟨_, H⟩ (d_main rfl (sc (part_ok (.slice A1 J.us.length c2) (.slice A6 J.map.length c7) (.slice A11 J.comb.length c12) (.slice A16 J.red.length c17) (.slice A21 J.marks.length c22) J hJ p (by omega) (by assumption) v32) H (lR 0 rfl (lR 1 rfl (lR 2 rfl (lR 3 rfl (lR 4 rfl (lA 2 rfl own_rd (lR 5 rfl l0))))))) rfl rfl (e_fn kn47 rfl rfl) ?_))
  rintro _ _ w ⟨u33, rfl, rfl⟩ H
  replace H := H.h1 (A := osl kPair u33 ((partM dg J p).1)) |>.p2 |>.p2
  refine d_back ⟨_, H⟩ (d_1 rfl (d_1 rfl (d_1 rfl (d_1 rfl (d_1 rfl (d_nil (q_then (c_seq (c_seq (c_reg (s_1 rfl (s_val rfl rfl (r_ne rfl rfl rfl) (s_nil (q_then ?_))))))))))))))
  refine c_dec rfl (fun h34 => ?_) (fun h34 => ?_)
  ·refine c_seq (c_reg (s_k 5 rfl (s_nil (q_then (c_ret (q_thenR (q_blockR (q_thenR (q_thenR (q_blockR (q_thenR (q_ret3 rfl rfl rfl rfl ?_))))))))))))
   replace H := H.nil |>.newnil (kHd kPair)
   have e : wholeM dg J = ([], (partM dg J p).2, (p : Int)) := hg.symm.trans (parts_bad2 (by omega) h34)
   exact fin ⟨_, [], by rw [e] <;> rfl, rfl, by rw [e]; rfl⟩ H
  refine c_skip (q_then (c_reg (s_k 2 rfl ?_)))
  obtain ⟨A36, c37, rfl, hc38, hm39, hp40⟩ := H.fA 2 rfl
  refine s_bsl (parts := [(0, .tmp 52)]) (vs := [.slice A36 (((partM dg J p).1).length) c37]) (cs := [.slice A36 (((partM dg J p).1).length) c37]) rfl rfl rfl sl31 zr23 rfl (by decide) (by decide) rfl rfl H (fun b35 w H => ?_)
  replace H := H.p1.p3.p2.p2
  replace H : Hd _ _ _ [osl (kHd kPair) q zs, blk b35 [.slice A36 (((partM dg J p).1).length) c37] 23, osl kPair (.slice A36 (((partM dg J p).1).length) c37) ((partM dg J p).1), blk b26 [.slice A1 J.us.length c2, .int .i64 J.parts, .slice A6 J.map.length c7, .slice A11 J.comb.length c12, .slice A16 J.red.length c17, .int .i64 J.chunk, .int .i64 J.window, .int .i64 J.fuel, .slice A21 J.marks.length c22] 43, osl (kInt .i64) v32 (upto J.us.length)] [rsl (kHd kPair) (.slice A1 J.us.length c2) J.us, rsl kIns (.slice A6 J.map.length c7) J.map, rsl kIns (.slice A11 J.comb.length c12) J.comb, rsl kIns (.slice A16 J.red.length c17) J.red, rsl (kInt .i64) (.slice A21 J.marks.length c22) J.marks, gl] := H
  refine s_appH rfl rfl rfl sl31 zr23 rfl (by decide) rfl rfl H (by first | omega | (simp only [List.length_append, List.length_cons, List.length_nil]; omega)) (fun v41 w H => ?_)
  replace H := H.h1 (A := osl (kHd kPair) v41 (zs ++ [((.slice A36 (((partM dg J p).1).length) c37 : Value), (partM dg J p).1)]))
  refine s_1 rfl (s_nil (q_blockN (q_then (c_reg (s_val rfl rfl (r_add (z := ((p + 1 : Nat) : Int)) rfl rfl rfl (by rw [w64 (by omega) (by omega)]; omega)) (s_1 rfl (s_nil ?_)))))))
  replace H := H.k2
  have hg2 : partsGo dg J (J.parts.toNat - (p + 1)) (p + 1) ((zs ++ [((.slice A36 (((partM dg J p).1).length) c37 : Value), (partM dg J p).1)] : List (Value × List Pair)).map (·.2)) = wholeM dg J := by rw [List.map_append]; exact (parts_on (by omega) h34).trans hg
  exact q_round (s := (p, undef, zs)) (p + 1, v41, zs ++ [((.slice A36 (((partM dg J p).1).length) c37 : Value), (partM dg J p).1)]) ⟨rfl, rfl, rfl, rfl, trivial⟩ ⟨H, by (try dsimp only); simp only [List.length_append, List.length_cons, List.length_nil]; omega, hg2⟩ (by (try dsimp only); omega)
 refine c_exit (q_thenE (q_thenE (q_blockE (q_then (c_seq (c_reg (s_k 4 rfl (s_nil (q_then (c_ret (q_ret3 rfl rfl rfl rfl ?_)))))))))))
 replace H := H.k1
 have e : wholeM dg J = (zs.map (·.2), 0, 0) := hg.symm.trans (parts_end (by omega))
 replace H : Hd _ _ _ [osl (kHd kPair) q zs] [rsl (kHd kPair) (.slice A1 J.us.length c2) J.us, rsl kIns (.slice A6 J.map.length c7) J.map, rsl kIns (.slice A11 J.comb.length c12) J.comb, rsl kIns (.slice A16 J.red.length c17) J.red, rsl (kInt .i64) (.slice A21 J.marks.length c22) J.marks, gl] := H
 exact fin ⟨_, _, by rw [e] <;> rfl, rfl, by rw [e] <;> rfl⟩ H
theorem smallF_ok  :
    Cn Tryz.prog 46 [] [] [] (fun v Bs => ∃ (b3 : Nat) (vP u : Value), v = .agg #[.slice (some ⟨b3, 0, none⟩) 1 1, .int .i64 1, vP, .slice none 0 0, vP, .int .i64 1, .int .i64 1, .int .i64 9, .slice none 0 0] ∧ Bs = [osl kIns vP firstP, osl kPair u smallR, blk b3 [u] 23]) := by
 intro w0 F0 H
 refine enter Tryz.func46 rfl rfl (Nat.le_of_ble_eq_true rfl) (c_seq (c_reg (s_alloc rfl rfl rfl zr43 H (fun b1 w H => (s_nil (q_then ?_))))))
 replace H : Hd _ _ _ [blk b1 [.slice none 0 0, .int .i64 0, .slice none 0 0, .slice none 0 0, .slice none 0 0, .int .i64 0, .int .i64 0, .int .i64 0, .slice none 0 0] 43] [] := H
 refine c_seq (c_reg (s_val rfl rfl (r_bd (parts := [(0, .const (.int .i64 6))]) (vs := [.int .i64 6]) (cs := [.int .i64 6, .int .i64 0, .string ⟨#[]⟩]) rfl bd29 rfl rfl) (s_val rfl rfl (r_bd (parts := [(0, .const (.int .i64 7))]) (vs := [.int .i64 7]) (cs := [.int .i64 7, .int .i64 0, .string ⟨#[]⟩]) rfl bd29 rfl rfl) (s_val rfl rfl (r_bd (parts := [(0, .const (.int .i64 4))]) (vs := [.int .i64 4]) (cs := [.int .i64 4, .int .i64 0, .string ⟨#[]⟩]) rfl bd29 rfl rfl) (s_val rfl rfl (r_bd (parts := [(0, .const (.int .i64 23))]) (vs := [.int .i64 23]) (cs := [.int .i64 23, .int .i64 0, .string ⟨#[]⟩]) rfl bd29 rfl rfl) (s_bsl (parts := [(0, .tmp 2), (1, .tmp 3), (2, .tmp 4), (3, .tmp 5)]) (vs := [.agg #[.int .i64 6, .int .i64 0, .string ⟨#[]⟩], .agg #[.int .i64 7, .int .i64 0, .string ⟨#[]⟩], .agg #[.int .i64 4, .int .i64 0, .string ⟨#[]⟩], .agg #[.int .i64 23, .int .i64 0, .string ⟨#[]⟩]]) (cs := [.int .i64 6, .int .i64 0, .string ⟨#[]⟩, .int .i64 7, .int .i64 0, .string ⟨#[]⟩, .int .i64 4, .int .i64 0, .string ⟨#[]⟩, .int .i64 23, .int .i64 0, .string ⟨#[]⟩]) rfl rfl rfl sl22 zr29 rfl (by decide) (by decide) rfl rfl H (fun b2 w H => ?_)))))))
 replace H := H.h1 (A := blk b2 [.int .i64 6, .int .i64 0, .string ⟨#[]⟩, .int .i64 7, .int .i64 0, .string ⟨#[]⟩, .int .i64 4, .int .i64 0, .string ⟨#[]⟩, .int .i64 23, .int .i64 0, .string ⟨#[]⟩] 29)
 refine s_1 rfl (s_nil (q_then (c_seq (c_reg (s_val rfl rfl (r_bd (parts := [(0, .const (.string ⟨#[98]⟩)), (1, .const (.string ⟨#[49]⟩))]) (vs := [.string ⟨#[98]⟩, .string ⟨#[49]⟩]) (cs := [.string ⟨#[98]⟩, .string ⟨#[49]⟩]) rfl bd56 rfl rfl) (s_val rfl rfl (r_bd (parts := [(0, .const (.string ⟨#[97]⟩)), (1, .const (.string ⟨#[50]⟩))]) (vs := [.string ⟨#[97]⟩, .string ⟨#[50]⟩]) (cs := [.string ⟨#[97]⟩, .string ⟨#[50]⟩]) rfl bd56 rfl rfl) (s_bsl (parts := [(0, .tmp 7), (1, .tmp 8)]) (vs := [.agg #[.string ⟨#[98]⟩, .string ⟨#[49]⟩], .agg #[.string ⟨#[97]⟩, .string ⟨#[50]⟩]]) (cs := [.string ⟨#[98]⟩, .string ⟨#[49]⟩, .string ⟨#[97]⟩, .string ⟨#[50]⟩]) rfl rfl rfl sl23 zr56 rfl (by decide) (by decide) rfl rfl H (fun b3 w H => (s_bsl (parts := [(0, .tmp 9)]) (vs := [.slice (some ⟨b3, 0, none⟩) 2 2]) (cs := [.slice (some ⟨b3, 0, none⟩) 2 2]) rfl rfl rfl sl31 zr23 rfl (by decide) (by decide) rfl rfl H (fun b4 w H => ?_))))))))))
 refine s_k 2 rfl (s_val rfl rfl (r_bd (parts := [(0, .tmp 10), (1, .const (.int .i64 1)), (2, .tmp 11), (4, .tmp 12), (5, .const (.int .i64 1)), (6, .const (.int .i64 1)), (7, .const (.int .i64 9))]) (vs := [.slice (some ⟨b4, 0, none⟩) 1 1, .int .i64 1, .slice (some ⟨b2, 0, none⟩) 4 4, .slice (some ⟨b2, 0, none⟩) 4 4, .int .i64 1, .int .i64 1, .int .i64 9]) (cs := [.slice (some ⟨b4, 0, none⟩) 1 1, .int .i64 1, .slice (some ⟨b2, 0, none⟩) 4 4, .slice none 0 0, .slice (some ⟨b2, 0, none⟩) 4 4, .int .i64 1, .int .i64 1, .int .i64 9, .slice none 0 0]) rfl bd43 rfl rfl) ?_)
 replace H := H.p3
 refine s_st rfl rfl rfl ty43 rfl rfl H rfl (Nat.le_of_ble_eq_true rfl) (fun u hu => by simp [Value.cells] at hu; rcases hu with rfl | rfl | rfl | rfl | rfl | rfl | rfl | rfl | rfl <;> rfl) (fun w H => ?_)
 replace H : Hd _ _ _ [blk b1 [.slice (some ⟨b4, 0, none⟩) 1 1, .int .i64 1, .slice (some ⟨b2, 0, none⟩) 4 4, .slice none 0 0, .slice (some ⟨b2, 0, none⟩) 4 4, .int .i64 1, .int .i64 1, .int .i64 9, .slice none 0 0] 43, blk b4 [.slice (some ⟨b3, 0, none⟩) 2 2] 23, blk b3 [.string ⟨#[98]⟩, .string ⟨#[49]⟩, .string ⟨#[97]⟩, .string ⟨#[50]⟩] 56, blk b2 [.int .i64 6, .int .i64 0, .string ⟨#[]⟩, .int .i64 7, .int .i64 0, .string ⟨#[]⟩, .int .i64 4, .int .i64 0, .string ⟨#[]⟩, .int .i64 23, .int .i64 0, .string ⟨#[]⟩] 29] [] := H
 refine s_nil (q_then (c_ret (q_retC (cs := [.slice (some ⟨b4, 0, none⟩) 1 1, .int .i64 1, .slice (some ⟨b2, 0, none⟩) 4 4, .slice none 0 0, .slice (some ⟨b2, 0, none⟩) 4 4, .int .i64 1, .int .i64 1, .int .i64 9, .slice none 0 0]) rfl rfl ty43 rfl (H.cellsI 0 rfl rfl) ?_)))
 replace H := H.p2
 replace H : Hd w0 F0 w [osl kPair (.slice (some ⟨b3, 0, none⟩) 2 2) smallR, blk b1 [.slice (some ⟨b4, 0, none⟩) 1 1, .int .i64 1, .slice (some ⟨b2, 0, none⟩) 4 4, .slice none 0 0, .slice (some ⟨b2, 0, none⟩) 4 4, .int .i64 1, .int .i64 1, .int .i64 9, .slice none 0 0] 43, blk b4 [.slice (some ⟨b3, 0, none⟩) 2 2] 23, blk b2 [.int .i64 6, .int .i64 0, .string ⟨#[]⟩, .int .i64 7, .int .i64 0, .string ⟨#[]⟩, .int .i64 4, .int .i64 0, .string ⟨#[]⟩, .int .i64 23, .int .i64 0, .string ⟨#[]⟩] 29] [] := H.turn (fun F h => blk_osl h rfl (by decide) rfl)
 replace H := H.p3
 replace H : Hd w0 F0 w [osl kIns (.slice (some ⟨b2, 0, none⟩) 4 4) firstP, osl kPair (.slice (some ⟨b3, 0, none⟩) 2 2) smallR, blk b1 [.slice (some ⟨b4, 0, none⟩) 1 1, .int .i64 1, .slice (some ⟨b2, 0, none⟩) 4 4, .slice none 0 0, .slice (some ⟨b2, 0, none⟩) 4 4, .int .i64 1, .int .i64 1, .int .i64 9, .slice none 0 0] 43, blk b4 [.slice (some ⟨b3, 0, none⟩) 2 2] 23] [] := H.turn (fun F h => blk_osl h rfl (by decide) rfl)
 replace H := H.p3.p2.p2.k3
 exact fin ⟨_, _, _, rfl, rfl⟩ H
theorem awake13_ok  :
    Cn Tryz.prog 23 [] [] [gl] (fun v Bs => v = .bool true ∧ Bs = []) := by
 intro w0 F0 H
 refine enter Tryz.func23 rfl rfl (Nat.le_of_ble_eq_true rfl) (c_seq (c_reg (s_1 rfl (s_nil (q_then (c_seq (c_reg (sc smallF_ok H l0 rfl rfl (e_fn kn46 rfl rfl) ?_))))))))
 rintro _ _ w ⟨b1, v2, u3, rfl, rfl⟩ H
 refine sc (split_ok (.slice (some ⟨b1, 0, none⟩) 1 1) v2 (.slice none 0 0) v2 (.slice none 0 0) (smallJ u3) (small_ok u3) 0 (show 0 < 1 by decide)) H (lX (fun F hA hR => one_rsl (hA _ (List.mem_of_getElem? (i := 2) rfl)) (own_rd F (hA _ (List.mem_of_getElem? (i := 1) rfl)))) (lA 0 rfl own_rd (lX (fun F _ _ => rsl_nil _ _ F trivial (by decide)) (lA 0 rfl own_rd (lX (fun F _ _ => rsl_nil _ _ F trivial (by decide)) (lR 0 rfl l0)))))) rfl rfl (e_fn kn25 rfl rfl) ?_
 rintro _ _ w ⟨u4, rfl, rfl⟩ H
 rw [small_split] at H ⊢
 replace H : Hd w0 F0 w [osl kPair u4 wantR, osl kIns v2 firstP, osl kPair u3 smallR, blk b1 [u3] 23] [gl] := H
 refine s_k 5 rfl (s_nil (q_then (c_seq (c_reg (sc smallF_ok H l0 rfl rfl (e_fn kn46 rfl rfl) ?_)))))
 rintro _ _ w ⟨b5, v6, u7, rfl, rfl⟩ H
 refine sc (whole_ok (.slice (some ⟨b5, 0, none⟩) 1 1) v6 (.slice none 0 0) v6 (.slice none 0 0) (smallJ u7) (small_ok u7)) H (lX (fun F hA hR => one_rsl (hA _ (List.mem_of_getElem? (i := 2) rfl)) (own_rd F (hA _ (List.mem_of_getElem? (i := 1) rfl)))) (lA 0 rfl own_rd (lX (fun F _ _ => rsl_nil _ _ F trivial (by decide)) (lA 0 rfl own_rd (lX (fun F _ _ => rsl_nil _ _ F trivial (by decide)) (lR 0 rfl l0)))))) rfl rfl (e_fn kn24 rfl rfl) ?_
 rintro _ _ w ⟨u8, zs9, rfl, rfl, hz10⟩ H
 replace H := H.h4 (A := osl (kHd kPair) u8 zs9) (B := osl kIns v6 firstP) (C := osl kPair u7 smallR) (D := blk b5 [u7] 23)
 rw [small_whole] at hz10 ⊢
 refine s_k 7 rfl (s_nil (q_then (c_seq (c_reg (s_val rfl rfl (r_bd (parts := [(0, .const (.string ⟨#[97]⟩)), (1, .const (.string ⟨#[50]⟩))]) (vs := [.string ⟨#[97]⟩, .string ⟨#[50]⟩]) (cs := [.string ⟨#[97]⟩, .string ⟨#[50]⟩]) rfl bd56 rfl rfl) (s_val rfl rfl (r_bd (parts := [(0, .const (.string ⟨#[98]⟩)), (1, .const (.string ⟨#[49]⟩))]) (vs := [.string ⟨#[98]⟩, .string ⟨#[49]⟩]) (cs := [.string ⟨#[98]⟩, .string ⟨#[49]⟩]) rfl bd56 rfl rfl) (s_bsl (parts := [(0, .tmp 18), (1, .tmp 19)]) (vs := [.agg #[.string ⟨#[97]⟩, .string ⟨#[50]⟩], .agg #[.string ⟨#[98]⟩, .string ⟨#[49]⟩]]) (cs := [.string ⟨#[97]⟩, .string ⟨#[50]⟩, .string ⟨#[98]⟩, .string ⟨#[49]⟩]) rfl rfl rfl sl23 zr56 rfl (by decide) (by decide) rfl rfl H (fun b11 w H => ?_))))))))
 replace H := H.h1 (A := blk b11 [.string ⟨#[97]⟩, .string ⟨#[50]⟩, .string ⟨#[98]⟩, .string ⟨#[49]⟩] 56)
 refine s_1 rfl (s_nil (q_then (c_seq ?_)))
 replace H : Hd w0 F0 w [osl kPair (.slice (some ⟨b11, 0, none⟩) 2 2) wantR, osl (kHd kPair) u8 zs9, osl kIns v6 firstP, osl kPair u7 smallR, blk b5 [u7] 23, osl kPair u4 wantR, osl kIns v2 firstP, osl kPair u3 smallR, blk b1 [u3] 23] [gl] := H.turn (fun F h => blk_osl h rfl (by decide) rfl)
 refine c_reg (s_k 2 rfl (sc (samePairs_ok u4 (.slice (some ⟨b11, 0, none⟩) 2 2) wantR wantR) H (lA 5 rfl own_rd (lA 0 rfl own_rd l0)) rfl rfl (e_fn kn19 rfl rfl) ?_))
 rintro _ _ w ⟨rfl, rfl⟩ H
 refine s_1 rfl ?_
 refine s_dec (d := 24) rfl (fun h12 => ?_) (fun h12 => ?_)
 ·refine s_1 rfl (s_val rfl rfl (r_eq rfl rfl rfl) (s_k 4 rfl (s_bsl (parts := [(0, .tmp 30)]) (vs := [.slice (some ⟨b11, 0, none⟩) 2 2]) (cs := [.slice (some ⟨b11, 0, none⟩) 2 2]) rfl rfl rfl sl31 zr23 rfl (by decide) (by decide) rfl rfl H (fun b13 w H => (sc (sameRuns_ok u8 zs9 (.slice (some ⟨b13, 0, none⟩) 1 1) [(.slice (some ⟨b11, 0, none⟩) 2 2, wantR)]) H (lA 2 rfl own_rd (lX (fun F hA hR => one_rsl (hA _ (List.mem_of_getElem? (i := 0) rfl)) (own_rd F (hA _ (List.mem_of_getElem? (i := 1) rfl)))) l0)) rfl rfl (e_fn kn29 rfl rfl) ?_)))))
  rintro _ _ w ⟨rfl, rfl⟩ H
  refine s_k 2 rfl ?_
  refine s_dec (d := 34) rfl (fun h14 => ?_) (fun h14 => ?_)
  ·refine s_1 rfl (s_val rfl rfl (r_eq rfl rfl rfl) (s_k 3 rfl (s_val rfl rfl (r_eq rfl rfl rfl) (s_k 2 rfl (s_nil (q_then ?_))))))
   replace H : Hd _ _ _ [blk b13 [.slice (some ⟨b11, 0, none⟩) 2 2] 23, osl kPair (.slice (some ⟨b11, 0, none⟩) 2 2) wantR, osl (kHd kPair) u8 zs9, osl kIns v6 firstP, osl kPair u7 smallR, blk b5 [u7] 23, osl kPair u4 wantR, osl kIns v2 firstP, osl kPair u3 smallR, blk b1 [u3] 23] [gl] := H
   refine c_ret (q_ret1 rfl rfl ?_)
   replace H := H.nil
   exact fin ⟨rfl, rfl⟩ H
  exact (h14 (by rw [hz10]; rfl)).elim
 exact (h12 rfl).elim
theorem Cn.heads0 {α : Type} {d : Kd α} {P : Program} {f : FuncId} {args : List Value} {v : Value} {ss : List (List α)} {Rs : List SP} {T : Value → List SP → Prop}
  (h : ∀ us : List (Value × List α), us.map (·.2) = ss → Cn P f args [] (rsl (kHd d) v us :: rsl (kSl d) v ss :: Rs) T) : Cn P f args [] (rsl (kSl d) v ss :: Rs) T := by
 intro w F H
 obtain ⟨us, hus, H2⟩ := H.heads 0 rfl
 refine (h us hus w F H2).mono ?_
 rintro e W' ⟨v, rfl, Bs, t, H⟩
 exact ⟨v, rfl, Bs, t, H.dropR⟩
theorem opens_job {P : Program} {t s i c m : TypeId} {W1 : List (List Pair) → Prop} {W2 : List Ins → Prop} {W3 : List Int → Prop}
  (hs : stOf P t = some [(s, 0, 1), (i, 1, 1), (c, 2, 1), (c, 3, 1), (c, 4, 1), (i, 5, 1), (i, 6, 1), (i, 7, 1), (m, 8, 1)]) (hc : P.cellsOf t = 9) (hi : P.underlying i = some (.int .i64))
  (h1 : Opens P s (kSl (kSl kPair)) W1) (h2 : Opens P c (kSl kIns) W2) (h3 : Opens P m (kSl (kInt .i64)) W3)
  {H : Type} (enc : TypeId × Value → H) (w : World) (fuel : Nat) (cs : List Value) (x : DataW H × List MemPlace) (h : DataW.trod enc P w 0 (fun _ => true) true fuel t cs = some x) :
  ∃ (vS : Value) (ss : List (List Pair)) (n1 : Int) (vM : Value) (map : List Ins) (vC : Value) (comb : List Ins) (vR : Value) (red : List Ins) (n5 n6 n7 : Int) (vK : Value) (marks : List Int),
   cs = [vS, .int .i64 n1, vM, vC, vR, .int .i64 n5, .int .i64 n6, .int .i64 n7, vK] ∧ ((rsl (kSl kPair) vS ss).P w (Old w) ∧ (rsl kIns vM map).P w (Old w) ∧ (rsl kIns vC comb).P w (Old w) ∧ (rsl kIns vR red).P w (Old w) ∧ (rsl (kInt .i64) vK marks).P w (Old w)) ∧
   (W1 ss ∧ W2 map ∧ W2 comb ∧ W2 red ∧ W3 marks) ∧ (In64 n1 ∧ In64 n5 ∧ In64 n6 ∧ In64 n7) := by
 obtain ⟨hl, n, hf⟩ := open_st hs h
 rw [hc] at hl
 match cs, hl with
 | [c0, c1, c2, c3, c4, c5, c6, c7, c8], _ =>
  obtain ⟨y0, g0⟩ := hf 0 _ _ _ rfl
  obtain ⟨y1, g1⟩ := hf 1 _ _ _ rfl
  obtain ⟨y2, g2⟩ := hf 2 _ _ _ rfl
  obtain ⟨y3, g3⟩ := hf 3 _ _ _ rfl
  obtain ⟨y4, g4⟩ := hf 4 _ _ _ rfl
  obtain ⟨y5, g5⟩ := hf 5 _ _ _ rfl
  obtain ⟨y6, g6⟩ := hf 6 _ _ _ rfl
  obtain ⟨y7, g7⟩ := hf 7 _ _ _ rfl
  obtain ⟨y8, g8⟩ := hf 8 _ _ _ rfl
  obtain ⟨a0, r0, w0⟩ := h1 enc w n _ _ g0
  obtain ⟨a1, r1, w1⟩ := opens_int hi enc w n _ _ g1
  obtain ⟨a2, r2, w2⟩ := h2 enc w n _ _ g2
  obtain ⟨a3, r3, w3⟩ := h2 enc w n _ _ g3
  obtain ⟨a4, r4, w4⟩ := h2 enc w n _ _ g4
  obtain ⟨a5, r5, w5⟩ := opens_int hi enc w n _ _ g5
  obtain ⟨a6, r6, w6⟩ := opens_int hi enc w n _ _ g6
  obtain ⟨a7, r7, w7⟩ := opens_int hi enc w n _ _ g7
  obtain ⟨a8, r8, w8⟩ := h3 enc w n _ _ g8
  have q1 : [c1] = [Value.int .i64 a1] := r1
  have q5 : [c5] = [Value.int .i64 a5] := r5
  have q6 : [c6] = [Value.int .i64 a6] := r6
  have q7 : [c7] = [Value.int .i64 a7] := r7
  simp only [List.cons.injEq, and_true] at q1 q5 q6 q7
  subst q1 q5 q6 q7
  exact ⟨c0, a0, a1, c2, a2, c3, a3, c4, a4, a5, a6, a7, c8, a8, rfl, ⟨r0, r2, r3, r4, r8⟩, ⟨w0, w2, w3, w4, w8⟩, w1, w5, w6, w7⟩
def altJ (J : Job) (cb : List Ins) (ch wi fu : Int) (mk : List Int) : Job := ⟨J.us, J.parts, J.map, cb, J.red, ch, wi, fu, mk⟩
theorem ok_alt {J : Job} (h : OkJ J) {cb : List Ins} {ch wi fu : Int} {mk : List Int} (h1 : badI cb < 0) (h2 : ∀ i ∈ cb, In64 i.a) (h3 : 1 ≤ ch ∧ ch ≤ 7) (h4 : 1 ≤ wi ∧ wi ≤ 4) (h5 : 1 ≤ fu ∧ fu ≤ 2000) (h6 : mk.length ≤ 4) (h7 : marksUp J.us.length 0 mk) : OkJ (altJ J cb ch wi fu mk) := by
 obtain ⟨g1, g2, g3, g4, g5, g6, g7, g8, g9, g10, g11⟩ := h.may
 exact ⟨⟨g1, g2, h6, g4, h7, g6, g7, h1, h3, h4, h5⟩, h.map, h2, h.red⟩
theorem OkJ.comb0 {J : Job} (h : OkJ J) : badI J.comb < 0 := h.may.2.2.2.2.2.2.2.1
theorem OkJ.chunk {J : Job} (h : OkJ J) : 1 ≤ J.chunk ∧ J.chunk ≤ 7 := h.may.2.2.2.2.2.2.2.2.1
theorem OkJ.window {J : Job} (h : OkJ J) : 1 ≤ J.window ∧ J.window ≤ 4 := h.may.2.2.2.2.2.2.2.2.2.1
theorem OkJ.marks {J : Job} (h : OkJ J) : J.marks.length ≤ 4 ∧ marksUp J.us.length 0 J.marks := ⟨h.may.2.2.1, h.may.2.2.2.2.1⟩
section
variable {D : Dig}
theorem allOf_congr {J K : Job} {p : Int} (hp : J.parts = K.parts) : ∀ (k : Nat), (∀ s, s < k → (splitM D J s).1 = (splitM D K s).1) → allOf D J p k = allOf D K p k
 | 0, _ => rfl
 | k + 1, h => by
  unfold allOf onlyM
  rw [allOf_congr hp k fun s hs => h s (by omega), h k (by omega), hp]
theorem partsGo_congr {J K : Job} : ∀ (k p : Nat) (out : List (List Pair)), (∀ q : Nat, p ≤ q → q < p + k → partM D J q = partM D K q) → partsGo D J k p out = partsGo D K k p out
 | 0, _, _, _ => rfl
 | k + 1, p, out, h => by
  unfold partsGo
  rw [h p (Nat.le_refl _) (by omega)]
  split
  ·rfl
  ·exact partsGo_congr k (p + 1) _ fun q h1 h2 => h q (by omega) (by omega)
theorem wholeGo_congr {J K : Job} (hp : J.parts = K.parts) (h2 : ∀ q : Nat, q < J.parts.toNat → partM D J q = partM D K q) : ∀ (k s : Nat), (∀ q, s ≤ q → q < s + k → splitM D J q = splitM D K q) → wholeGo D J k s = wholeGo D K k s
 | 0, _, _ => by
  show partsGo D J J.parts.toNat 0 [] = partsGo D K K.parts.toNat 0 []
  rw [← hp]
  exact partsGo_congr _ _ _ fun q _ hq => h2 q (by omega)
 | k + 1, s, h => by
  unfold wholeGo
  rw [h s (Nat.le_refl _) (by omega)]
  split
  ·rfl
  ·exact wholeGo_congr hp h2 k (s + 1) fun q h1 h3 => h q (by omega) (by omega)
theorem whole_of {J K : Job} (hu : J.us.length = K.us.length) (hp : J.parts = K.parts) (h1 : ∀ s, s < J.us.length → splitM D J s = splitM D K s) (h2 : ∀ q : Nat, q < J.parts.toNat → partM D J q = partM D K q) : wholeM D J = wholeM D K := by
 unfold wholeM
 rw [← hu]
 exact wholeGo_congr hp h2 _ _ fun q _ hq => h1 q (by omega)
theorem whole_alt (J : Job) (ch wi : Int) (mk : List Int) : wholeM D (altJ J J.comb ch wi J.fuel mk) = wholeM D J := by
 refine whole_of rfl rfl (fun s _ => rfl) fun q _ => ?_
 show eachM D J.red (srt (allOf D (altJ J J.comb ch wi J.fuel mk) q J.us.length)) J.fuel false = partM D J q
 rw [allOf_congr (D := D) (J := altJ J J.comb ch wi J.fuel mk) (K := J) rfl _ fun s _ => rfl]
 rfl
/-! ### More fuel -/
theorem play_more {p : List Ins} {key : ByteArray} : ∀ (k j : Nat) {m : VM}, (playM D p key k m).2 = 0 → playM D p key (k + j) m = playM D p key k m
 | 0, j, m, h => by
  by_cases hc : m.pos < p.length ∧ m.halted = false
  ·rw [play_dry hc] at h; exact absurd h (show ¬ (3 : Int) = 0 by decide)
  ·rw [play_stop _ hc, play_stop _ hc]
 | k + 1, j, m, h => by
  by_cases hc : m.pos < p.length ∧ m.halted = false
  ·rw [show k + 1 + j = (k + j) + 1 by omega]
   cases hi : p[m.pos.toNat]? with
   | none => unfold playM; rw [if_pos hc, if_pos hc, hi]
   | some i =>
    by_cases hw : (doesM D key {m with pos := m.pos + 1} i).2 ≠ 0
    ·rw [play_fail hc hi hw] at h; exact absurd h hw
    ·rw [play_go hc hi hw] at h
     rw [play_go hc hi hw, play_go hc hi hw]
     exact play_more k j h
  ·rw [play_stop _ hc, play_stop _ hc]
theorem run_more {p : List Ins} {key : ByteArray} {vals : List ByteArray} {f f' : Int} (h : (runM D p key vals f).2 = 0) (hf : f ≤ f') : runM D p key vals f' = runM D p key vals f := by
 unfold runM at h ⊢
 by_cases hb : ¬ badI p < 0 ∨ f < 0
 ·rw [if_pos hb] at h; exact absurd h (by decide)
 ·rw [if_neg hb] at h ⊢
  rw [if_neg (show ¬ (¬ badI p < 0 ∨ f' < 0) by omega)]
  by_cases hp : (playM D p key (min f 2000).toNat (vm0 vals)).2 ≠ 0
  ·rw [if_pos hp] at h; exact absurd h hp
  ·have e := play_more (D := D) (p := p) (key := key) (min f 2000).toNat ((min f' 2000).toNat - (min f 2000).toNat) (Classical.not_not.1 hp)
   rw [show (min f 2000).toNat + ((min f' 2000).toNat - (min f 2000).toNat) = (min f' 2000).toNat by omega] at e
   rw [e]
theorem eachGo_more {p : List Ins} {ps : List Pair} {f f' : Int} {own : Bool} (hf : f ≤ f') : ∀ (ks : List ByteArray) (out : List Pair), (eachGo D p ps f own ks out).2 = 0 → eachGo D p ps f' own ks out = eachGo D p ps f own ks out
 | [], _, _ => rfl
 | k :: ks, out, h => by
  unfold eachGo at h ⊢
  by_cases h1 : (runM D p k (ofL ps k) f).2 ≠ 0
  ·rw [if_pos h1] at h; exact absurd h h1
  ·rw [run_more (Classical.not_not.1 h1) hf]
   rw [if_neg h1] at h
   rw [if_neg h1, if_neg h1]
   split at h
   ·exact absurd h (by decide)
   ·rename_i h2
    rw [if_neg h2, if_neg h2]
    split at h
    ·exact absurd h (by decide)
    ·rename_i h3
     rw [if_neg h3, if_neg h3]
     exact eachGo_more hf ks _ h
theorem mapGo_more {p : List Ins} {f f' : Int} (hf : f ≤ f') : ∀ (rs out : List Pair), (mapGo D p f rs out).2 = 0 → mapGo D p f' rs out = mapGo D p f rs out
 | [], _, _ => rfl
 | r :: rs, out, h => by
  unfold mapGo at h ⊢
  by_cases h1 : (runM D p r.key [r.val] f).2 ≠ 0
  ·rw [if_pos h1] at h; exact absurd h h1
  ·rw [run_more (Classical.not_not.1 h1) hf]
   rw [if_neg h1] at h
   rw [if_neg h1, if_neg h1]
   split at h
   ·exact absurd h (by decide)
   ·rename_i h3
    rw [if_neg h3, if_neg h3]
    exact mapGo_more hf rs _ h
theorem comb_more {p : List Ins} {ps : List Pair} {f f' : Int} (hf : f ≤ f') (h : (combM D p ps f).2 = 0) : combM D p ps f' = combM D p ps f := by
 unfold combM at h ⊢
 split
 ·rfl
 ·rename_i h1
  rw [if_neg h1] at h
  exact eachGo_more hf _ _ h
theorem split_more (J : Job) (ch wi f' : Int) (mk : List Int) (hf : J.fuel ≤ f') (s : Nat) (h : (splitM D J s).2 = 0) : splitM D (altJ J J.comb ch wi f' mk) s = splitM D J s := by
 unfold splitM at h ⊢
 by_cases h1 : (mapM D J s).2 ≠ 0
 ·rw [if_pos h1] at h; exact absurd h h1
 ·have e : mapM D (altJ J J.comb ch wi f' mk) s = mapM D J s := mapGo_more hf _ _ (Classical.not_not.1 h1)
  rw [if_neg h1] at h ⊢
  rw [e, if_neg h1]
  exact comb_more hf h
theorem whole_more (J : Job) (ch wi f' : Int) (mk : List Int) (hf : J.fuel ≤ f') (h : (wholeM D J).2.1 = 0) : wholeM D (altJ J J.comb ch wi f' mk) = wholeM D J := by
 rcases whole_spec D J with ⟨h1, _⟩ | ⟨_, _, h3, h4⟩
 ·exact absurd h h1
 ·have hs : ∀ s, s < J.us.length → splitM D (altJ J J.comb ch wi f' mk) s = splitM D J s := fun s hs => split_more J ch wi f' mk hf s (h3 s hs)
  refine whole_of rfl rfl hs fun q hq => ?_
  show eachM D J.red (srt (allOf D (altJ J J.comb ch wi f' mk) q J.us.length)) f' false = partM D J q
  rw [allOf_congr (D := D) (J := altJ J J.comb ch wi f' mk) (K := J) rfl _ fun s hs' => by rw [hs s hs']]
  exact eachGo_more hf _ _ (h4 q hq)
end
theorem low_ok (x : Int) (n : Int) (hx : In64 x) (h0 : 0 < n) (hn : n ≤ 9223372036854775807) :
    Cn Tryz.prog 30 [.int .i64 x, .int .i64 n] [] [] (fun v Bs => v = .int .i64 (IntKind.u64.wrap x % n) ∧ Bs = []) := by
 intro w0 F0 H
 exact enter Tryz.func30 rfl rfl (Nat.le_of_ble_eq_true rfl) (c_seq (c_reg (s_1 rfl (s_nil (q_then (c_seq (c_reg (s_1 rfl (s_val rfl rfl (r_i2i (z := IntKind.u64.wrap x) rfl rfl un3 un72 rfl) (s_1 rfl (s_val rfl rfl (r_i2i (z := n) rfl rfl un3 un72 (wu64 (by omega) (by omega))) (s_val rfl rfl (r_rem (z := (IntKind.u64.wrap x) % n) rfl rfl rfl (by omega) (Int.tmod_eq_emod_of_nonneg (wrapU x).1)) (s_val rfl rfl (r_i2i (z := (IntKind.u64.wrap x) % n) rfl rfl un72 un3 (w64 (by have := Int.emod_nonneg (IntKind.u64.wrap x) (show n ≠ 0 by omega); omega) (by have := Int.emod_lt_of_pos (IntKind.u64.wrap x) h0; omega))) (s_1 rfl (s_nil (q_then (c_ret (q_ret1 rfl rfl (fin ⟨rfl, rfl⟩ H)))))))))))))))))))
theorem modelAlikeC_ok (vS vM vC vR vK : Value) (J : Job) (ss : List (List Pair)) (gm : ∀ i ∈ J.map, In64 i.a) (gc : ∀ i ∈ J.comb, In64 i.a) (gr : ∀ i ∈ J.red, In64 i.a) (chunk window fuel : Int) (gk : In64 chunk ∧ In64 window ∧ In64 fuel) :
    Cn Tryz.prog 7 [.agg #[vS, .int .i64 J.parts, vM, vC, vR, .int .i64 J.chunk, .int .i64 J.window, .int .i64 J.fuel, vK], .int .i64 chunk, .int .i64 window, .int .i64 fuel] [] [rsl (kHd kPair) vS J.us, rsl (kSl kPair) vS ss, rsl kIns vM J.map, rsl kIns vC J.comb, rsl kIns vR J.red, rsl (kInt .i64) vK J.marks, gl] (fun v Bs => v = .bool true ∧ Bs = []) := by
 intro w0 F0 H
 obtain ⟨A1, c2, rfl, hc3, hm4, hp5⟩ := H.fR 0 rfl
 obtain ⟨A6, c7, rfl, hc8, hm9, hp10⟩ := H.fR 2 rfl
 obtain ⟨A11, c12, rfl, hc13, hm14, hp15⟩ := H.fR 3 rfl
 obtain ⟨A16, c17, rfl, hc18, hm19, hp20⟩ := H.fR 4 rfl
 obtain ⟨A21, c22, rfl, hc23, hm24, hp25⟩ := H.fR 5 rfl
 refine enter Tryz.func7 rfl rfl (Nat.le_of_ble_eq_true rfl) (c_seq (c_reg (s_box rfl rfl rfl rfl H (fun b26 w H => (s_1 rfl (s_nil (q_then ?_)))))))
 replace H : Hd _ _ _ [blk b26 [.slice A1 J.us.length c2, .int .i64 J.parts, .slice A6 J.map.length c7, .slice A11 J.comb.length c12, .slice A16 J.red.length c17, .int .i64 J.chunk, .int .i64 J.window, .int .i64 J.fuel, .slice A21 J.marks.length c22] 43] [rsl (kHd kPair) (.slice A1 J.us.length c2) J.us, rsl (kSl kPair) (.slice A1 J.us.length c2) ss, rsl kIns (.slice A6 J.map.length c7) J.map, rsl kIns (.slice A11 J.comb.length c12) J.comb, rsl kIns (.slice A16 J.red.length c17) J.red, rsl (kInt .i64) (.slice A21 J.marks.length c22) J.marks, gl] := H
 refine c_seq (c_seq (c_reg (s_val rfl rfl (r_ldA (cs := [.slice A1 J.us.length c2, .int .i64 J.parts, .slice A6 J.map.length c7, .slice A11 J.comb.length c12, .slice A16 J.red.length c17, .int .i64 J.chunk, .int .i64 J.window, .int .i64 J.fuel, .slice A21 J.marks.length c22]) rfl ty43 rfl rfl (H.cellsI 0 rfl rfl)) (sc (greatJob_ok (.slice A1 J.us.length c2) (.slice A6 J.map.length c7) (.slice A11 J.comb.length c12) (.slice A16 J.red.length c17) (.slice A21 J.marks.length c22) J) H (lR 0 rfl (lR 2 rfl (lR 3 rfl (lR 4 rfl (lR 5 rfl l0))))) rfl rfl (e_fn kn21 rfl rfl) ?_))))
 rintro _ _ w ⟨rfl, rfl⟩ H
 refine s_1 rfl ?_
 refine s_boo (d := 21) (b := greatJ J) rfl (fun h27 => ?_) (fun h27 => ?_)
 ·refine s_k 4 rfl (s_nil (q_then (c_yes rfl (c_seq (c_reg (sc awake13_ok H (lR 6 rfl l0) rfl rfl (e_fn kn23 rfl rfl) ?_))))))
  rintro _ _ w ⟨rfl, rfl⟩ H
  refine s_1 rfl (s_nil (q_then (c_ret (q_thenR (q_ret1 rfl rfl ?_)))))
  replace H := H.nil
  replace H : Hd _ _ _ [] [rsl (kHd kPair) (.slice A1 J.us.length c2) J.us, rsl (kSl kPair) (.slice A1 J.us.length c2) ss, rsl kIns (.slice A6 J.map.length c7) J.map, rsl kIns (.slice A11 J.comb.length c12) J.comb, rsl kIns (.slice A16 J.red.length c17) J.red, rsl (kInt .i64) (.slice A21 J.marks.length c22) J.marks, gl] := H
  exact fin ⟨rfl, rfl⟩ H
 refine s_val rfl rfl (r_ldA (cs := [.slice A1 J.us.length c2, .int .i64 J.parts, .slice A6 J.map.length c7, .slice A11 J.comb.length c12, .slice A16 J.red.length c17, .int .i64 J.chunk, .int .i64 J.window, .int .i64 J.fuel, .slice A21 J.marks.length c22]) rfl ty43 rfl rfl (H.cellsI 0 rfl rfl)) (sc (jmay_ok (.slice A1 J.us.length c2) (.slice A6 J.map.length c7) (.slice A11 J.comb.length c12) (.slice A16 J.red.length c17) (.slice A21 J.marks.length c22) J) H (lR 0 rfl (lR 2 rfl (lR 3 rfl (lR 4 rfl (lR 5 rfl l0))))) rfl rfl (e_fn kn22 rfl rfl) ?_)
 rintro _ _ w ⟨rfl, rfl⟩ H
 refine s_val rfl rfl (r_notP rfl rfl) (s_1 rfl (s_nil (q_then ?_)))
 refine c_dec rfl (fun h28 => ?_) (fun h28 => ?_)
 ·refine c_seq (c_reg (sc awake13_ok H (lR 6 rfl l0) rfl rfl (e_fn kn23 rfl rfl) ?_))
  rintro _ _ w ⟨rfl, rfl⟩ H
  refine s_1 rfl (s_nil (q_then (c_ret (q_thenR (q_ret1 rfl rfl ?_)))))
  replace H := H.nil
  replace H : Hd _ _ _ [] [rsl (kHd kPair) (.slice A1 J.us.length c2) J.us, rsl (kSl kPair) (.slice A1 J.us.length c2) ss, rsl kIns (.slice A6 J.map.length c7) J.map, rsl kIns (.slice A11 J.comb.length c12) J.comb, rsl kIns (.slice A16 J.red.length c17) J.red, rsl (kInt .i64) (.slice A21 J.marks.length c22) J.marks, gl] := H
  exact fin ⟨rfl, rfl⟩ H
 refine c_skip (q_then (c_seq ?_))
 have hJ : OkJ J := ⟨Classical.not_not.1 h28, gm, gc, gr⟩
 have hus := hJ.us
 have hpt := hJ.parts
 have hfu := hJ.fuel
 have hch := hJ.chunk
 have hwi := hJ.window
 unfold In64 at gk
 refine c_reg (s_val rfl rfl (r_ldA (cs := [.slice A1 J.us.length c2, .int .i64 J.parts, .slice A6 J.map.length c7, .slice A11 J.comb.length c12, .slice A16 J.red.length c17, .int .i64 J.chunk, .int .i64 J.window, .int .i64 J.fuel, .slice A21 J.marks.length c22]) rfl ty43 rfl rfl (H.cellsI 0 rfl rfl)) (s_alloc rfl rfl rfl zr43 H (fun b29 w H => (s_st rfl rfl rfl ty43 rfl rfl H rfl (Nat.le_of_ble_eq_true rfl) (fun u hu => by simp [Value.cells] at hu; rcases hu with rfl | rfl | rfl | rfl | rfl | rfl | rfl | rfl | rfl <;> rfl) (fun w H => ?_)))))
 replace H : Hd _ _ _ [blk b29 [.slice A1 J.us.length c2, .int .i64 J.parts, .slice A6 J.map.length c7, .slice A11 J.comb.length c12, .slice A16 J.red.length c17, .int .i64 J.chunk, .int .i64 J.window, .int .i64 J.fuel, .slice A21 J.marks.length c22] 43, blk b26 [.slice A1 J.us.length c2, .int .i64 J.parts, .slice A6 J.map.length c7, .slice A11 J.comb.length c12, .slice A16 J.red.length c17, .int .i64 J.chunk, .int .i64 J.window, .int .i64 J.fuel, .slice A21 J.marks.length c22] 43] [rsl (kHd kPair) (.slice A1 J.us.length c2) J.us, rsl (kSl kPair) (.slice A1 J.us.length c2) ss, rsl kIns (.slice A6 J.map.length c7) J.map, rsl kIns (.slice A11 J.comb.length c12) J.comb, rsl kIns (.slice A16 J.red.length c17) J.red, rsl (kInt .i64) (.slice A21 J.marks.length c22) J.marks, gl] := H
 refine s_nil (q_then (c_seq (c_reg (s_1 rfl (sc (low_ok chunk 7 (by unfold In64; omega) (by omega) (by omega)) H l0 rfl rfl (e_fn kn30 rfl rfl) ?_)))))
 rintro _ _ w ⟨rfl, rfl⟩ H
 obtain ⟨lo30, hl31, hl32, hl33⟩ : ∃ z : Int, IntKind.u64.wrap chunk % 7 = z ∧ 0 ≤ z ∧ z < 7 := ⟨_, rfl, Int.emod_nonneg _ (by omega), Int.emod_lt_of_pos _ (by omega)⟩
 rw [hl31]
 refine s_val rfl rfl (r_add (z := 1 + lo30) rfl rfl rfl (w64 (by omega) (by omega))) (s_1 rfl (sc (low_ok window 4 (by unfold In64; omega) (by omega) (by omega)) H l0 rfl rfl (e_fn kn30 rfl rfl) ?_))
 rintro _ _ w ⟨rfl, rfl⟩ H
 obtain ⟨lo34, hl35, hl36, hl37⟩ : ∃ z : Int, IntKind.u64.wrap window % 4 = z ∧ 0 ≤ z ∧ z < 4 := ⟨_, rfl, Int.emod_nonneg _ (by omega), Int.emod_lt_of_pos _ (by omega)⟩
 rw [hl35]
 refine s_val rfl rfl (r_add (z := 1 + lo34) rfl rfl rfl (w64 (by omega) (by omega))) (s_val rfl rfl (r_fa rfl fo43_5 rfl) (s_st rfl rfl rfl ty3 rfl rfl H rfl (Nat.le_of_ble_eq_true rfl) (fun u hu => by simp [Value.cells] at hu; subst hu; rfl) (fun w H => ?_)))
 replace H : Hd _ _ _ [blk b29 [.slice A1 J.us.length c2, .int .i64 J.parts, .slice A6 J.map.length c7, .slice A11 J.comb.length c12, .slice A16 J.red.length c17, .int .i64 (1 + lo30), .int .i64 J.window, .int .i64 J.fuel, .slice A21 J.marks.length c22] 43, blk b26 [.slice A1 J.us.length c2, .int .i64 J.parts, .slice A6 J.map.length c7, .slice A11 J.comb.length c12, .slice A16 J.red.length c17, .int .i64 J.chunk, .int .i64 J.window, .int .i64 J.fuel, .slice A21 J.marks.length c22] 43] [rsl (kHd kPair) (.slice A1 J.us.length c2) J.us, rsl (kSl kPair) (.slice A1 J.us.length c2) ss, rsl kIns (.slice A6 J.map.length c7) J.map, rsl kIns (.slice A11 J.comb.length c12) J.comb, rsl kIns (.slice A16 J.red.length c17) J.red, rsl (kInt .i64) (.slice A21 J.marks.length c22) J.marks, gl] := H
 refine s_val rfl rfl (r_fa rfl fo43_6 rfl) (s_st rfl rfl rfl ty3 rfl rfl H rfl (Nat.le_of_ble_eq_true rfl) (fun u hu => by simp [Value.cells] at hu; subst hu; rfl) (fun w H => ?_))
 replace H := H.h1 (A := blk b29 [.slice A1 J.us.length c2, .int .i64 J.parts, .slice A6 J.map.length c7, .slice A11 J.comb.length c12, .slice A16 J.red.length c17, .int .i64 (1 + lo30), .int .i64 (1 + lo34), .int .i64 J.fuel, .slice A21 J.marks.length c22] 43)
 refine s_val rfl rfl (r_fa rfl fo43_8 rfl) (s_st rfl rfl rfl ty41 rfl rfl H rfl (Nat.le_of_ble_eq_true rfl) (fun u hu => by simp [Value.cells] at hu; subst hu; rfl) (fun w H => ?_))
 replace H := H.h1 (A := blk b29 [.slice A1 J.us.length c2, .int .i64 J.parts, .slice A6 J.map.length c7, .slice A11 J.comb.length c12, .slice A16 J.red.length c17, .int .i64 (1 + lo30), .int .i64 (1 + lo34), .int .i64 J.fuel, .slice none 0 0] 43)
 refine s_nil (q_then (c_seq (c_reg (s_val rfl rfl (r_ldA (cs := [.slice A1 J.us.length c2, .int .i64 J.parts, .slice A6 J.map.length c7, .slice A11 J.comb.length c12, .slice A16 J.red.length c17, .int .i64 J.chunk, .int .i64 J.window, .int .i64 J.fuel, .slice A21 J.marks.length c22]) rfl ty43 rfl rfl (H.cellsI 1 rfl rfl)) (sc (whole_ok (.slice A1 J.us.length c2) (.slice A6 J.map.length c7) (.slice A11 J.comb.length c12) (.slice A16 J.red.length c17) (.slice A21 J.marks.length c22) J hJ) H (lR 0 rfl (lR 2 rfl (lR 3 rfl (lR 4 rfl (lR 5 rfl (lR 6 rfl l0)))))) rfl rfl (e_fn kn24 rfl rfl) ?_)))))
 rintro _ _ w ⟨u38, zs39, rfl, rfl, hz40⟩ H
 replace H := H.h1 (A := osl (kHd kPair) u38 zs39)
 refine s_k 7 rfl (s_nil (q_then (c_seq (c_reg (s_val rfl rfl (r_ldA (cs := [.slice A1 J.us.length c2, .int .i64 J.parts, .slice A6 J.map.length c7, .slice A11 J.comb.length c12, .slice A16 J.red.length c17, .int .i64 (1 + lo30), .int .i64 (1 + lo34), .int .i64 J.fuel, .slice none 0 0]) rfl ty43 rfl rfl (H.cellsI 1 rfl rfl)) (sc (whole_ok (.slice A1 J.us.length c2) (.slice A6 J.map.length c7) (.slice A11 J.comb.length c12) (.slice A16 J.red.length c17) (.slice none 0 0) (altJ J J.comb (1 + lo30) (1 + lo34) J.fuel []) (ok_alt hJ hJ.comb0 hJ.comb (by omega) (by omega) (by omega) (by decide) trivial)) H (lR 0 rfl (lR 2 rfl (lR 3 rfl (lR 4 rfl (lX (fun F _ _ => rsl_nil _ _ F trivial (by decide)) (lR 6 rfl l0)))))) rfl rfl (e_fn kn24 rfl rfl) ?_))))))
 rintro _ _ w ⟨u41, zs42, rfl, rfl, hz43⟩ H
 replace H := H.h1 (A := osl (kHd kPair) u41 zs42)
 rw [whole_alt] at hz43 ⊢
 refine s_k 7 rfl (s_nil (q_then (c_seq (c_seq (c_reg (s_k 2 rfl (s_val rfl rfl (r_ne rfl rfl rfl) (s_1 rfl ?_))))))))
 refine s_dec (d := 52) rfl (fun h44 => ?_) (fun h44 => ?_)
 ·exact (h44 rfl).elim
 refine s_k 2 rfl (s_val rfl rfl (r_ne rfl rfl rfl) (s_k 2 rfl ?_))
 refine s_dec (d := 57) rfl (fun h45 => ?_) (fun h45 => ?_)
 ·exact (h45 rfl).elim
 refine s_k 2 rfl (sc (sameRuns_ok u38 zs39 u41 zs42) H (lA 1 rfl own_rd (lA 0 rfl own_rd l0)) rfl rfl (e_fn kn29 rfl rfl) ?_)
 rintro _ _ w ⟨rfl, rfl⟩ H
 refine s_val rfl rfl (r_notP rfl rfl) (s_1 rfl (s_nil (q_then ?_)))
 refine c_dec rfl (fun h46 => ?_) (fun h46 => ?_)
 ·exact (h46 (hz40.trans hz43.symm)).elim
 refine c_skip (q_then (c_seq ?_))
 replace H := H.sel 4 [0, 1, 3, 2] [] rfl (by kernel_rfl)
 replace H : Hd _ _ _ [osl (kHd kPair) u41 zs42, osl (kHd kPair) u38 zs39, blk b26 [.slice A1 J.us.length c2, .int .i64 J.parts, .slice A6 J.map.length c7, .slice A11 J.comb.length c12, .slice A16 J.red.length c17, .int .i64 J.chunk, .int .i64 J.window, .int .i64 J.fuel, .slice A21 J.marks.length c22] 43, blk b29 [.slice A1 J.us.length c2, .int .i64 J.parts, .slice A6 J.map.length c7, .slice A11 J.comb.length c12, .slice A16 J.red.length c17, .int .i64 (1 + lo30), .int .i64 (1 + lo34), .int .i64 J.fuel, .slice none 0 0] 43] [rsl (kHd kPair) (.slice A1 J.us.length c2) J.us, rsl (kSl kPair) (.slice A1 J.us.length c2) ss, rsl kIns (.slice A6 J.map.length c7) J.map, rsl kIns (.slice A11 J.comb.length c12) J.comb, rsl kIns (.slice A16 J.red.length c17) J.red, rsl (kInt .i64) (.slice A21 J.marks.length c22) J.marks, gl] := H
 refine c_ord (.e 0 (.e 2 (.e 3 (.b 1 4 (.m 4 (.e 5 (.e 6 (.m 7 (.e 8 (.e 9 (.m 10 .z))))))) (.e 5 (.e 6 (.b 1 7 (.m 7 (.e 8 (.e 9 (.m 10 .z)))) (.m 1 (.e 8 (.e 9 (.m 10 .z))))))))))) (fun w => ∃ Ar, Hd w0 F0 w (osl (kHd kPair) u41 zs42 :: osl (kHd kPair) u38 zs39 :: blk b26 [.slice A1 J.us.length c2, .int .i64 J.parts, .slice A6 J.map.length c7, .slice A11 J.comb.length c12, .slice A16 J.red.length c17, .int .i64 J.chunk, .int .i64 J.window, .int .i64 J.fuel, .slice A21 J.marks.length c22] 43 :: Ar) [rsl (kHd kPair) (.slice A1 J.us.length c2) J.us, rsl (kSl kPair) (.slice A1 J.us.length c2) ss, rsl kIns (.slice A6 J.map.length c7) J.map, rsl kIns (.slice A11 J.comb.length c12) J.comb, rsl kIns (.slice A16 J.red.length c17) J.red, rsl (kInt .i64) (.slice A21 J.marks.length c22) J.marks, gl]) mo (by kernel_rfl) (fun w H => ⟨_, H⟩) H (fun w H => (d_val rfl rfl rfl (fun w ⟨Ar, H⟩ => r_fa rfl fo43_7 rfl) ?_))
 refine d_1 rfl (d_val rfl rfl rfl (fun w ⟨Ar, H⟩ => r_fa rfl fo43_7 rfl) ?_)
 refine d_both rfl rfl ?_ ?_
 ·refine s_val rfl rfl (r_ld rfl ty3 rfl (H.cellI 3 rfl rfl)) (d_back ⟨_, H⟩ (d_main rfl (s_val rfl rfl (r_ld rfl ty3 rfl (H.cellI 3 rfl rfl)) (d_back ⟨_, H⟩ (d_val rfl rfl rfl (fun w ⟨Ar, H⟩ => r_sub (z := 2000 - J.fuel) rfl rfl rfl (w64 (by omega) (by omega))) (d_val rfl rfl rfl (fun w ⟨Ar, H⟩ => r_add (z := (2000 - J.fuel) + 1) rfl rfl rfl (w64 (by omega) (by omega))) (d_main rfl (sc (low_ok fuel ((2000 - J.fuel) + 1) (by unfold In64; omega) (by omega) (by omega)) H l0 rfl rfl (e_fn kn30 rfl rfl) ?_))))))))
  rintro _ _ w ⟨rfl, rfl⟩ H
  obtain ⟨lo47, hl48, hl49, hl50⟩ : ∃ z : Int, IntKind.u64.wrap fuel % ((2000 - J.fuel) + 1) = z ∧ 0 ≤ z ∧ z < ((2000 - J.fuel) + 1) := ⟨_, rfl, Int.emod_nonneg _ (by omega), Int.emod_lt_of_pos _ (by omega)⟩
  rw [hl48]
  refine d_back ⟨_, H⟩ (d_val rfl rfl rfl (fun w ⟨Ar, H⟩ => r_add (z := J.fuel + lo47) rfl rfl rfl (w64 (by omega) (by omega))) (d_val rfl rfl rfl (fun w ⟨Ar, H⟩ => r_fa rfl fo43_7 rfl) (d_main rfl ?_)))
  replace H := H.p3
  refine s_st rfl rfl rfl ty3 rfl rfl H rfl (Nat.le_of_ble_eq_true rfl) (fun u hu => by simp [Value.cells] at hu; subst hu; rfl) (fun w H => ?_)
  replace H : Hd _ _ _ [blk b29 [.slice A1 J.us.length c2, .int .i64 J.parts, .slice A6 J.map.length c7, .slice A11 J.comb.length c12, .slice A16 J.red.length c17, .int .i64 (1 + lo30), .int .i64 (1 + lo34), .int .i64 (J.fuel + lo47), .slice none 0 0] 43, osl (kHd kPair) u41 zs42, osl (kHd kPair) u38 zs39, blk b26 [.slice A1 J.us.length c2, .int .i64 J.parts, .slice A6 J.map.length c7, .slice A11 J.comb.length c12, .slice A16 J.red.length c17, .int .i64 J.chunk, .int .i64 J.window, .int .i64 J.fuel, .slice A21 J.marks.length c22] 43] [rsl (kHd kPair) (.slice A1 J.us.length c2) J.us, rsl (kSl kPair) (.slice A1 J.us.length c2) ss, rsl kIns (.slice A6 J.map.length c7) J.map, rsl kIns (.slice A11 J.comb.length c12) J.comb, rsl kIns (.slice A16 J.red.length c17) J.red, rsl (kInt .i64) (.slice A21 J.marks.length c22) J.marks, gl] := H
  replace H := H.p3.p3.p3
  refine d_back ⟨_, H⟩ (d_nil (q_then (c_seq (c_reg (s_val rfl rfl (r_ldA (cs := [.slice A1 J.us.length c2, .int .i64 J.parts, .slice A6 J.map.length c7, .slice A11 J.comb.length c12, .slice A16 J.red.length c17, .int .i64 (1 + lo30), .int .i64 (1 + lo34), .int .i64 (J.fuel + lo47), .slice none 0 0]) rfl ty43 rfl rfl (H.cellsI 3 rfl rfl)) (sc (whole_ok (.slice A1 J.us.length c2) (.slice A6 J.map.length c7) (.slice A11 J.comb.length c12) (.slice A16 J.red.length c17) (.slice none 0 0) (altJ J J.comb (1 + lo30) (1 + lo34) (J.fuel + lo47) []) (ok_alt hJ hJ.comb0 hJ.comb (by omega) (by omega) (by omega) (by decide) trivial)) H (lR 0 rfl (lR 2 rfl (lR 3 rfl (lR 4 rfl (lX (fun F _ _ => rsl_nil _ _ F trivial (by decide)) (lR 6 rfl l0)))))) rfl rfl (e_fn kn24 rfl rfl) ?_))))))
  rintro _ _ w ⟨u51, zs52, rfl, rfl, hz53⟩ H
  replace H := H.h1 (A := osl (kHd kPair) u51 zs52)
  refine s_k 7 rfl (s_nil (q_then (c_seq (c_reg (s_1 rfl (s_val rfl rfl (r_ne rfl rfl rfl) (s_1 rfl ?_)))))))
  refine s_dec (d := 81) rfl (fun h54 => ?_) (fun h54 => ?_)
  ·refine s_k 9 rfl (sc awake13_ok H (lR 6 rfl l0) rfl rfl (e_fn kn23 rfl rfl) ?_)
   rintro _ _ w ⟨rfl, rfl⟩ H
   refine s_k 2 rfl (s_nil (q_then (c_ret (q_ret1 rfl rfl ?_))))
   replace H := H.nil
   replace H : Hd _ _ _ [] [rsl (kHd kPair) (.slice A1 J.us.length c2) J.us, rsl (kSl kPair) (.slice A1 J.us.length c2) ss, rsl kIns (.slice A6 J.map.length c7) J.map, rsl kIns (.slice A11 J.comb.length c12) J.comb, rsl kIns (.slice A16 J.red.length c17) J.red, rsl (kInt .i64) (.slice A21 J.marks.length c22) J.marks, gl] := H
   exact fin ⟨rfl, rfl⟩ H
  refine s_1 rfl (s_val rfl rfl (r_eq rfl rfl rfl) (s_1 rfl ?_))
  refine s_dec (d := 84) rfl (fun h55 => ?_) (fun h55 => ?_)
  ·refine s_k 2 rfl (sc (sameRuns_ok u38 zs39 u51 zs52) H (lA 2 rfl own_rd (lA 0 rfl own_rd l0)) rfl rfl (e_fn kn29 rfl rfl) ?_)
   rintro _ _ w ⟨rfl, rfl⟩ H
   refine s_k 3 rfl ?_
   refine s_dec (d := 90) rfl (fun h56 => ?_) (fun h56 => ?_)
   ·refine sc awake13_ok H (lR 6 rfl l0) rfl rfl (e_fn kn23 rfl rfl) ?_
    rintro _ _ w ⟨rfl, rfl⟩ H
    refine s_k 2 rfl (s_nil (q_then (c_ret (q_ret1 rfl rfl ?_))))
    replace H := H.nil
    replace H : Hd _ _ _ [] [rsl (kHd kPair) (.slice A1 J.us.length c2) J.us, rsl (kSl kPair) (.slice A1 J.us.length c2) ss, rsl kIns (.slice A6 J.map.length c7) J.map, rsl kIns (.slice A11 J.comb.length c12) J.comb, rsl kIns (.slice A16 J.red.length c17) J.red, rsl (kInt .i64) (.slice A21 J.marks.length c22) J.marks, gl] := H
    exact fin ⟨rfl, rfl⟩ H
   exact (h56 (by rw [hz40, hz53, whole_more (D := dg) J _ _ _ _ (by omega) (Classical.not_not.1 h54)])).elim
  exact (h55 (by rw [whole_more (D := dg) J _ _ _ _ (by omega) (Classical.not_not.1 h54)]; exact Classical.not_not.1 h54)).elim
 refine s_val rfl rfl (r_ld rfl ty3 rfl (H.cellI 3 rfl rfl)) (d_back ⟨_, H⟩ (d_val rfl rfl rfl (fun w ⟨Ar, H⟩ => r_sub (z := 2000 - J.fuel) rfl rfl rfl (w64 (by omega) (by omega))) (d_val rfl rfl rfl (fun w ⟨Ar, H⟩ => r_add (z := (2000 - J.fuel) + 1) rfl rfl rfl (w64 (by omega) (by omega))) ?_)))
 refine d_both rfl rfl ?_ ?_
 ·refine s_val rfl rfl (r_ld rfl ty3 rfl (H.cellI 3 rfl rfl)) (d_back ⟨_, H⟩ (d_main rfl (sc (low_ok fuel ((2000 - J.fuel) + 1) (by unfold In64; omega) (by omega) (by omega)) H l0 rfl rfl (e_fn kn30 rfl rfl) ?_)))
  rintro _ _ w ⟨rfl, rfl⟩ H
  obtain ⟨lo57, hl58, hl59, hl60⟩ : ∃ z : Int, IntKind.u64.wrap fuel % ((2000 - J.fuel) + 1) = z ∧ 0 ≤ z ∧ z < ((2000 - J.fuel) + 1) := ⟨_, rfl, Int.emod_nonneg _ (by omega), Int.emod_lt_of_pos _ (by omega)⟩
  rw [hl58]
  refine d_back ⟨_, H⟩ (d_val rfl rfl rfl (fun w ⟨Ar, H⟩ => r_add (z := J.fuel + lo57) rfl rfl rfl (w64 (by omega) (by omega))) (d_val rfl rfl rfl (fun w ⟨Ar, H⟩ => r_fa rfl fo43_7 rfl) (d_main rfl ?_)))
  replace H := H.p3
  refine s_st rfl rfl rfl ty3 rfl rfl H rfl (Nat.le_of_ble_eq_true rfl) (fun u hu => by simp [Value.cells] at hu; subst hu; rfl) (fun w H => ?_)
  replace H : Hd _ _ _ [blk b29 [.slice A1 J.us.length c2, .int .i64 J.parts, .slice A6 J.map.length c7, .slice A11 J.comb.length c12, .slice A16 J.red.length c17, .int .i64 (1 + lo30), .int .i64 (1 + lo34), .int .i64 (J.fuel + lo57), .slice none 0 0] 43, osl (kHd kPair) u41 zs42, osl (kHd kPair) u38 zs39, blk b26 [.slice A1 J.us.length c2, .int .i64 J.parts, .slice A6 J.map.length c7, .slice A11 J.comb.length c12, .slice A16 J.red.length c17, .int .i64 J.chunk, .int .i64 J.window, .int .i64 J.fuel, .slice A21 J.marks.length c22] 43] [rsl (kHd kPair) (.slice A1 J.us.length c2) J.us, rsl (kSl kPair) (.slice A1 J.us.length c2) ss, rsl kIns (.slice A6 J.map.length c7) J.map, rsl kIns (.slice A11 J.comb.length c12) J.comb, rsl kIns (.slice A16 J.red.length c17) J.red, rsl (kInt .i64) (.slice A21 J.marks.length c22) J.marks, gl] := H
  replace H := H.p3.p3.p3
  refine d_back ⟨_, H⟩ (d_nil (q_then (c_seq (c_reg (s_val rfl rfl (r_ldA (cs := [.slice A1 J.us.length c2, .int .i64 J.parts, .slice A6 J.map.length c7, .slice A11 J.comb.length c12, .slice A16 J.red.length c17, .int .i64 (1 + lo30), .int .i64 (1 + lo34), .int .i64 (J.fuel + lo57), .slice none 0 0]) rfl ty43 rfl rfl (H.cellsI 3 rfl rfl)) (sc (whole_ok (.slice A1 J.us.length c2) (.slice A6 J.map.length c7) (.slice A11 J.comb.length c12) (.slice A16 J.red.length c17) (.slice none 0 0) (altJ J J.comb (1 + lo30) (1 + lo34) (J.fuel + lo57) []) (ok_alt hJ hJ.comb0 hJ.comb (by omega) (by omega) (by omega) (by decide) trivial)) H (lR 0 rfl (lR 2 rfl (lR 3 rfl (lR 4 rfl (lX (fun F _ _ => rsl_nil _ _ F trivial (by decide)) (lR 6 rfl l0)))))) rfl rfl (e_fn kn24 rfl rfl) ?_))))))
  rintro _ _ w ⟨u61, zs62, rfl, rfl, hz63⟩ H
  replace H := H.h1 (A := osl (kHd kPair) u61 zs62)
  refine s_k 7 rfl (s_nil (q_then (c_seq (c_reg (s_1 rfl (s_val rfl rfl (r_ne rfl rfl rfl) (s_1 rfl ?_)))))))
  refine s_dec (d := 81) rfl (fun h64 => ?_) (fun h64 => ?_)
  ·refine s_k 9 rfl (sc awake13_ok H (lR 6 rfl l0) rfl rfl (e_fn kn23 rfl rfl) ?_)
   rintro _ _ w ⟨rfl, rfl⟩ H
   refine s_k 2 rfl (s_nil (q_then (c_ret (q_ret1 rfl rfl ?_))))
   replace H := H.nil
   replace H : Hd _ _ _ [] [rsl (kHd kPair) (.slice A1 J.us.length c2) J.us, rsl (kSl kPair) (.slice A1 J.us.length c2) ss, rsl kIns (.slice A6 J.map.length c7) J.map, rsl kIns (.slice A11 J.comb.length c12) J.comb, rsl kIns (.slice A16 J.red.length c17) J.red, rsl (kInt .i64) (.slice A21 J.marks.length c22) J.marks, gl] := H
   exact fin ⟨rfl, rfl⟩ H
  refine s_1 rfl (s_val rfl rfl (r_eq rfl rfl rfl) (s_1 rfl ?_))
  refine s_dec (d := 84) rfl (fun h65 => ?_) (fun h65 => ?_)
  ·refine s_k 2 rfl (sc (sameRuns_ok u38 zs39 u61 zs62) H (lA 2 rfl own_rd (lA 0 rfl own_rd l0)) rfl rfl (e_fn kn29 rfl rfl) ?_)
   rintro _ _ w ⟨rfl, rfl⟩ H
   refine s_k 3 rfl ?_
   refine s_dec (d := 90) rfl (fun h66 => ?_) (fun h66 => ?_)
   ·refine sc awake13_ok H (lR 6 rfl l0) rfl rfl (e_fn kn23 rfl rfl) ?_
    rintro _ _ w ⟨rfl, rfl⟩ H
    refine s_k 2 rfl (s_nil (q_then (c_ret (q_ret1 rfl rfl ?_))))
    replace H := H.nil
    replace H : Hd _ _ _ [] [rsl (kHd kPair) (.slice A1 J.us.length c2) J.us, rsl (kSl kPair) (.slice A1 J.us.length c2) ss, rsl kIns (.slice A6 J.map.length c7) J.map, rsl kIns (.slice A11 J.comb.length c12) J.comb, rsl kIns (.slice A16 J.red.length c17) J.red, rsl (kInt .i64) (.slice A21 J.marks.length c22) J.marks, gl] := H
    exact fin ⟨rfl, rfl⟩ H
   exact (h66 (by rw [hz40, hz63, whole_more (D := dg) J _ _ _ _ (by omega) (Classical.not_not.1 h64)])).elim
  exact (h65 (by rw [whole_more (D := dg) J _ _ _ _ (by omega) (Classical.not_not.1 h64)]; exact Classical.not_not.1 h64)).elim
 refine sc (low_ok fuel ((2000 - J.fuel) + 1) (by unfold In64; omega) (by omega) (by omega)) H l0 rfl rfl (e_fn kn30 rfl rfl) ?_
 rintro _ _ w ⟨rfl, rfl⟩ H
 obtain ⟨lo67, hl68, hl69, hl70⟩ : ∃ z : Int, IntKind.u64.wrap fuel % ((2000 - J.fuel) + 1) = z ∧ 0 ≤ z ∧ z < ((2000 - J.fuel) + 1) := ⟨_, rfl, Int.emod_nonneg _ (by omega), Int.emod_lt_of_pos _ (by omega)⟩
 rw [hl68]
 refine d_back ⟨_, H⟩ (d_main rfl (s_val rfl rfl (r_ld rfl ty3 rfl (H.cellI 3 rfl rfl)) (d_back ⟨_, H⟩ (d_val rfl rfl rfl (fun w ⟨Ar, H⟩ => r_add (z := J.fuel + lo67) rfl rfl rfl (w64 (by omega) (by omega))) (d_val rfl rfl rfl (fun w ⟨Ar, H⟩ => r_fa rfl fo43_7 rfl) (d_main rfl ?_))))))
 replace H := H.p3
 refine s_st rfl rfl rfl ty3 rfl rfl H rfl (Nat.le_of_ble_eq_true rfl) (fun u hu => by simp [Value.cells] at hu; subst hu; rfl) (fun w H => ?_)
 replace H : Hd _ _ _ [blk b29 [.slice A1 J.us.length c2, .int .i64 J.parts, .slice A6 J.map.length c7, .slice A11 J.comb.length c12, .slice A16 J.red.length c17, .int .i64 (1 + lo30), .int .i64 (1 + lo34), .int .i64 (J.fuel + lo67), .slice none 0 0] 43, osl (kHd kPair) u41 zs42, osl (kHd kPair) u38 zs39, blk b26 [.slice A1 J.us.length c2, .int .i64 J.parts, .slice A6 J.map.length c7, .slice A11 J.comb.length c12, .slice A16 J.red.length c17, .int .i64 J.chunk, .int .i64 J.window, .int .i64 J.fuel, .slice A21 J.marks.length c22] 43] [rsl (kHd kPair) (.slice A1 J.us.length c2) J.us, rsl (kSl kPair) (.slice A1 J.us.length c2) ss, rsl kIns (.slice A6 J.map.length c7) J.map, rsl kIns (.slice A11 J.comb.length c12) J.comb, rsl kIns (.slice A16 J.red.length c17) J.red, rsl (kInt .i64) (.slice A21 J.marks.length c22) J.marks, gl] := H
 replace H := H.p3.p3.p3
 refine d_back ⟨_, H⟩ (d_nil (q_then (c_seq (c_reg (s_val rfl rfl (r_ldA (cs := [.slice A1 J.us.length c2, .int .i64 J.parts, .slice A6 J.map.length c7, .slice A11 J.comb.length c12, .slice A16 J.red.length c17, .int .i64 (1 + lo30), .int .i64 (1 + lo34), .int .i64 (J.fuel + lo67), .slice none 0 0]) rfl ty43 rfl rfl (H.cellsI 3 rfl rfl)) (sc (whole_ok (.slice A1 J.us.length c2) (.slice A6 J.map.length c7) (.slice A11 J.comb.length c12) (.slice A16 J.red.length c17) (.slice none 0 0) (altJ J J.comb (1 + lo30) (1 + lo34) (J.fuel + lo67) []) (ok_alt hJ hJ.comb0 hJ.comb (by omega) (by omega) (by omega) (by decide) trivial)) H (lR 0 rfl (lR 2 rfl (lR 3 rfl (lR 4 rfl (lX (fun F _ _ => rsl_nil _ _ F trivial (by decide)) (lR 6 rfl l0)))))) rfl rfl (e_fn kn24 rfl rfl) ?_))))))
 rintro _ _ w ⟨u71, zs72, rfl, rfl, hz73⟩ H
 replace H := H.h1 (A := osl (kHd kPair) u71 zs72)
 refine s_k 7 rfl (s_nil (q_then (c_seq (c_reg (s_1 rfl (s_val rfl rfl (r_ne rfl rfl rfl) (s_1 rfl ?_)))))))
 refine s_dec (d := 81) rfl (fun h74 => ?_) (fun h74 => ?_)
 ·refine s_k 9 rfl (sc awake13_ok H (lR 6 rfl l0) rfl rfl (e_fn kn23 rfl rfl) ?_)
  rintro _ _ w ⟨rfl, rfl⟩ H
  refine s_k 2 rfl (s_nil (q_then (c_ret (q_ret1 rfl rfl ?_))))
  replace H := H.nil
  replace H : Hd _ _ _ [] [rsl (kHd kPair) (.slice A1 J.us.length c2) J.us, rsl (kSl kPair) (.slice A1 J.us.length c2) ss, rsl kIns (.slice A6 J.map.length c7) J.map, rsl kIns (.slice A11 J.comb.length c12) J.comb, rsl kIns (.slice A16 J.red.length c17) J.red, rsl (kInt .i64) (.slice A21 J.marks.length c22) J.marks, gl] := H
  exact fin ⟨rfl, rfl⟩ H
 refine s_1 rfl (s_val rfl rfl (r_eq rfl rfl rfl) (s_1 rfl ?_))
 refine s_dec (d := 84) rfl (fun h75 => ?_) (fun h75 => ?_)
 ·refine s_k 2 rfl (sc (sameRuns_ok u38 zs39 u71 zs72) H (lA 2 rfl own_rd (lA 0 rfl own_rd l0)) rfl rfl (e_fn kn29 rfl rfl) ?_)
  rintro _ _ w ⟨rfl, rfl⟩ H
  refine s_k 3 rfl ?_
  refine s_dec (d := 90) rfl (fun h76 => ?_) (fun h76 => ?_)
  ·refine sc awake13_ok H (lR 6 rfl l0) rfl rfl (e_fn kn23 rfl rfl) ?_
   rintro _ _ w ⟨rfl, rfl⟩ H
   refine s_k 2 rfl (s_nil (q_then (c_ret (q_ret1 rfl rfl ?_))))
   replace H := H.nil
   replace H : Hd _ _ _ [] [rsl (kHd kPair) (.slice A1 J.us.length c2) J.us, rsl (kSl kPair) (.slice A1 J.us.length c2) ss, rsl kIns (.slice A6 J.map.length c7) J.map, rsl kIns (.slice A11 J.comb.length c12) J.comb, rsl kIns (.slice A16 J.red.length c17) J.red, rsl (kInt .i64) (.slice A21 J.marks.length c22) J.marks, gl] := H
   exact fin ⟨rfl, rfl⟩ H
  exact (h76 (by rw [hz40, hz73, whole_more (D := dg) J _ _ _ _ (by omega) (Classical.not_not.1 h74)])).elim
 exact (h75 (by rw [whole_more (D := dg) J _ _ _ _ (by omega) (Classical.not_not.1 h74)]; exact Classical.not_not.1 h74)).elim
theorem modelAlike_ok (vS vM vC vR vK : Value) (ss : List (List Pair)) (map comb red : List Ins) (marks : List Int) (parts chunk window fuel : Int) (wj : ((∀ x ∈ ss, (∀ p ∈ x, p.key.size ≤ 9223372036854775807 ∧ p.val.size ≤ 9223372036854775807) ∧ x.length ≤ 9223372036854775807) ∧ ss.length ≤ 9223372036854775807) ∧ ((∀ p ∈ map, In64 p.op ∧ In64 p.a ∧ p.s.size ≤ 9223372036854775807) ∧ map.length ≤ 9223372036854775807) ∧ ((∀ p ∈ comb, In64 p.op ∧ In64 p.a ∧ p.s.size ≤ 9223372036854775807) ∧ comb.length ≤ 9223372036854775807) ∧ ((∀ p ∈ red, In64 p.op ∧ In64 p.a ∧ p.s.size ≤ 9223372036854775807) ∧ red.length ≤ 9223372036854775807) ∧ (∀ x ∈ marks, In64 x) ∧ marks.length ≤ 9223372036854775807) (wn : In64 parts ∧ In64 chunk ∧ In64 window ∧ In64 fuel) (k1 : Int) (g1 : In64 k1) (k2 : Int) (g2 : In64 k2) (k3 : Int) (g3 : In64 k3) :
  Cn Tryz.prog 7 [.agg #[vS, .int .i64 parts, vM, vC, vR, .int .i64 chunk, .int .i64 window, .int .i64 fuel, vK], .int .i64 k1, .int .i64 k2, .int .i64 k3] [] [rsl (kSl kPair) vS ss, rsl kIns vM map, rsl kIns vC comb, rsl kIns vR red, rsl (kInt .i64) vK marks, gl] (fun v Bs => v = .bool true ∧ Bs = []) :=
 Cn.heads0 fun us hus => modelAlikeC_ok vS vM vC vR vK ⟨us, parts, map, comb, red, chunk, window, fuel, marks⟩ ss (fun i hi => (wj.2.1.1 i hi).2.1) (fun i hi => (wj.2.2.1.1 i hi).2.1) (fun i hi => (wj.2.2.2.1.1 i hi).2.1) k1 k2 k3 ⟨g1, g2, g3⟩
theorem v_foot {P : Program} {W : World} {name : String} {g : Nat} {cs : Array Value} (hg : P.globalNamed name = some g) (h : W.var? P name = some cs) : Old W g := by
 unfold World.var? at h
 rw [hg] at h
 simp only [Option.bind_some] at h
 show g < W.heap.size
 rcases Nat.lt_or_ge g W.heap.size with h' | h'
 ·exact h'
 ·simp [Array.getElem?_eq_none h'] at h
theorem star2 : "*" ++ "errors.errorString" = "*errors.errorString" := by decide
theorem ptrRow (u : TypeId) (h : Tryz.prog.typeName? 3 u = some "*errors.errorString") : u = 219 := typeName_ptr_named (nm := "errors.errorString") (by rw [star2]; kernel_rfl) (by kernel_rfl) (by decide) u (by rw [star2]; exact h)
theorem gn0 : Tryz.prog.globalNamed "internal/strconv.uint64pow10" = some 2 := by kernel_rfl
theorem gt0 : (Tryz.prog.globals[2]?).map (·.type) = some 215 := by kernel_rfl
theorem gn1 : Tryz.prog.globalNamed "strconv.ErrSyntax" = some 0 := by kernel_rfl
theorem gt1 : (Tryz.prog.globals[0]?).map (·.type) = some 168 := by kernel_rfl
theorem gn2 : Tryz.prog.globalNamed "strconv.ErrRange" = some 1 := by kernel_rfl
theorem gt2 : (Tryz.prog.globals[1]?).map (·.type) = some 168 := by kernel_rfl
theorem lu168 : Tryz.prog.underlying 168 = some (.interface (Tryz.prog.methodsAt 168)) := by kernel_rfl
theorem lu215 : Tryz.prog.underlying 215 = some (.array 20 86) := by kernel_rfl
theorem lu86 : Tryz.prog.underlying 86 = some (.int .u64) := by kernel_rfl
theorem lu219 : Tryz.prog.underlying 219 = some (.pointer 221) := by kernel_rfl
theorem lu221 : Tryz.prog.underlying 221 = some (.struct #[⟨ "s", 9, 0, false, "", "errors", 0⟩]) := by kernel_rfl
theorem lu9 : Tryz.prog.underlying 9 = some (.string) := by kernel_rfl
theorem lc86 : Tryz.prog.cellsOf 86 = 1 := by kernel_rfl
theorem lc215 : Tryz.prog.cellsOf 215 = 20 := by kernel_rfl
theorem lc221 : Tryz.prog.cellsOf 221 = 1 := by kernel_rfl
theorem lc9 : Tryz.prog.cellsOf 9 = 1 := by kernel_rfl
theorem gl_laid {W : World} (h : laidMet Tryz.prog Rows.foldEmptyRow.laid W) : gl.P W (Old W) := by
 refine ⟨?_, ?_, ?_⟩
 ·have h0 : laidMet Tryz.prog [("internal/strconv.uint64pow10", Lib.tabData .u64 Lib.pow10Tab)] W := by
   have e : Rows.foldEmptyRow.laid.filter (fun x => x.1 == "internal/strconv.uint64pow10") = [("internal/strconv.uint64pow10", Lib.tabData .u64 Lib.pow10Tab)] := by kernel_rfl
   have := h.filter (fun x => x.1 == "internal/strconv.uint64pow10"); rw [e] at this; exact this
  have hv := Lib.tabIs_of_head gn0 gt0 lu215 lu86 lc86 lc215 h0
  exact ⟨_, gn0, v_foot gn0 hv, _, hv, rfl⟩
 ·have h0 : laidMet Tryz.prog [("strconv.ErrSyntax", Rows.laid_strconv_ErrSyntax)] W := by
   have e : Rows.foldEmptyRow.laid.filter (fun x => x.1 == "strconv.ErrSyntax") = [("strconv.ErrSyntax", Rows.laid_strconv_ErrSyntax)] := by kernel_rfl
   have := h.filter (fun x => x.1 == "strconv.ErrSyntax"); rw [e] at this; exact this
  obtain ⟨a0, s0, hv, -⟩ := laid_sentinel h0 gn1 gt1 lu168 ptrRow lu219 lu221 rfl rfl lu9 lc221 lc9
  exact ⟨_, gn1, v_foot gn1 hv, _, hv, _, _, rfl⟩
 ·have h0 : laidMet Tryz.prog [("strconv.ErrRange", Rows.laid_strconv_ErrRange)] W := by
   have e : Rows.foldEmptyRow.laid.filter (fun x => x.1 == "strconv.ErrRange") = [("strconv.ErrRange", Rows.laid_strconv_ErrRange)] := by kernel_rfl
   have := h.filter (fun x => x.1 == "strconv.ErrRange"); rw [e] at this; exact this
  obtain ⟨a0, s0, hv, -⟩ := laid_sentinel h0 gn2 gt2 lu168 ptrRow lu219 lu221 rfl rfl lu9 lc221 lc9
  exact ⟨_, gn2, v_foot gn2 hv, _, hv, _, _, rfl⟩
end Go.Proofs.YtlpgdkbokakniaaGreatDoor.X
