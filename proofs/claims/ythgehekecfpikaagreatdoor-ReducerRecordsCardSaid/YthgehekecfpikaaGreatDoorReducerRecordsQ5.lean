/- ReducerRecords: texts XStg, N1, N2, J2, J3, J4, N3, N4, XOrd, N5, XRecO, XTwo, XOkR, XRedL, XRedO, XAct, L1, XCat, S1, joined by a program of ours; what nothing names is left out. -/
import Derived.Test.YthgehekecfpikaaGreatDoorReducerRecordsQ4
import Derived.KernelRfl
set_option linter.unusedVariables false
set_option linter.unusedSimpArgs false
namespace Go.Proofs.YthgehekecfpikaaGreatDoor.X
open Go
abbrev StE := (Int × Int) × Value × List (Value × List Pair)
def stE (e : StE) : (Int × Int) × List (List Pair) := (e.1, e.2.2.map (·.2))
def stV (e : StE) : (Int × Int) × Value := (e.1, e.2.1)
def stO (e : StE) : SP := osl (kHd kPair) e.2.1 e.2.2
def stgM (mb : Nat) (st : Stg) : SP := ex fun kvs : List StE => star [pure_ (kvs.map stE = st), mapK key2 mb (kvs.map stV), bigS stO kvs]
def stgI (t sb : Nat) (st : Stg) : SP := ex fun mb : Nat => star [blk sb [.map (some mb)] t, stgM mb st]
def nilS : Value := .slice none 0 0
def stW (k : Int × Int) : List StE → Value × List (Value × List Pair)
 | [] => (nilS, [])
 | e :: r => if e.1 = k then e.2 else stW k r
def stK (k : Int × Int) (kvs : List StE) : List StE := kvs.filter fun e => decide (e.1 ≠ k)
def setE (k : Int × Int) (x : Value × List (Value × List Pair)) : List StE → List StE
 | [] => [(k, x)]
 | e :: r => if e.1 = k then (k, x) :: r else e :: setE k x r
def sgSet : Stg → Int × Int → List (List Pair) → Stg
 | [], k, x => [(k, x)]
 | e :: s, k, x => if e.1 = k then (k, x) :: s else e :: sgSet s k x
section
variable {kvs : List StE} {k : Int × Int} {x : Value × List (Value × List Pair)}
theorem stW_look : ∀ kvs : List StE, (lookK k (kvs.map stV)).getD nilS = (stW k kvs).1
 | [] => rfl
 | e :: r => by
  show (if e.1 = k then some e.2.1 else lookK k (r.map stV)).getD nilS = (if e.1 = k then e.2 else stW k r).1
  split
  ·rfl
  ·exact stW_look r
theorem stW_of : ∀ kvs : List StE, (stW k kvs).2.map (·.2) = sgOf (kvs.map stE) k.1 k.2
 | [] => rfl
 | e :: r => by
  have hk : (e.1 = k) ↔ (e.1.1 = k.1 ∧ e.1.2 = k.2) := Prod.ext_iff
  show (if e.1 = k then e.2 else stW k r).2.map (·.2) = if e.1.1 = k.1 ∧ e.1.2 = k.2 then e.2.2.map (·.2) else sgOf (r.map stE) k.1 k.2
  by_cases h : e.1 = k
  ·rw [if_pos h, if_pos (hk.1 h)]
  ·rw [if_neg h, if_neg fun h2 => h (hk.2 h2)]
   exact stW_of r
theorem setE_V : ∀ kvs : List StE, (setE k x kvs).map stV = setK k x.1 (kvs.map stV)
 | [] => rfl
 | e :: r => by
  show (if e.1 = k then (k, x) :: r else e :: setE k x r).map stV = if e.1 = k then (k, x.1) :: r.map stV else stV e :: setK k x.1 (r.map stV)
  split
  ·rfl
  ·rw [List.map_cons, setE_V r]
theorem setE_E : ∀ kvs : List StE, (setE k x kvs).map stE = sgSet (kvs.map stE) k (x.2.map (·.2))
 | [] => rfl
 | e :: r => by
  show (if e.1 = k then (k, x) :: r else e :: setE k x r).map stE = if e.1 = k then (k, x.2.map (·.2)) :: r.map stE else stE e :: sgSet (r.map stE) k (x.2.map (·.2))
  split
  ·rfl
  ·rw [List.map_cons, setE_E r]
theorem sgSet_add (x : List Pair) : ∀ st : Stg, sgSet st k (sgOf st k.1 k.2 ++ [x]) = sgAdd st k.1 k.2 x
 | [] => rfl
 | e :: s => by
  have hk : (e.1 = k) ↔ (e.1.1 = k.1 ∧ e.1.2 = k.2) := Prod.ext_iff
  unfold sgSet sgOf sgAdd
  by_cases h : e.1 = k
  ·rw [if_pos h, if_pos (hk.1 h), if_pos (hk.1 h), h]
  ·rw [if_neg h, if_neg fun h2 => h (hk.2 h2), if_neg fun h2 => h (hk.2 h2), sgSet_add x s]
theorem nod_map (kvs : List StE) : NodK (kvs.map stV) ↔ (kvs.map (·.1)).Nodup := by
 unfold NodK
 rw [List.map_map]
 rfl
theorem stK_none (h : ∀ e ∈ kvs, e.1 ≠ k) : stK k kvs = kvs := List.filter_eq_self.2 fun e he => decide_eq_true (h e he)
theorem setE_perm : ∀ {kvs : List StE}, (kvs.map (·.1)).Nodup → (setE k x kvs).Perm ((k, x) :: stK k kvs)
 | [], _ => List.Perm.refl _
 | e :: r, hn => by
  rw [List.map_cons, List.nodup_cons] at hn
  unfold setE stK
  by_cases h : e.1 = k
  ·rw [if_pos h, List.filter_cons_of_neg (by simpa using h)]
   exact (List.Perm.of_eq (stK_none fun e2 he2 h2 => hn.1 (List.mem_map.2 ⟨e2, he2, h2.trans h.symm⟩)).symm).cons _
  ·rw [if_neg h, List.filter_cons_of_pos (p := fun e : StE => decide (e.1 ≠ k)) (decide_eq_true h)]
   exact ((setE_perm hn.2).cons e).trans (List.Perm.swap _ _ _)
theorem stW_perm : ∀ {kvs : List StE}, (kvs.map (·.1)).Nodup → (∃ e ∈ kvs, e.1 = k) → kvs.Perm ((k, stW k kvs) :: stK k kvs)
 | [], _, ⟨_, h, _⟩ => by cases h
 | e :: r, hn, ⟨e0, he0, hk0⟩ => by
  rw [List.map_cons, List.nodup_cons] at hn
  unfold stW stK
  by_cases h : e.1 = k
  ·rw [if_pos h, List.filter_cons_of_neg (by simpa using h)]
   rw [show (k, e.2) = e from by rw [← h]]
   exact (List.Perm.of_eq (stK_none fun e2 he2 h2 => hn.1 (List.mem_map.2 ⟨e2, he2, h2.trans h.symm⟩)).symm).cons _
  ·rw [if_neg h, List.filter_cons_of_pos (p := fun e : StE => decide (e.1 ≠ k)) (decide_eq_true h)]
   rcases List.mem_cons.1 he0 with rfl | he0
   ·exact absurd hk0 h
   ·exact ((stW_perm hn.2 ⟨e0, he0, hk0⟩).cons e).trans (List.Perm.swap _ _ _)
theorem stW_none (h : ∀ e ∈ kvs, e.1 ≠ k) : stW k kvs = (nilS, []) := by
 induction kvs with
 | nil => rfl
 | cons e r ih =>
  unfold stW
  rw [if_neg (h e (List.mem_cons_self ..))]
  exact ih fun e2 he2 => h e2 (List.mem_cons_of_mem _ he2)
end
section
variable {w0 w : World} {F0 : Foot} {As Rs : List SP} {t sb mb : Nat} {st : Stg} {kvs : List StE} {k : Int × Int} {v : Value} {us : List (Value × List Pair)}
theorem Hd.bigP {α : Type} {f : α → SP} {l l' : List α} (p : l.Perm l') (h : Hd w0 F0 w (bigS f l :: As) Rs) : Hd w0 F0 w (bigS f l' :: As) Rs := (h.stA.perm ((p.map f).append_right As)).stI
theorem Hd.stgC (he : kvs.map stE = st) (H : Hd w0 F0 w (blk sb [.map (some mb)] t :: mapK key2 mb (kvs.map stV) :: bigS stO kvs :: As) Rs) : Hd w0 F0 w (stgI t sb st :: As) Rs := by
 have h3 : Hd w0 F0 w (pure_ (kvs.map stE = st) :: mapK key2 mb (kvs.map stV) :: bigS stO kvs :: blk sb [.map (some mb)] t :: As) Rs :=
  (H.perm (((List.Perm.swap _ _ _).trans ((List.Perm.swap _ _ _).cons _)) : (blk sb [.map (some mb)] t :: mapK key2 mb (kvs.map stV) :: bigS stO kvs :: As).Perm (mapK key2 mb (kvs.map stV) :: bigS stO kvs :: blk sb [.map (some mb)] t :: As))).puI he
 have h4 : Hd w0 F0 w (stgM mb st :: blk sb [.map (some mb)] t :: As) Rs := Hd.exI (A := fun kvs : List StE => star [pure_ (kvs.map stE = st), mapK key2 mb (kvs.map stV), bigS stO kvs]) kvs (Hd.stI (Bs := [pure_ (kvs.map stE = st), mapK key2 mb (kvs.map stV), bigS stO kvs]) h3)
 exact Hd.exI (A := fun mb : Nat => star [blk sb [.map (some mb)] t, stgM mb st]) mb (Hd.stI (Bs := [blk sb [.map (some mb)] t, stgM mb st]) (h4.perm (List.Perm.swap _ _ _)))
theorem Hd.st0 (H : Hd w0 F0 w (blk sb [.map (some mb)] t :: mapK key2 mb [] :: As) Rs) : Hd w0 F0 w (stgI t sb [] :: As) Rs :=
 Hd.stgC (kvs := []) rfl (((H.perm (List.Perm.swap _ _ _)).big0 stO).perm (((List.Perm.swap _ _ _).trans ((List.Perm.swap _ _ _).cons _)).trans (List.Perm.swap _ _ _)))
theorem Hd.stgA (H : Hd w0 F0 w (stgI t sb st :: As) Rs) : ∃ mb kvs, kvs.map stE = st ∧ NodK (kvs.map stV) ∧ Hd w0 F0 w (blk sb [.map (some mb)] t :: mapK key2 mb (kvs.map stV) :: bigS stO kvs :: As) Rs := by
 obtain ⟨mb, H⟩ := Hd.exA H
 have H1 : Hd w0 F0 w (stgM mb st :: blk sb [.map (some mb)] t :: As) Rs := (show Hd w0 F0 w (blk sb [.map (some mb)] t :: stgM mb st :: As) Rs from H.stA).perm (List.Perm.swap _ _ _)
 obtain ⟨kvs, H2⟩ := Hd.exA H1
 have H3 : Hd w0 F0 w (pure_ (kvs.map stE = st) :: mapK key2 mb (kvs.map stV) :: bigS stO kvs :: blk sb [.map (some mb)] t :: As) Rs := H2.stA
 obtain ⟨he, H4⟩ := H3.puA
 obtain ⟨_, _, _, _, hn, _⟩ := H4.mapKf
 exact ⟨mb, kvs, he, hn, H4.perm (((List.Perm.swap _ _ _).cons _).trans (List.Perm.swap _ _ _))⟩
theorem Hd.stgO (k : Int × Int) (hn : NodK (kvs.map stV)) (H : Hd w0 F0 w (bigS stO kvs :: As) Rs) : Hd w0 F0 w (osl (kHd kPair) (stW k kvs).1 (stW k kvs).2 :: bigS stO (stK k kvs) :: As) Rs := by
 by_cases h : ∀ e ∈ kvs, e.1 ≠ k
 ·rw [stW_none h, stK_none h]
  exact H.newnil _
 ·have he : ∃ e ∈ kvs, e.1 = k := Classical.byContradiction fun h2 => h fun e he hk => h2 ⟨e, he, hk⟩
  have H1 := H.bigP (stW_perm ((nod_map kvs).1 hn) he)
  exact H1.bigO 0 rfl
theorem Hd.stgI_ (hn : NodK (kvs.map stV)) (H : Hd w0 F0 w (osl (kHd kPair) v us :: bigS stO (stK k kvs) :: As) Rs) : Hd w0 F0 w (bigS stO (setE k (v, us) kvs) :: As) Rs := by
 have H1 : Hd w0 F0 w (bigS stO (stK k kvs ++ [(k, v, us)]) :: As) Rs := Hd.bigN (f := stO) (x := (k, v, us)) H
 exact H1.bigP ((List.perm_append_comm (l₁ := stK k kvs) (l₂ := [(k, v, us)])).trans (setE_perm ((nod_map kvs).1 hn)).symm)
theorem Hd.stgI0 (hn : NodK (kvs.map stV)) (H : Hd w0 F0 w (osl (kHd kPair) (stW k kvs).1 (stW k kvs).2 :: bigS stO (stK k kvs) :: As) Rs) : Hd w0 F0 w (bigS stO kvs :: As) Rs := by
 by_cases h : ∀ e ∈ kvs, e.1 ≠ k
 ·have H1 := H.drop
  rwa [stK_none h] at H1
 ·have he : ∃ e ∈ kvs, e.1 = k := Classical.byContradiction fun h2 => h fun e he hk => h2 ⟨e, he, hk⟩
  have H1 : Hd w0 F0 w (bigS stO (stK k kvs ++ [(k, stW k kvs)]) :: As) Rs := Hd.bigN (f := stO) (x := (k, stW k kvs)) H
  exact H1.bigP ((List.perm_append_comm (l₁ := stK k kvs) (l₂ := [(k, stW k kvs)])).trans (stW_perm ((nod_map kvs).1 hn) he).symm)
end

set_option maxHeartbeats 4000000 in
theorem stNew_ok  :
    Cn Tryz.prog 128 [] [] [] (fun v Bs => ∃ b : Nat, v = .pointer (some ⟨b, 0, none⟩) ∧ Bs = [stgI 253 b ([])]) := by
 intro w0 F0 H
 refine enter Tryz.func128 rfl rfl (Nat.le_of_ble_eq_true rfl) (c_seq (c_reg (s_1 rfl (s_nil (q_then (c_seq (c_reg (s_mkmapK key2 rfl rfl rfl H (fun b1 w H => (s_val rfl rfl (r_bd (parts := [(0, .tmp 1)]) (vs := [.map (some b1)]) (cs := [.map (some b1)]) rfl bd253 rfl rfl) (s_box rfl rfl rfl rfl H (fun b2 w H => (s_1 rfl (s_nil (q_then ?_)))))))))))))))
 replace H : Hd _ _ _ [blk b2 [.map (some b1)] 253, mapK key2 b1 []] [] := H
 refine c_ret (q_ret1 rfl rfl ?_)
 replace H := H.st0 |>.h1 (A := stgI 253 b2 ([]))
 exact fin ⟨_, rfl, rfl⟩ H

set_option maxHeartbeats 4000000 in
theorem at_ok (r : Nat) (A : Option Addr) (m : Nat) (c : Nat) (vM2 : Value) (vC2 : Value) (vR2 : Value) (vK2 : Value) (J2 : Job) (cw : Int) (ct : Int) (co : Int) (part : Int) (ep : Int) (g : Nat → SpD) (hv : Nat → Value) (sb : Nat) (vs : Value) (n : Int) (hn : 0 ≤ n ∧ n < (m : Int)) (hm : m ≤ 6) :
    Cn Tryz.prog 118 [.pointer (some ⟨r, 0, none⟩), .int .i64 n] [] [blk r (redC (.slice A m c) vM2 vC2 vR2 vK2 J2 cw ct co part ep g hv sb vs) 185] (fun v Bs => v = .pointer (some ⟨r, 14 + (n).toNat * 5, none⟩) ∧ Bs = []) := by
 intro w0 F0 H
 refine enter Tryz.func118 rfl rfl (Nat.le_of_ble_eq_true rfl) (c_seq (c_reg (s_1 rfl (s_nil (q_then (c_seq (c_seq (c_reg (s_1 rfl (s_val rfl rfl (r_peq rfl un75 rfl rfl) (s_k 2 rfl (s_val rfl rfl (r_lt rfl rfl rfl) (s_k 2 rfl ?_)))))))))))))
 refine s_dec (d := 11) rfl (fun h1 => ?_) (fun h1 => ?_)
 ·exfalso; omega
 ·refine s_k 2 rfl (s_val rfl rfl (r_nilP rfl rfl) (s_val rfl rfl (r_fa rfl fo185_0 rfl) (s_val rfl rfl (r_fa rfl fo28_0 rfl) (s_val rfl rfl (r_fa rfl fo26_0 rfl) (s_val rfl rfl (r_ld rfl ty22 rfl (H.cellRI 0 rfl rfl)) (s_val rfl rfl (r_lenL rfl un22 rfl) (s_val rfl rfl (r_ge rfl rfl rfl) (s_1 rfl (s_nil (q_then ?_))))))))))
  refine c_dec rfl (fun h2 => ?_) (fun h2 => ?_)
  ·exfalso; omega
  ·refine c_skip (q_then (c_seq (c_reg (s_k 2 rfl (s_val rfl rfl (r_nilP rfl rfl) (s_val rfl rfl (r_fa rfl fo185_3 rfl) (s_val rfl rfl (r_iaB (p := 14 + (n).toNat * 5) rfl un182 is181 rfl rfl (by omega) (by omega) (by omega)) (s_1 rfl (s_nil (q_then (c_ret (q_ret1 rfl rfl ?_))))))))))))
   replace H : Hd _ _ _ [] [blk r (redC (.slice A m c) vM2 vC2 vR2 vK2 J2 cw ct co part ep g hv sb vs) 185] := H
   exact fin ⟨rfl, rfl⟩ H
set_option maxHeartbeats 4000000 in
theorem at_no (r : Nat) (A : Option Addr) (m : Nat) (c : Nat) (vM2 : Value) (vC2 : Value) (vR2 : Value) (vK2 : Value) (J2 : Job) (cw : Int) (ct : Int) (co : Int) (part : Int) (ep : Int) (g : Nat → SpD) (hv : Nat → Value) (sb : Nat) (vs : Value) (n : Int) (hn : ¬ (0 ≤ n ∧ n < (m : Int))) :
    Cn Tryz.prog 118 [.pointer (some ⟨r, 0, none⟩), .int .i64 n] [] [blk r (redC (.slice A m c) vM2 vC2 vR2 vK2 J2 cw ct co part ep g hv sb vs) 185] (fun v Bs => v = .pointer none ∧ Bs = []) := by
 intro w0 F0 H
 refine enter Tryz.func118 rfl rfl (Nat.le_of_ble_eq_true rfl) (c_seq (c_reg (s_1 rfl (s_nil (q_then (c_seq (c_seq (c_reg (s_1 rfl (s_val rfl rfl (r_peq rfl un75 rfl rfl) (s_k 2 rfl (s_val rfl rfl (r_lt rfl rfl rfl) (s_k 2 rfl ?_)))))))))))))
 refine s_dec (d := 11) rfl (fun h1 => ?_) (fun h1 => ?_)
 ·refine s_k 10 rfl (s_nil (q_then (c_yes rfl (c_seq (c_reg (s_1 rfl (s_nil (q_then (c_ret (q_thenR (q_ret1 rfl rfl ?_)))))))))))
  replace H : Hd _ _ _ [] [blk r (redC (.slice A m c) vM2 vC2 vR2 vK2 J2 cw ct co part ep g hv sb vs) 185] := H
  exact fin ⟨rfl, rfl⟩ H
 ·refine s_k 2 rfl (s_val rfl rfl (r_nilP rfl rfl) (s_val rfl rfl (r_fa rfl fo185_0 rfl) (s_val rfl rfl (r_fa rfl fo28_0 rfl) (s_val rfl rfl (r_fa rfl fo26_0 rfl) (s_val rfl rfl (r_ld rfl ty22 rfl (H.cellRI 0 rfl rfl)) (s_val rfl rfl (r_lenL rfl un22 rfl) (s_val rfl rfl (r_ge rfl rfl rfl) (s_1 rfl (s_nil (q_then ?_))))))))))
  refine c_dec rfl (fun h2 => ?_) (fun h2 => ?_)
  ·refine c_seq (c_reg (s_1 rfl (s_nil (q_then (c_ret (q_thenR (q_ret1 rfl rfl ?_)))))))
   replace H : Hd _ _ _ [] [blk r (redC (.slice A m c) vM2 vC2 vR2 vK2 J2 cw ct co part ep g hv sb vs) 185] := H
   exact fin ⟨rfl, rfl⟩ H
  ·exact c_skip (q_then (c_seq (c_reg (s_k 2 rfl (s_val rfl rfl (r_nilP rfl rfl) (s_val rfl rfl (r_fa rfl fo185_3 rfl) (s_val rfl rfl (r_iaB (p := 14 + (n).toNat * 5) rfl un182 is181 rfl rfl (by omega) (by omega) (by omega)) (s_1 rfl (s_nil (q_then (c_ret (q_ret1 rfl rfl (absurd (by omega) hn)))))))))))))

set_option maxHeartbeats 1000000 in
theorem two_ok (vxs : Value) (xs : List Pair) (vys : Value) (ys : List Pair) (hb : xs.length + ys.length ≤ 1000000) :
    Cn Tryz.prog 185 [vxs, vys] [] [rsl kPair vxs xs, rsl kPair vys ys] (fun v Bs => Bs = [osl kPair v (srt (xs ++ ys))]) := by
 intro w0 F0 H
 obtain ⟨A1, c2, rfl, hc3, hm4, hp5⟩ := H.fR 0 rfl
 obtain ⟨A6, c7, rfl, hc8, hm9, hp10⟩ := H.fR 1 rfl
 refine enter Tryz.func185 rfl rfl (Nat.le_of_ble_eq_true rfl) (c_seq (c_reg (s_1 rfl (s_nil (q_then ?_)))))
 replace H : Hd _ _ _ [] [rsl kPair (.slice A1 xs.length c2) xs, rsl kPair (.slice A6 ys.length c7) ys] := H
 refine c_seq (c_seq (c_reg (s_1 rfl (sc (sorted_ok (.slice A1 xs.length c2) xs (by first | omega | decide | (simp only [List.length_append, List.length_cons, List.length_nil, srt_len]; omega))) H (lR 0 rfl l0) rfl rfl (e_fn kn218 rfl rfl) ?_))))
 rintro _ _ w ⟨rfl, rfl⟩ H
 refine s_val rfl rfl (r_notP rfl rfl) (s_1 rfl ?_)
 refine s_dec (d := 9) rfl (fun h11 => ?_) (fun h11 => ?_)
 ·refine s_k 4 rfl (s_nil (q_then (c_yes rfl (c_seq (c_reg (s_1 rfl ?_))))))
  replace H := H.newnil kPair
  refine s_appF (xs := []) (ys := xs) rfl rfl rfl sl35 zr106 rfl (by decide) rfl rfl H (by first | omega | (simp only [List.length_append, List.length_cons, List.length_nil]; omega)) (fun F hA hR => hR _ (List.mem_of_getElem? (i := 0) rfl)) (fun v12 w H => (s_1 rfl (s_appF (xs := [] ++ xs) (ys := ys) rfl rfl rfl sl35 zr106 rfl (by decide) rfl rfl H (by first | omega | (simp only [List.length_append, List.length_cons, List.length_nil]; omega)) (fun F hA hR => hR _ (List.mem_of_getElem? (i := 1) rfl)) (fun v13 w H => ?_))))
  replace H : Hd _ _ _ [osl kPair v13 (([] ++ xs) ++ ys)] [rsl kPair (.slice A1 xs.length c2) xs, rsl kPair (.slice A6 ys.length c7) ys] := H
  refine sc (pairSort_ok v13 (([] ++ xs) ++ ys) (by first | omega | decide | (simp only [List.length_append, List.length_cons, List.length_nil, srt_len]; omega))) H (lA 0 rfl own_rd l0) rfl rfl (e_fn kn176 rfl rfl) ?_
  rintro v14 _ w rfl H
  replace H := H.h1 (A := osl kPair v14 (srt (([] ++ xs) ++ ys)))
  refine s_1 rfl (s_nil (q_then (c_ret (q_thenR (q_ret1 rfl rfl ?_)))))
  replace H := H.k1.h1 (A := osl kPair v14 (srt (xs ++ ys)))
  exact fin rfl H
 ·refine s_1 rfl (sc (sorted_ok (.slice A6 ys.length c7) ys (by first | omega | decide | (simp only [List.length_append, List.length_cons, List.length_nil, srt_len]; omega))) H (lR 1 rfl l0) rfl rfl (e_fn kn218 rfl rfl) ?_)
  rintro _ _ w ⟨rfl, rfl⟩ H
  refine s_val rfl rfl (r_notP rfl rfl) (s_1 rfl (s_nil (q_then ?_)))
  refine c_dec rfl (fun h15 => ?_) (fun h15 => ?_)
  ·refine c_seq (c_reg (s_1 rfl ?_))
   replace H := H.newnil kPair
   refine s_appF (xs := []) (ys := xs) rfl rfl rfl sl35 zr106 rfl (by decide) rfl rfl H (by first | omega | (simp only [List.length_append, List.length_cons, List.length_nil]; omega)) (fun F hA hR => hR _ (List.mem_of_getElem? (i := 0) rfl)) (fun v16 w H => (s_1 rfl (s_appF (xs := [] ++ xs) (ys := ys) rfl rfl rfl sl35 zr106 rfl (by decide) rfl rfl H (by first | omega | (simp only [List.length_append, List.length_cons, List.length_nil]; omega)) (fun F hA hR => hR _ (List.mem_of_getElem? (i := 1) rfl)) (fun v17 w H => ?_))))
   replace H : Hd _ _ _ [osl kPair v17 (([] ++ xs) ++ ys)] [rsl kPair (.slice A1 xs.length c2) xs, rsl kPair (.slice A6 ys.length c7) ys] := H
   refine sc (pairSort_ok v17 (([] ++ xs) ++ ys) (by first | omega | decide | (simp only [List.length_append, List.length_cons, List.length_nil, srt_len]; omega))) H (lA 0 rfl own_rd l0) rfl rfl (e_fn kn176 rfl rfl) ?_
   rintro v18 _ w rfl H
   replace H := H.h1 (A := osl kPair v18 (srt (([] ++ xs) ++ ys)))
   refine s_1 rfl (s_nil (q_then (c_ret (q_thenR (q_ret1 rfl rfl ?_)))))
   replace H := H.k1.h1 (A := osl kPair v18 (srt (xs ++ ys)))
   exact fin rfl H
  ·refine c_skip (q_then (c_seq ?_))
   have hoxs : Ord xs := Classical.not_not.1 h11
   have hoys : Ord ys := Classical.not_not.1 h15
   refine c_reg (s_1 rfl (s_nil (q_then (c_seq (c_block ?_)))))
   replace H := H.newnil kPair |>.dupR 1 rfl |>.dupR 1 rfl
   refine c_loop (σ := Value × Value × List Pair × List Pair × Value × List Pair) (fun (u, v, al, bl, q, zs) => [(0, u), (1, v), (4, .slice none 0 0), (5, q)]) (fun (u, v, al, bl, q, zs) w => (Hd w0 F0 w [osl kPair q zs] [rsl kPair u al, rsl kPair v bl, rsl kPair (.slice A1 xs.length c2) xs, rsl kPair (.slice A6 ys.length c7) ys]) ∧ (Ord al) ∧ (Ord bl) ∧ (zs.length + (al.length + bl.length) = xs.length + ys.length) ∧ (zs ++ srt (al ++ bl) = srt (xs ++ ys))) (fun (u, v, al, bl, q, zs) => al.length + bl.length) (.slice A1 xs.length c2, .slice A6 ys.length c7, xs, ys, .slice none 0 0, []) ⟨rfl, rfl, rfl, rfl, trivial⟩ ⟨H, hoxs, hoys, by (try dsimp only); simp only [List.length_nil]; omega, rfl⟩ ?_
   rintro ⟨u, v, al, bl, q, zs⟩ w ⟨H, ha, hb2, hl, hz⟩
   refine c_seq (c_seq (c_reg (s_1 rfl ?_)))
   obtain ⟨A19, c20, rfl, hc21, hm22, hp23⟩ := H.fR 0 rfl
   refine s_val rfl rfl (r_lenL rfl un35 rfl) (s_val rfl rfl (r_gt rfl rfl rfl) (s_1 rfl ?_))
   refine s_dec (d := 22) rfl (fun h24 => ?_) (fun h24 => ?_)
   ·refine s_1 rfl ?_
    obtain ⟨A25, c26, rfl, hc27, hm28, hp29⟩ := H.fR 1 rfl
    refine s_val rfl rfl (r_lenL rfl un35 rfl) (s_val rfl rfl (r_gt rfl rfl rfl) (s_1 rfl (s_nil (q_then ?_))))
    replace H : Hd _ _ _ [osl kPair q zs] [rsl kPair (.slice A19 al.length c20) al, rsl kPair (.slice A25 bl.length c26) bl, rsl kPair (.slice A1 xs.length c2) xs, rsl kPair (.slice A6 ys.length c7) ys] := H
    refine c_dec rfl (fun h30 => ?_) (fun h30 => ?_)
    ·refine c_skip (q_then (c_block (c_seq (c_seq (c_draw mo (by kernel_rfl) H (u_1 rfl ?_))))))
     obtain ⟨x31, hx32⟩ : ∃ z9, bl[0]? = some z9 := ⟨_, List.getElem?_eq_getElem (show 0 < bl.length by omega)⟩
     have th33 := H.thR 1 rfl hx32
     refine u_val rfl rfl (fun w H => r_iaE (p := oOf A25 + 0 * 2) rfl sl35 rfl rfl (by omega) (by omega) th33 (by omega)) (u_val rfl rfl (fun w H => r_fa rfl fo106_0 rfl) (u_val rfl rfl (fun w H => r_ld rfl ty9 rfl (H.elR 1 rfl hx32 (q := 0) rfl rfl)) (u_1 rfl ?_)))
     obtain ⟨x34, hx35⟩ : ∃ z9, al[0]? = some z9 := ⟨_, List.getElem?_eq_getElem (show 0 < al.length by omega)⟩
     have th36 := H.thR 0 rfl hx35
     refine u_val rfl rfl (fun w H => r_iaE (p := oOf A19 + 0 * 2) rfl sl35 rfl rfl (by omega) (by omega) th36 (by omega)) (u_val rfl rfl (fun w H => r_fa rfl fo106_0 rfl) (u_val rfl rfl (fun w H => r_ld rfl ty9 rfl (H.elR 0 rfl hx35 (q := 0) rfl rfl)) (u_val rfl rfl (fun w H => r_ltS rfl rfl rfl) (u_end (fun w H => (q_then ?_))))))
     refine c_dec rfl (fun h37 => ?_) (fun h37 => ?_)
     ·refine c_seq (c_reg (s_k 2 rfl ?_))
      have th38 := H.thR 1 rfl hx32
      refine s_val rfl rfl (r_iaE (p := oOf A25 + 0 * 2) rfl sl35 rfl rfl (by omega) (by omega) th38 (by omega)) (s_val rfl rfl (r_ldA (cs := [.string x31.key, .string x31.val]) rfl ty106 rfl rfl (H.elsR 1 rfl hx32 rfl)) (s_bsl (parts := [(0, .tmp 39)]) (vs := [.agg #[.string x31.key, .string x31.val]]) (cs := [.string x31.key, .string x31.val]) rfl rfl rfl sl35 zr106 rfl (by decide) (by decide) rfl rfl H (fun b39 w H => ?_)))
      replace H := H.p1
      refine s_appF (xs := zs) (ys := [x31]) rfl rfl rfl sl35 zr106 rfl (by decide) rfl rfl H (by first | omega | (simp only [List.length_append, List.length_cons, List.length_nil]; omega)) (fun F hA hR => blk_rsl (hA _ (List.mem_of_getElem? (i := 0) rfl)) rfl (by decide) (RepsR.flat_eq.2 rfl)) (fun v40 w H => (s_1 rfl (s_nil (q_then ?_))))
      replace H : Hd _ _ _ [osl kPair v40 (zs ++ [x31]), blk b39 [.string x31.key, .string x31.val] 106] [rsl kPair (.slice A19 al.length c20) al, rsl kPair (.slice A25 bl.length c26) bl, rsl kPair (.slice A1 xs.length c2) xs, rsl kPair (.slice A6 ys.length c7) ys] := H
      refine c_seq (c_reg (s_1 rfl (s_val rfl rfl (r_cutS rfl sl35 rfl rfl (by omega) (by omega) rfl) (s_1 rfl (s_nil (q_then (c_exit (q_thenE (q_blockE ?_)))))))))
      replace H := H.k1.sufR 1 rfl (n := 1) (by omega)
      replace H : Hd w0 F0 w [osl kPair v40 (zs ++ [x31])] [rsl kPair (.slice A19 al.length c20) al, rsl kPair (.slice (cutA A25 c26 1 2) (bl.length - 1) (c26 - 1)) (bl.drop 1), rsl kPair (.slice A1 xs.length c2) xs, rsl kPair (.slice A6 ys.length c7) ys] := H.pickR [1, 0, 3, 4]
      have hz2 : (zs ++ [x31]) ++ srt (al ++ bl.drop 1) = srt (xs ++ ys) := by rw [← hz, mer_b hx35 hx32 ha hb2 h37, List.append_assoc]; rfl
      exact q_round (s := (undef, undef, al, bl, undef, zs)) (.slice A19 al.length c20, .slice (cutA A25 c26 1 2) (bl.length - 1) (c26 - 1), al, bl.drop 1, v40, zs ++ [x31]) ⟨rfl, rfl, rfl, rfl, trivial⟩ ⟨H, ha, ord_drop hb2 1, by (try dsimp only); simp only [List.length_append, List.length_cons, List.length_nil, List.length_drop]; omega, hz2⟩ (by (try dsimp only); simp only [List.length_drop]; omega)
     ·refine c_skip (q_then (c_seq (c_reg (s_k 2 rfl ?_))))
      have th41 := H.thR 0 rfl hx35
      refine s_val rfl rfl (r_iaE (p := oOf A19 + 0 * 2) rfl sl35 rfl rfl (by omega) (by omega) th41 (by omega)) (s_val rfl rfl (r_ldA (cs := [.string x34.key, .string x34.val]) rfl ty106 rfl rfl (H.elsR 0 rfl hx35 rfl)) (s_bsl (parts := [(0, .tmp 47)]) (vs := [.agg #[.string x34.key, .string x34.val]]) (cs := [.string x34.key, .string x34.val]) rfl rfl rfl sl35 zr106 rfl (by decide) (by decide) rfl rfl H (fun b42 w H => ?_)))
      replace H := H.p1
      refine s_appF (xs := zs) (ys := [x34]) rfl rfl rfl sl35 zr106 rfl (by decide) rfl rfl H (by first | omega | (simp only [List.length_append, List.length_cons, List.length_nil]; omega)) (fun F hA hR => blk_rsl (hA _ (List.mem_of_getElem? (i := 0) rfl)) rfl (by decide) (RepsR.flat_eq.2 rfl)) (fun v43 w H => (s_1 rfl (s_nil (q_then ?_))))
      replace H : Hd _ _ _ [osl kPair v43 (zs ++ [x34]), blk b42 [.string x34.key, .string x34.val] 106] [rsl kPair (.slice A19 al.length c20) al, rsl kPair (.slice A25 bl.length c26) bl, rsl kPair (.slice A1 xs.length c2) xs, rsl kPair (.slice A6 ys.length c7) ys] := H
      refine c_reg (s_1 rfl (s_val rfl rfl (r_cutS rfl sl35 rfl rfl (by omega) (by omega) rfl) (s_1 rfl (s_nil (q_blockN ?_)))))
      replace H := H.k1.sufR 0 rfl (n := 1) (by omega)
      replace H : Hd w0 F0 w [osl kPair v43 (zs ++ [x34])] [rsl kPair (.slice (cutA A19 c20 1 2) (al.length - 1) (c20 - 1)) (al.drop 1), rsl kPair (.slice A25 bl.length c26) bl, rsl kPair (.slice A1 xs.length c2) xs, rsl kPair (.slice A6 ys.length c7) ys] := H.pickR [0, 2, 3, 4]
      have hz2 : (zs ++ [x34]) ++ srt (al.drop 1 ++ bl) = srt (xs ++ ys) := by rw [← hz, mer_a hx35 hx32 ha hb2 h37, List.append_assoc]; rfl
      exact q_round (s := (undef, undef, al, bl, undef, zs)) (.slice (cutA A19 c20 1 2) (al.length - 1) (c20 - 1), .slice A25 bl.length c26, al.drop 1, bl, v43, zs ++ [x34]) ⟨rfl, rfl, rfl, rfl, trivial⟩ ⟨H, ord_drop ha 1, hb2, by (try dsimp only); simp only [List.length_append, List.length_cons, List.length_nil, List.length_drop]; omega, hz2⟩ (by (try dsimp only); simp only [List.length_drop]; omega)
    ·refine c_exit (q_thenE (q_thenE (q_blockE (q_then (c_seq (c_reg (s_k 2 rfl (s_appF (xs := zs) (ys := al) rfl rfl rfl sl35 zr106 rfl (by decide) rfl rfl H (by first | omega | (simp only [List.length_append, List.length_cons, List.length_nil]; omega)) (fun F hA hR => hR _ (List.mem_of_getElem? (i := 0) rfl)) (fun v44 w H => (s_1 rfl (s_appF (xs := zs ++ al) (ys := bl) rfl rfl rfl sl35 zr106 rfl (by decide) rfl rfl H (by first | omega | (simp only [List.length_append, List.length_cons, List.length_nil]; omega)) (fun F hA hR => hR _ (List.mem_of_getElem? (i := 1) rfl)) (fun v45 w H => ?_))))))))))))
     replace H := H.h1 (A := osl kPair v45 ((zs ++ al) ++ bl))
     refine s_1 rfl (s_nil (q_then (c_ret (q_ret1 rfl rfl ?_))))
     replace H : Hd w0 F0 w [osl kPair v45 (srt (xs ++ ys))] [rsl kPair (.slice A19 al.length c20) al, rsl kPair (.slice A25 bl.length c26) bl, rsl kPair (.slice A1 xs.length c2) xs, rsl kPair (.slice A6 ys.length c7) ys] := by rw [← hz, mer_end ha hb2 (by omega), ← List.append_assoc]; exact H
     replace H := H.dropR |>.dropR
     exact fin rfl H
   ·refine s_k 4 rfl (s_nil (q_then ?_))
    replace H : Hd _ _ _ [osl kPair q zs] [rsl kPair (.slice A19 al.length c20) al, rsl kPair v bl, rsl kPair (.slice A1 xs.length c2) xs, rsl kPair (.slice A6 ys.length c7) ys] := H
    refine c_no rfl (c_exit (q_thenE (q_thenE (q_blockE (q_then (c_seq (c_reg (s_k 2 rfl (s_appF (xs := zs) (ys := al) rfl rfl rfl sl35 zr106 rfl (by decide) rfl rfl H (by first | omega | (simp only [List.length_append, List.length_cons, List.length_nil]; omega)) (fun F hA hR => hR _ (List.mem_of_getElem? (i := 0) rfl)) (fun v46 w H => (s_1 rfl ?_)))))))))))
    obtain ⟨A47, c48, rfl, hc49, hm50, hp51⟩ := H.fR 1 rfl
    refine s_appF (xs := zs ++ al) (ys := bl) rfl rfl rfl sl35 zr106 rfl (by decide) rfl rfl H (by first | omega | (simp only [List.length_append, List.length_cons, List.length_nil]; omega)) (fun F hA hR => hR _ (List.mem_of_getElem? (i := 1) rfl)) (fun v52 w H => (s_1 rfl (s_nil (q_then ?_))))
    replace H : Hd _ _ _ [osl kPair v52 ((zs ++ al) ++ bl)] [rsl kPair (.slice A19 al.length c20) al, rsl kPair (.slice A47 bl.length c48) bl, rsl kPair (.slice A1 xs.length c2) xs, rsl kPair (.slice A6 ys.length c7) ys] := H
    refine c_ret (q_ret1 rfl rfl ?_)
    replace H : Hd w0 F0 w [osl kPair v52 (srt (xs ++ ys))] [rsl kPair (.slice A19 al.length c20) al, rsl kPair (.slice A47 bl.length c48) bl, rsl kPair (.slice A1 xs.length c2) xs, rsl kPair (.slice A6 ys.length c7) ys] := by rw [← hz, mer_end ha hb2 (by omega), ← List.append_assoc]; exact H
    replace H := H.dropR |>.dropR
    exact fin rfl H
set_option maxHeartbeats 1000000 in
theorem runs_ok (vus : Value) (us : List (Value × List Pair)) (hb : (flat2 us).length ≤ 1000000) :
    Cn Tryz.prog 138 [vus] [] [rsl (kHd kPair) vus us] (fun v Bs => Bs = [osl kPair v (srt (flat2 us))]) := by
 intro w0 F0 H
 obtain ⟨A1, c2, rfl, hc3, hm4, hp5⟩ := H.fR 0 rfl
 refine enter Tryz.func138 rfl rfl (Nat.le_of_ble_eq_true rfl) (c_seq (c_reg (s_1 rfl (s_nil (q_then ?_)))))
 replace H : Hd _ _ _ [] [rsl (kHd kPair) (.slice A1 us.length c2) us] := H
 refine c_seq (c_reg (s_1 rfl (s_nil (q_then (c_seq (c_seq (c_reg (s_1 rfl (s_val rfl rfl (r_lenL rfl un22 rfl) (s_1 rfl (s_nil (q_then (c_block ?_)))))))))))))
 replace H := H.newnil kPair
 refine c_loop (σ := Nat × Value) (fun (k, q) => [(2, .slice none 0 0), (3, q), (6, .slice A1 us.length c2), (7, .int .i64 ((us.length : Nat) : Int)), (8, .int .i64 ((k : Nat) : Int))]) (fun (k, q) w => (Hd w0 F0 w [osl kPair q (srt (flat2 (us.take k)))] [rsl (kHd kPair) (.slice A1 us.length c2) us]) ∧ (k ≤ us.length)) (fun (k, q) => us.length - k) (0, .slice none 0 0) ⟨rfl, rfl, rfl, rfl, rfl, trivial⟩ ⟨H, by (try dsimp only); omega⟩ ?_
 rintro ⟨k, q⟩ w ⟨H, hk⟩
 have hsl := srt_len (flat2 (us.take k))
 refine c_seq (c_reg (s_val rfl rfl (r_lt rfl rfl rfl) (s_nil (q_then (c_seq ?_)))))
 refine c_dec rfl (fun h6 => ?_) (fun h6 => ?_)
 ·refine c_skip (q_then (c_seq (c_block (c_seq (c_reg ?_)))))
  obtain ⟨⟨u9, x7⟩, hx8⟩ : ∃ z9, us[k]? = some z9 := ⟨_, List.getElem?_eq_getElem (show k < us.length by omega)⟩
  obtain ⟨A10, c11, rfl, hc12, hm13⟩ := H.nestR 0 rfl hx8
  have th14 := H.thRd 0 rfl hx8
  refine s_val rfl rfl (r_iaE (p := oOf A1 + k * 1) rfl sl22 rfl rfl (by omega) (by omega) th14 rfl) (s_val rfl rfl (r_ld rfl ty35 rfl (H.elRd 0 rfl hx8 rfl)) (s_1 rfl (s_nil (q_then ?_))))
  have hfl := flat2_le us (k + 1)
  rw [flat2_step hx8, List.length_append] at hfl
  refine c_reg (s_k 2 rfl (sc (two_ok q (srt (flat2 (us.take k))) (.slice A10 x7.length c11) x7 (by first | omega | decide | (simp only [List.length_append, List.length_cons, List.length_nil, srt_len]; omega))) H (lA 0 rfl own_rd (lX (fun F hA hR => nest_rsl (hR _ (List.mem_of_getElem? (i := 0) rfl)) hx8) l0)) rfl rfl (e_fn kn185 rfl rfl) ?_))
  rintro v15 _ w rfl H
  refine s_1 rfl (s_nil (q_blockN (q_then ?_)))
  replace H : Hd _ _ _ [osl kPair v15 (srt ((srt (flat2 (us.take k))) ++ x7)), osl kPair q (srt (flat2 (us.take k)))] [rsl (kHd kPair) (.slice A1 us.length c2) us] := H
  refine c_reg (s_val rfl rfl (r_add (z := ((k + 1 : Nat) : Int)) rfl rfl rfl (by rw [w64 (by omega) (by omega)]; omega)) (s_1 rfl (s_nil ?_)))
  replace H := H.k1
  replace H : Hd w0 F0 w [osl kPair v15 (srt (flat2 (us.take (k + 1))))] [rsl (kHd kPair) (.slice A1 us.length c2) us] := by rw [flat2_step hx8, ← srt_app_srt]; exact H
  exact q_round (s := (k, undef)) (k + 1, v15) ⟨rfl, rfl, rfl, rfl, rfl, trivial⟩ ⟨H, by (try dsimp only); omega⟩ (by (try dsimp only); omega)
 ·refine c_exit (q_thenE (q_thenE (q_blockE (q_then (c_seq (c_reg (s_k 2 rfl (s_nil (q_then (c_ret (q_ret1 rfl rfl ?_)))))))))))
  replace H : Hd w0 F0 w [osl kPair q (srt (flat2 us))] [rsl (kHd kPair) (.slice A1 us.length c2) us] := by rw [List.take_of_length_le (show us.length ≤ k by omega)] at H; exact H
  exact fin rfl H

set_option maxHeartbeats 1000000 in
theorem indexI_ok (v : Value) (xs : List Int) (x : Int) :
    Cn Tryz.prog 184 [v, .int .i64 x] [] [rsl (kInt .i64) v xs] (fun v Bs => v = .int .i64 (fidx (fun y => decide (x = y)) xs) ∧ Bs = []) := by
 intro w0 F0 H
 obtain ⟨A1, c2, rfl, hc3, hm4, hp5⟩ := H.fR 0 rfl
 refine enter Tryz.func184 rfl rfl (Nat.le_of_ble_eq_true rfl) (c_seq (c_reg (s_1 rfl (s_nil (q_then ?_)))))
 replace H : Hd _ _ _ [] [rsl (kInt .i64) (.slice A1 xs.length c2) xs] := H
 refine c_seq (c_seq (c_reg (s_1 rfl (s_val rfl rfl (r_lenL rfl un24 rfl) (s_1 rfl (s_nil (q_then (c_block (c_loop (σ := Nat) (fun k => [(0, .slice A1 xs.length c2), (1, .int .i64 x), (7, .int .i64 ((xs.length : Nat) : Int)), (8, .int .i64 ((k : Nat) : Int))]) (fun k w => (Hd w0 F0 w [] [rsl (kInt .i64) (.slice A1 xs.length c2) xs]) ∧ (k ≤ xs.length) ∧ (∀ y ∈ xs.take k, (fun y => decide (x = y)) y = false)) (fun k => xs.length - k) 0 ⟨rfl, rfl, rfl, rfl, trivial⟩ ⟨H, by omega, by simp⟩ ?_)))))))))
 rintro k w ⟨H, hk, hn⟩
 refine c_seq (c_reg (s_val rfl rfl (r_lt rfl rfl rfl) (s_nil (q_then (c_seq ?_)))))
 refine c_dec rfl (fun h6 => ?_) (fun h6 => ?_)
 ·refine c_skip (q_then (c_seq (c_block (c_seq (c_reg (s_k 2 rfl (s_nil (q_then (c_seq (c_reg (s_k 3 rfl ?_)))))))))))
  obtain ⟨x7, hx8⟩ : ∃ z9, xs[k]? = some z9 := ⟨_, List.getElem?_eq_getElem (show k < xs.length by omega)⟩
  have th9 := H.thR 0 rfl hx8
  refine s_val rfl rfl (r_iaE (p := oOf A1 + k * 1) rfl sl24 rfl rfl (by omega) (by omega) th9 rfl) (s_val rfl rfl (r_ld rfl ty3 rfl (H.elR 0 rfl hx8 (q := 0) rfl rfl)) (s_val rfl rfl (r_eq rfl rfl rfl) (s_nil (q_then ?_))))
  refine c_dec rfl (fun h10 => ?_) (fun h10 => ?_)
  ·exact c_seq (c_reg (s_k 2 rfl (s_nil (q_then (c_ret (q_blockR (q_thenR (q_thenR (q_blockR (q_thenR (q_ret1 rfl rfl (fin ⟨by rw [fidx_hit (p := (fun y => decide (x = y))) hn hx8 (decide_eq_true h10)] <;> rfl, rfl⟩ H))))))))))))
  ·exact c_skip (q_blockN (q_then (c_reg (s_val rfl rfl (r_add (z := ((k + 1 : Nat) : Int)) rfl rfl rfl (by rw [w64 (by omega) (by omega)]; omega)) (s_1 rfl (s_nil (q_round (s := k) (k + 1) ⟨rfl, rfl, rfl, rfl, trivial⟩ ⟨H, by omega, take_false (p := (fun y => decide (x = y))) hn hx8 (decide_eq_false h10)⟩ (by (try dsimp only); omega))))))))
 ·refine c_exit (q_thenE (q_thenE (q_blockE (q_then (c_seq (c_reg (s_1 rfl (s_nil (q_then (c_ret (q_ret1 rfl rfl ?_)))))))))))
  have hn2 : ∀ y ∈ xs, (fun y => decide (x = y)) y = false := by rw [← take_all (xs := xs) (k := k) (by omega)]; exact hn
  exact fin ⟨by rw [fidx_miss hn2] <;> rfl, rfl⟩ H
set_option maxHeartbeats 1000000 in
theorem containsI_ok (v : Value) (xs : List Int) (x : Int) :
    Cn Tryz.prog 136 [v, .int .i64 x] [] [rsl (kInt .i64) v xs] (fun v Bs => v = .bool (decide (x ∈ xs)) ∧ Bs = []) := by
 intro w0 F0 H
 refine enter Tryz.func136 rfl rfl (Nat.le_of_ble_eq_true rfl) (c_seq (c_reg (s_1 rfl (s_nil (q_then (c_seq (c_reg (s_k 2 rfl (sc (indexI_ok v xs x) H (lR 0 rfl l0) rfl rfl (e_fn kn184 rfl rfl) ?_)))))))))
 rintro _ _ w ⟨rfl, rfl⟩ H
 refine s_val rfl rfl (r_ge rfl rfl rfl) (s_1 rfl (s_nil (q_then (c_ret (q_ret1 rfl rfl ?_)))))
 have e : decide (0 ≤ fidx (fun y => decide (x = y)) xs) = decide (x ∈ xs) := by rw [fidx_nonneg]; rw [Bool.eq_iff_iff]; simp
 exact fin ⟨congrArg Value.bool e, rfl⟩ H

set_option maxHeartbeats 4000000 in
theorem merged_ok (r : Nat) (A : Option Addr) (c : Nat) (vM2 : Value) (vC2 : Value) (vR2 : Value) (vK2 : Value) (J2 : Job) (cw : Int) (ct : Int) (co : Int) (part : Int) (ep : Int) (R : Red) (hv : Nat → Value) (sb : Nat) (vs : Value) (hus6 : J2.us.length ≤ 6) :
    Cn Tryz.prog 51 [.pointer (some ⟨r, 0, none⟩)] [] [blk r (redC (.slice A J2.us.length c) vM2 vC2 vR2 vK2 J2 cw ct co part ep R.g hv sb vs) 185] (fun v Bs => Bs = [osl (kInt .i64) v (mergedL J2.us.length R)]) := by
 intro w0 F0 H
 refine enter Tryz.func51 rfl rfl (Nat.le_of_ble_eq_true rfl) (c_seq (c_reg (s_1 rfl (s_nil (q_then (c_seq (c_seq (c_reg (s_1 rfl (s_val rfl rfl (r_peq rfl un75 rfl rfl) (s_nil (q_then (c_no rfl (c_skip (q_then (c_seq (c_reg (s_1 rfl (s_nil (q_then (c_seq (c_seq (c_reg (s_1 rfl (s_val rfl rfl (r_nilP rfl rfl) (s_val rfl rfl (r_fa rfl fo185_0 rfl) (s_val rfl rfl (r_fa rfl fo28_0 rfl) (s_val rfl rfl (r_fa rfl fo26_0 rfl) (s_val rfl rfl (r_ld rfl ty22 rfl (H.cellRI 0 rfl rfl)) (s_val rfl rfl (r_lenL rfl un22 rfl) (s_1 rfl (s_nil (q_then (c_block ?_))))))))))))))))))))))))))))))))))
 replace H := H.newnil (kInt .i64)
 refine c_loop (σ := Nat × Value) (fun (k, q) => [(0, .pointer (some ⟨r, 0, none⟩)), (2, .slice none 0 0), (3, q), (13, .int .i64 ((J2.us.length : Nat) : Int)), (14, .int .i64 ((k : Nat) : Int))]) (fun (k, q) w => (Hd w0 F0 w [osl (kInt .i64) q (mergedL k R)] [blk r (redC (.slice A J2.us.length c) vM2 vC2 vR2 vK2 J2 cw ct co part ep R.g hv sb vs) 185]) ∧ (k ≤ J2.us.length)) (fun (k, q) => J2.us.length - k) (0, .slice none 0 0) ⟨rfl, rfl, rfl, rfl, rfl, trivial⟩ ⟨H, Nat.zero_le _⟩ ?_
 rintro ⟨k, q⟩ w ⟨H, hk⟩
 have hml := merged_len k R
 refine c_seq (c_reg (s_val rfl rfl (r_lt rfl rfl rfl) (s_nil (q_then (c_seq ?_)))))
 refine c_dec rfl (fun h1 => ?_) (fun h1 => ?_)
 ·refine c_skip (q_then (c_seq (c_block (c_seq (c_reg (s_k 2 rfl (s_nil (q_then (c_seq (c_reg (s_k 2 rfl (s_val rfl rfl (r_nilP rfl rfl) (s_val rfl rfl (r_fa rfl fo185_3 rfl) (s_val rfl rfl (r_iaB (p := 14 + k * 5) rfl un182 is181 rfl rfl (by omega) (by omega) (by omega)) (s_val rfl rfl (r_fa rfl fo181_0 rfl) (s_val rfl rfl (r_ld rfl ty4 rfl (H.cellRI 0 rfl (redC_at0 (by omega)))) (s_nil (q_then ?_))))))))))))))))))
  refine c_cond (b := (R.g k).merged) rfl (fun h2 => ?_) (fun h2 => ?_)
  ·refine c_reg (s_k 2 rfl (s_bsl (parts := [(0, .tmp 25)]) (vs := [.int .i64 ((k : Nat) : Int)]) (cs := [.int .i64 ((k : Nat) : Int)]) rfl rfl rfl sl24 zr3 rfl (by decide) (by decide) rfl rfl H (fun b3 w H => ?_)))
   replace H := H.p1
   refine s_appF (xs := mergedL k R) (ys := [((k : Nat) : Int)]) rfl rfl rfl sl24 zr3 rfl (by decide) rfl rfl H (by first | omega | (simp only [List.length_append, List.length_cons, List.length_nil]; omega)) (fun F hA hR => blk_rsl (hA _ (List.mem_of_getElem? (i := 0) rfl)) rfl (by decide) (RepsR.flat_eq.2 rfl)) (fun v4 w H => (s_1 rfl (s_nil (q_blockN (q_then ?_)))))
   replace H : Hd _ _ _ [osl (kInt .i64) v4 ((mergedL k R) ++ [((k : Nat) : Int)]), blk b3 [.int .i64 ((k : Nat) : Int)] 3] [blk r (redC (.slice A J2.us.length c) vM2 vC2 vR2 vK2 J2 cw ct co part ep R.g hv sb vs) 185] := H
   refine c_reg (s_val rfl rfl (r_add (z := ((k + 1 : Nat) : Int)) rfl rfl rfl (by rw [w64 (by omega) (by omega)]; omega)) (s_1 rfl (s_nil ?_)))
   replace H := H.k1
   replace H : Hd w0 F0 w [osl (kInt .i64) v4 (mergedL (k + 1) R)] [blk r (redC (.slice A J2.us.length c) vM2 vC2 vR2 vK2 J2 cw ct co part ep R.g hv sb vs) 185] := by rw [merged_succ, if_pos h2]; exact H
   exact q_round (s := (k, undef)) (k + 1, v4) ⟨rfl, rfl, rfl, rfl, rfl, trivial⟩ ⟨H, by (try dsimp only); omega⟩ (by (try dsimp only); omega)
  ·refine c_skip (q_blockN (q_then (c_reg (s_val rfl rfl (r_add (z := ((k + 1 : Nat) : Int)) rfl rfl rfl (by rw [w64 (by omega) (by omega)]; omega)) (s_1 rfl (s_nil ?_))))))
   replace H : Hd w0 F0 w [osl (kInt .i64) q (mergedL (k + 1) R)] [blk r (redC (.slice A J2.us.length c) vM2 vC2 vR2 vK2 J2 cw ct co part ep R.g hv sb vs) 185] := by rw [merged_succ, if_neg (by rw [h2]; exact Bool.false_ne_true), List.append_nil]; exact H
   exact q_round (s := (k, undef)) (k + 1, q) ⟨rfl, rfl, rfl, rfl, rfl, trivial⟩ ⟨H, by (try dsimp only); omega⟩ (by (try dsimp only); omega)
 ·refine c_exit (q_thenE (q_thenE (q_blockE (q_then (c_seq (c_reg (s_k 2 rfl (s_nil (q_then (c_ret (q_ret1 rfl rfl ?_)))))))))))
  have hkk : k = J2.us.length := by omega
  replace H : Hd w0 F0 w [osl (kInt .i64) q (mergedL J2.us.length R)] [blk r (redC (.slice A J2.us.length c) vM2 vC2 vR2 vK2 J2 cw ct co part ep R.g hv sb vs) 185] := by rw [hkk] at H; exact H
  exact fin rfl H
set_option maxHeartbeats 4000000 in
theorem snapOf_ok (vp : Value) (p : List Ins) (fuel : Int) (vus : Value) (us : List (Value × List Pair)) (hpa : ∀ i ∈ p, In64 i.a) (hfu : In64 fuel) (hb : (flat2 us).length ≤ 1000000) :
    Cn Tryz.prog 180 [vp, .int .i64 fuel, vus] [] [rsl kIns vp p, rsl (kHd kPair) vus us, gl] (fun v Bs => ∃ u : Value, v = .tuple #[u, .int .i64 ((eachM dg p (srt (flat2 us)) fuel false).2)] ∧ Bs = [osl kPair u ((eachM dg p (srt (flat2 us)) fuel false).1)]) := by
 intro w0 F0 H
 obtain ⟨A1, c2, rfl, hc3, hm4, hp5⟩ := H.fR 0 rfl
 obtain ⟨A6, c7, rfl, hc8, hm9, hp10⟩ := H.fR 1 rfl
 refine enter Tryz.func180 rfl rfl (Nat.le_of_ble_eq_true rfl) (c_seq (c_reg (s_k 2 rfl (s_nil (q_then ?_)))))
 replace H : Hd _ _ _ [] [rsl kIns (.slice A1 p.length c2) p, rsl (kHd kPair) (.slice A6 us.length c7) us, gl] := H
 refine c_seq (c_reg (s_k 2 rfl (sc (runs_ok (.slice A6 us.length c7) us (by first | omega | decide | exact Nat.le_trans (flat2_le _ _) (by omega) | exact Nat.le_trans (flat2_le' _ _) (by omega) | (simp only [flat2, List.flatMap_cons, List.flatMap_nil, List.append_nil, srt_len]; omega))) H (lR 1 rfl l0) rfl rfl (e_fn kn138 rfl rfl) ?_)))
 rintro v11 _ w rfl H
 replace H := H.h1 (A := osl kPair v11 (srt (flat2 us)))
 refine s_1 rfl (sc (foldEach_ok (.slice A1 p.length c2) p v11 (srt (flat2 us)) fuel (by first | exact hpa | exact in64_first | assumption) (by first | assumption | (unfold In64; omega)) (by first | omega | (simp only [srt_len]; omega))) H (lR 0 rfl (lA 0 rfl own_rd (lR 2 rfl l0))) rfl rfl (e_fn kn137 rfl rfl) ?_)
 rintro _ _ w ⟨u12, rfl, rfl⟩ H
 replace H := H.h1 (A := osl kPair u12 ((eachM dg p (srt (flat2 us)) fuel false).1))
 refine s_k 4 rfl (s_nil (q_then (c_ret (q_ret2 rfl rfl rfl ?_))))
 replace H := H.k1
 exact fin ⟨u12, rfl, rfl⟩ H
set_option maxHeartbeats 4000000 in
theorem of_ok (r : Nat) (A : Option Addr) (c : Nat) (vM2 : Value) (vC2 : Value) (vR2 : Value) (vK2 : Value) (J2 : Job) (cw : Int) (ct : Int) (co : Int) (part : Int) (ep : Int) (R : Red) (hv : Nat → Value) (sb : Nat) (vs : Value) (vset : Value) (set : List Int) (hred : ∀ i ∈ J2.red, In64 i.a) (hf64 : In64 J2.fuel) (hus6 : J2.us.length ≤ 6) (hbp : ∀ i, (R.g i).pairs.length ≤ 1000) :
    Cn Tryz.prog 131 [.pointer (some ⟨r, 0, none⟩), vset] [] [blk r (redC (.slice A J2.us.length c) vM2 vC2 vR2 vK2 J2 cw ct co part ep R.g hv sb vs) 185, prsS (R.g) hv, rsl (kInt .i64) vset set, rsl kIns vR2 J2.red, gl] (fun v Bs => ∃ u : Value, v = .tuple #[u, .int .i64 ((eachM dg J2.red (srt (runsOf J2.us.length R set)) J2.fuel false).2)] ∧ Bs = [osl kPair u ((eachM dg J2.red (srt (runsOf J2.us.length R set)) J2.fuel false).1)]) := by
 intro w0 F0 H
 obtain ⟨A1, c2, rfl, hc3, hm4, hp5⟩ := H.fR 2 rfl
 obtain ⟨A6, c7, rfl, hc8, hm9, hp10⟩ := H.fR 3 rfl
 refine enter Tryz.func131 rfl rfl (Nat.le_of_ble_eq_true rfl) (c_seq (c_reg (s_k 2 rfl (s_nil (q_then ?_)))))
 replace H : Hd _ _ _ [] [blk r (redC (.slice A J2.us.length c) vM2 vC2 (.slice A6 J2.red.length c7) vK2 J2 cw ct co part ep R.g hv sb vs) 185, prsS (R.g) hv, rsl (kInt .i64) (.slice A1 set.length c2) set, rsl kIns (.slice A6 J2.red.length c7) J2.red, gl] := H
 refine c_seq (c_reg (s_1 rfl (s_nil (q_then (c_seq (c_seq (c_reg (s_1 rfl (s_val rfl rfl (r_nilP rfl rfl) (s_val rfl rfl (r_fa rfl fo185_0 rfl) (s_val rfl rfl (r_fa rfl fo28_0 rfl) (s_val rfl rfl (r_fa rfl fo26_0 rfl) (s_val rfl rfl (r_ld rfl ty22 rfl (H.cellRI 0 rfl rfl)) (s_val rfl rfl (r_lenL rfl un22 rfl) (s_1 rfl (s_nil (q_then (c_block ?_))))))))))))))))))
 replace H := H.newnil kHdr |>.h1 (A := osl kHdr (.slice none 0 0) (hdr1 (pickU R.g hv set 0)))
 refine c_loop (σ := Nat × Value) (fun (k, q) => [(0, .pointer (some ⟨r, 0, none⟩)), (1, .slice A1 set.length c2), (4, .slice none 0 0), (5, .int .i64 0), (6, q), (14, .int .i64 ((J2.us.length : Nat) : Int)), (15, .int .i64 ((k : Nat) : Int))]) (fun (k, q) w => (Hd w0 F0 w [osl kHdr q (hdr1 (pickU R.g hv set k))] [blk r (redC (.slice A J2.us.length c) vM2 vC2 (.slice A6 J2.red.length c7) vK2 J2 cw ct co part ep R.g hv sb vs) 185, prsS (R.g) hv, rsl (kInt .i64) (.slice A1 set.length c2) set, rsl kIns (.slice A6 J2.red.length c7) J2.red, gl]) ∧ (k ≤ J2.us.length)) (fun (k, q) => J2.us.length - k) (0, .slice none 0 0) ⟨rfl, rfl, rfl, rfl, rfl, rfl, rfl, trivial⟩ ⟨H, Nat.zero_le _⟩ ?_
 rintro ⟨k, q⟩ w ⟨H, hk⟩
 have hpl := pickU_len R.g hv set k
 have hhl : (hdr1 (pickU R.g hv set k)).length = (pickU R.g hv set k).length := by simp [hdr1]
 refine c_seq (c_reg (s_val rfl rfl (r_lt rfl rfl rfl) (s_nil (q_then (c_seq ?_)))))
 refine c_dec rfl (fun h11 => ?_) (fun h11 => ?_)
 ·refine c_skip (q_then (c_seq (c_block (c_seq (c_reg (s_k 2 rfl (s_nil (q_then (c_seq (c_reg (s_k 2 rfl (s_val rfl rfl (r_nilP rfl rfl) (s_val rfl rfl (r_fa rfl fo185_3 rfl) (s_val rfl rfl (r_iaB (p := 14 + k * 5) rfl un182 is181 rfl rfl (by omega) (by omega) (by omega)) (s_val rfl rfl (r_fa rfl fo181_0 rfl) (s_val rfl rfl (r_ld rfl ty4 rfl (H.cellRI 0 rfl (redC_at0 (by omega)))) (s_1 rfl ?_)))))))))))))))))
  refine s_boo (d := 25) (b := (R.g k).merged) rfl (fun h12 => ?_) (fun h12 => ?_)
  ·refine s_k 2 rfl (sc (containsI_ok (.slice A1 set.length c2) set ((k : Nat) : Int)) H (lR 2 rfl l0) rfl rfl (e_fn kn136 rfl rfl) ?_)
   rintro _ _ w ⟨rfl, rfl⟩ H
   refine s_1 rfl (s_nil (q_then ?_))
   refine c_dec rfl (fun h13 => ?_) (fun h13 => ?_)
   ·refine c_reg (s_k 3 rfl (s_val rfl rfl (r_nilP rfl rfl) (s_val rfl rfl (r_fa rfl fo185_3 rfl) (s_val rfl rfl (r_iaB (p := 14 + k * 5) rfl un182 is181 rfl rfl (by omega) (by omega) (by omega)) (s_val rfl rfl (r_fa rfl fo181_1 rfl) ?_)))))
    obtain ⟨A14, c15, e16, _, _, _⟩ := H.prsFormR (i := k) 1 rfl (by omega)
    refine s_val rfl rfl (r_ld rfl ty35 rfl (H.cellRI 0 rfl ((redC_at1 (by omega)).trans (congrArg some e16)))) (s_bsl (parts := [(0, .tmp 37)]) (vs := [.slice A14 ((R.g k).pairs.length) c15]) (cs := [.slice A14 ((R.g k).pairs.length) c15]) rfl rfl rfl sl22 zr35 rfl (by decide) (by decide) rfl rfl H (fun b17 w H => ?_))
    replace H := H.p1
    refine s_appF (xs := hdr1 (pickU R.g hv set k)) (ys := [(⟨A14, (R.g k).pairs.length, c15⟩ : Hdr)]) rfl rfl rfl sl22 zr35 rfl (by decide) rfl rfl H (by first | omega | (simp only [List.length_append, List.length_cons, List.length_nil]; omega)) (fun F hA hR => blk_rsl (hA _ (List.mem_of_getElem? (i := 0) rfl)) rfl (by decide) (RepsR.flat_eq.2 rfl)) (fun v18 w H => (s_1 rfl (s_nil (q_blockN (q_then ?_)))))
    replace H : Hd _ _ _ [osl kHdr v18 ((hdr1 (pickU R.g hv set k)) ++ [(⟨A14, (R.g k).pairs.length, c15⟩ : Hdr)]), blk b17 [.slice A14 ((R.g k).pairs.length) c15] 35] [blk r (redC (.slice A J2.us.length c) vM2 vC2 (.slice A6 J2.red.length c7) vK2 J2 cw ct co part ep R.g hv sb vs) 185, prsS (R.g) hv, rsl (kInt .i64) (.slice A1 set.length c2) set, rsl kIns (.slice A6 J2.red.length c7) J2.red, gl] := H
    refine c_reg (s_val rfl rfl (r_add (z := ((k + 1 : Nat) : Int)) rfl rfl rfl (by rw [w64 (by omega) (by omega)]; omega)) (s_1 rfl (s_nil ?_)))
    replace H := H.k1
    replace H : Hd w0 F0 w [osl kHdr v18 (hdr1 (pickU R.g hv set (k + 1)))] [blk r (redC (.slice A J2.us.length c) vM2 vC2 (.slice A6 J2.red.length c7) vK2 J2 cw ct co part ep R.g hv sb vs) 185, prsS (R.g) hv, rsl (kInt .i64) (.slice A1 set.length c2) set, rsl kIns (.slice A6 J2.red.length c7) J2.red, gl] := by rw [pickU_succ, if_pos ⟨h12, h13⟩, show hdr1 (pickU R.g hv set k ++ [(hv k, (R.g k).pairs)]) = hdr1 (pickU R.g hv set k) ++ [⟨A14, (R.g k).pairs.length, c15⟩] by simp [hdr1, hdrOf, e16]]; exact H
    exact q_round (s := (k, undef)) (k + 1, v18) ⟨rfl, rfl, rfl, rfl, rfl, rfl, rfl, trivial⟩ ⟨H, by (try dsimp only); omega⟩ (by (try dsimp only); omega)
   ·refine c_skip (q_blockN (q_then (c_reg (s_val rfl rfl (r_add (z := ((k + 1 : Nat) : Int)) rfl rfl rfl (by rw [w64 (by omega) (by omega)]; omega)) (s_1 rfl (s_nil ?_))))))
    replace H : Hd w0 F0 w [osl kHdr q (hdr1 (pickU R.g hv set (k + 1)))] [blk r (redC (.slice A J2.us.length c) vM2 vC2 (.slice A6 J2.red.length c7) vK2 J2 cw ct co part ep R.g hv sb vs) 185, prsS (R.g) hv, rsl (kInt .i64) (.slice A1 set.length c2) set, rsl kIns (.slice A6 J2.red.length c7) J2.red, gl] := by rw [pickU_succ, if_neg (fun h => by first | exact h13 h.2 | (rw [h12] at h; cases h.1)), List.append_nil]; exact H
    exact q_round (s := (k, undef)) (k + 1, q) ⟨rfl, rfl, rfl, rfl, rfl, rfl, rfl, trivial⟩ ⟨H, by (try dsimp only); omega⟩ (by (try dsimp only); omega)
  ·refine s_k 4 rfl (s_nil (q_then (c_no rfl (c_skip (q_blockN (q_then (c_reg (s_val rfl rfl (r_add (z := ((k + 1 : Nat) : Int)) rfl rfl rfl (by rw [w64 (by omega) (by omega)]; omega)) (s_1 rfl (s_nil ?_))))))))))
   replace H : Hd w0 F0 w [osl kHdr q (hdr1 (pickU R.g hv set (k + 1)))] [blk r (redC (.slice A J2.us.length c) vM2 vC2 (.slice A6 J2.red.length c7) vK2 J2 cw ct co part ep R.g hv sb vs) 185, prsS (R.g) hv, rsl (kInt .i64) (.slice A1 set.length c2) set, rsl kIns (.slice A6 J2.red.length c7) J2.red, gl] := by rw [pickU_succ, if_neg (fun h => by first | exact h12 h.2 | (rw [h12] at h; cases h.1)), List.append_nil]; exact H
   exact q_round (s := (k, undef)) (k + 1, q) ⟨rfl, rfl, rfl, rfl, rfl, rfl, rfl, trivial⟩ ⟨H, by (try dsimp only); omega⟩ (by (try dsimp only); omega)
 ·refine c_exit (q_thenE (q_thenE (q_blockE (q_then (c_seq (c_ord (.e 0 (.e 1 (.e 2 (.e 3 (.e 4 (.e 5 (.e 6 (.e 7 (.e 8 (.e 9 (.e 10 (.e 11 (.e 12 (.m 13 (.e 14 (.e 15 (.e 16 (.e 17 .z)))))))))))))))))) (fun w => ∃ Ar, Hd w0 F0 w (Ar) [blk r (redC (.slice A J2.us.length c) vM2 vC2 (.slice A6 J2.red.length c7) vK2 J2 cw ct co part ep R.g hv sb vs) 185, prsS (R.g) hv, rsl (kInt .i64) (.slice A1 set.length c2) set, rsl kIns (.slice A6 J2.red.length c7) J2.red, gl]) mo (by kernel_rfl) (fun w H => ⟨_, H⟩) H (fun w H => (d_1 rfl (d_val rfl rfl rfl (fun w ⟨Ar, H⟩ => r_nilP rfl rfl) (d_val rfl rfl rfl (fun w ⟨Ar, H⟩ => r_fa rfl fo185_0 rfl) (d_val rfl rfl rfl (fun w ⟨Ar, H⟩ => r_fa rfl fo28_0 rfl) (d_val rfl rfl rfl (fun w ⟨Ar, H⟩ => r_fa rfl fo26_4 rfl) (d_val rfl rfl rfl (fun w ⟨Ar, H⟩ => r_ld rfl ty23 rfl (H.cellRI 0 rfl rfl)) (d_1 rfl (d_val rfl rfl rfl (fun w ⟨Ar, H⟩ => r_nilP rfl rfl) ?_)))))))))))))))
  refine d_val rfl rfl rfl (fun w ⟨Ar, H⟩ => r_fa rfl fo185_0 rfl) (d_val rfl rfl rfl (fun w ⟨Ar, H⟩ => r_fa rfl fo28_0 rfl) (d_val rfl rfl rfl (fun w ⟨Ar, H⟩ => r_fa rfl fo26_7 rfl) (d_val rfl rfl rfl (fun w ⟨Ar, H⟩ => r_ld rfl ty3 rfl (H.cellRI 0 rfl rfl)) (d_1 rfl (d_main rfl ?_)))))
  have hkk : k = J2.us.length := by omega
  replace H : Hd w0 F0 w [osl kHdr q (hdr1 (pickU R.g hv set J2.us.length))] [blk r (redC (.slice A J2.us.length c) vM2 vC2 (.slice A6 J2.red.length c7) vK2 J2 cw ct co part ep R.g hv sb vs) 185, prsS (R.g) hv, rsl (kInt .i64) (.slice A1 set.length c2) set, rsl kIns (.slice A6 J2.red.length c7) J2.red, gl] := by rw [hkk] at H; exact H
  have hrb := runs_bound (set := set) hbp J2.us.length
  have hfl : (flat2 (pickU R.g hv set J2.us.length)).length ≤ 1000000 := by rw [pickU_flat]; omega
  refine sc (snapOf_ok (.slice A6 J2.red.length c7) J2.red J2.fuel q (pickU R.g hv set J2.us.length) hred hf64 hfl) H (lX (fun F hA hR => hR _ (List.mem_of_getElem? (i := 3) rfl)) (lX (fun F hA hR => hd_of_hdr (own_rd F (hA _ (List.mem_of_getElem? (i := 0) rfl))) (pickU_rd hus6 (hR _ (List.mem_of_getElem? (i := 1) rfl)))) (lR 4 rfl l0))) rfl rfl (e_fn kn180 rfl rfl) ?_
  rintro _ _ w ⟨u19, rfl, rfl⟩ H
  rw [pickU_flat] at H ⊢
  replace H : Hd _ _ _ [osl kPair u19 ((eachM dg J2.red (srt (runsOf J2.us.length R set)) J2.fuel false).1), osl kHdr q (hdr1 (pickU R.g hv set J2.us.length))] [blk r (redC (.slice A J2.us.length c) vM2 vC2 (.slice A6 J2.red.length c7) vK2 J2 cw ct co part ep R.g hv sb vs) 185, prsS (R.g) hv, rsl (kInt .i64) (.slice A1 set.length c2) set, rsl kIns (.slice A6 J2.red.length c7) J2.red, gl] := H
  refine d_back ⟨_, H⟩ (d_1 rfl (d_1 rfl (d_1 rfl (d_1 rfl (d_nil (q_then (c_ret (q_ret2 rfl rfl rfl ?_))))))))
  replace H := H.k1
  exact fin ⟨u19, rfl, rfl⟩ H
set_option maxHeartbeats 4000000 in
theorem output_ok (r : Nat) (A : Option Addr) (c : Nat) (vM2 : Value) (vC2 : Value) (vR2 : Value) (vK2 : Value) (J2 : Job) (cw : Int) (ct : Int) (co : Int) (part : Int) (ep : Int) (R : Red) (hv : Nat → Value) (sb : Nat) (vs : Value) (hred : ∀ i ∈ J2.red, In64 i.a) (hf64 : In64 J2.fuel) (hus6 : J2.us.length ≤ 6) (hbp : ∀ i, (R.g i).pairs.length ≤ 1000) :
    Cn Tryz.prog 60 [.pointer (some ⟨r, 0, none⟩)] [] [blk r (redC (.slice A J2.us.length c) vM2 vC2 vR2 vK2 J2 cw ct co part ep R.g hv sb vs) 185, prsS (R.g) hv, rsl kIns vR2 J2.red, gl] (fun v Bs => ∃ u : Value, v = .tuple #[u, .int .i64 ((outR dg J2 R).2.1), .bool ((outR dg J2 R).2.2)] ∧ Bs = [osl kPair u ((outR dg J2 R).1)]) := by
 intro w0 F0 H
 obtain ⟨A1, c2, rfl, hc3, hm4, hp5⟩ := H.fR 2 rfl
 refine enter Tryz.func60 rfl rfl (Nat.le_of_ble_eq_true rfl) (c_seq (c_reg (s_k 3 rfl (s_nil (q_then ?_)))))
 replace H : Hd _ _ _ [] [blk r (redC (.slice A J2.us.length c) vM2 vC2 (.slice A1 J2.red.length c2) vK2 J2 cw ct co part ep R.g hv sb vs) 185, prsS (R.g) hv, rsl kIns (.slice A1 J2.red.length c2) J2.red, gl] := H
 refine c_seq (c_reg (s_1 rfl (sc (merged_ok r A c vM2 vC2 (.slice A1 J2.red.length c2) vK2 J2 cw ct co part ep R hv sb vs (by first | assumption | omega)) H (lR 0 rfl l0) rfl rfl (e_fn kn51 rfl rfl) ?_)))
 rintro v6 _ w rfl H
 replace H := H.h1 (A := osl (kInt .i64) v6 (mergedL J2.us.length R))
 refine s_1 rfl (s_nil (q_then (c_seq (c_seq (c_reg (s_1 rfl (s_val rfl rfl (r_peq rfl un75 rfl rfl) (s_k 2 rfl ?_))))))))
 obtain ⟨A7, c8, rfl, hc9, hm10, hp11⟩ := H.fA 0 rfl
 refine s_val rfl rfl (r_lenL rfl un24 rfl) (s_1 rfl (s_val rfl rfl (r_nilP rfl rfl) (s_val rfl rfl (r_fa rfl fo185_0 rfl) (s_val rfl rfl (r_fa rfl fo28_0 rfl) (s_val rfl rfl (r_fa rfl fo26_0 rfl) (s_val rfl rfl (r_ld rfl ty22 rfl (H.cellRI 0 rfl rfl)) (s_val rfl rfl (r_lenL rfl un22 rfl) (s_val rfl rfl (r_lt rfl rfl rfl) (s_1 rfl (s_nil (q_then ?_)))))))))))
 refine c_dec rfl (fun h12 => ?_) (fun h12 => ?_)
 ·refine c_seq (c_reg (s_k 3 rfl (s_nil (q_then (c_ret (q_thenR (q_ret3 rfl rfl rfl rfl ?_)))))))
  have e : outR dg J2 R = ([], 0, false) := if_pos (by omega)
  replace H := H.newnil kPair |>.k1
  exact fin ⟨(.slice none 0 0), by rw [e] <;> rfl, by rw [e] <;> rfl⟩ H
 ·refine c_skip (q_then (c_seq (c_reg (s_k 2 rfl (sc (of_ok r A c vM2 vC2 (.slice A1 J2.red.length c2) vK2 J2 cw ct co part ep R hv sb vs (.slice A7 ((mergedL J2.us.length R).length) c8) (mergedL J2.us.length R) (by first | assumption | omega) (by first | assumption | omega) (by first | assumption | omega) (by first | assumption | omega)) H (lR 0 rfl (lR 1 rfl (lA 0 rfl own_rd (lR 2 rfl (lR 3 rfl l0))))) rfl rfl (e_fn kn131 rfl rfl) ?_)))))
  rintro _ _ w ⟨u13, rfl, rfl⟩ H
  replace H := H.h1 (A := osl kPair u13 ((eachM dg J2.red (srt (runsOf J2.us.length R (mergedL J2.us.length R))) J2.fuel false).1))
  refine s_k 5 rfl (s_nil (q_then (c_seq (c_reg (s_k 5 rfl (s_nil (q_then (c_ret (q_ret3 rfl rfl rfl rfl ?_)))))))))
  have e : outR dg J2 R = ((eachM dg J2.red (srt (runsOf J2.us.length R (mergedL J2.us.length R))) J2.fuel false).1, (eachM dg J2.red (srt (runsOf J2.us.length R (mergedL J2.us.length R))) J2.fuel false).2, true) := if_neg (by omega)
  replace H := H.k1
  exact fin ⟨u13, by rw [e] <;> rfl, by rw [e] <;> rfl⟩ H

set_option maxHeartbeats 4000000 in
theorem redNew_ok (vS : Value) (vM : Value) (vC : Value) (vR : Value) (vK : Value) (C : Cf) (p : Int) (ep : Int) (vr : Value) (recs : List Rec) (hC : mayC C) (hp : In64 p) (he : In64 ep) (hgo : homeC C p ≠ 0 ∧ 1 ≤ ep) (hrs : ∀ r ∈ recs, (In64 r.sp ∧ r.set.length ≤ 1000) ∧ r.pairs.length ≤ 1000) (hrl : recs.length ≤ 100000) :
    Cn Tryz.prog 56 [.agg #[vS, .int .i64 C.J.parts, vM, vC, vR, .int .i64 C.J.chunk, .int .i64 C.J.window, .int .i64 C.J.fuel, vK, .int .i64 C.w, .int .i64 C.t, .int .i64 C.o], .int .i64 p, .int .i64 ep, vr] [] [rsl (kHd kPair) vS C.J.us, rsl kIns vM C.J.map, rsl kIns vC C.J.comb, rsl kIns vR C.J.red, rsl (kInt .i64) vK C.J.marks, rsl kRec vr recs] (fun v Bs => ∃ r : Nat, ∃ vS2 : Value, ∃ vM2 : Value, ∃ vC2 : Value, ∃ vR2 : Value, ∃ vK2 : Value, ∃ J2 : Job, ∃ hv : Nat → Value, ∃ sb : Nat, ∃ vs : Value, ∃ us : List (Value × List Int), v = .tuple #[.pointer (some ⟨r, 0, none⟩), .int .i64 0] ∧ Bs = [blk r (redC vS2 vM2 vC2 vR2 vK2 J2 C.w C.t C.o p ep ((newR J2.us.length p ep (recs.map Rec.p)).g) hv sb vs) 185, osl (kHd kPair) vS2 J2.us, osl kIns vM2 J2.map, osl kIns vC2 J2.comb, osl kIns vR2 J2.red, osl (kInt .i64) vK2 J2.marks, prsS ((newR J2.us.length p ep (recs.map Rec.p)).g) hv, osl (kHd (kInt .i64)) vs us, stgI 253 sb ([])] ∧ (SameJ J2 C.J) ∧ (us.map (·.2) = (newR J2.us.length p ep (recs.map Rec.p)).sets)) := by
 intro w0 F0 H
 obtain ⟨A1, c2, rfl, hc3, hm4, hp5⟩ := H.fR 0 rfl
 obtain ⟨A6, c7, rfl, hc8, hm9, hp10⟩ := H.fR 1 rfl
 obtain ⟨A11, c12, rfl, hc13, hm14, hp15⟩ := H.fR 2 rfl
 obtain ⟨A16, c17, rfl, hc18, hm19, hp20⟩ := H.fR 3 rfl
 obtain ⟨A21, c22, rfl, hc23, hm24, hp25⟩ := H.fR 4 rfl
 obtain ⟨A26, c27, rfl, hc28, hm29, hp30⟩ := H.fR 5 rfl
 refine enter Tryz.func56 rfl rfl (Nat.le_of_ble_eq_true rfl) (c_seq (c_reg (s_box rfl rfl rfl rfl H (fun b31 w H => (s_k 2 rfl (s_nil (q_then ?_)))))))
 replace H : Hd _ _ _ [blk b31 [.slice A1 C.J.us.length c2, .int .i64 C.J.parts, .slice A6 C.J.map.length c7, .slice A11 C.J.comb.length c12, .slice A16 C.J.red.length c17, .int .i64 C.J.chunk, .int .i64 C.J.window, .int .i64 C.J.fuel, .slice A21 C.J.marks.length c22, .int .i64 C.w, .int .i64 C.t, .int .i64 C.o] 28] [rsl (kHd kPair) (.slice A1 C.J.us.length c2) C.J.us, rsl kIns (.slice A6 C.J.map.length c7) C.J.map, rsl kIns (.slice A11 C.J.comb.length c12) C.J.comb, rsl kIns (.slice A16 C.J.red.length c17) C.J.red, rsl (kInt .i64) (.slice A21 C.J.marks.length c22) C.J.marks, rsl kRec (.slice A26 recs.length c27) recs] := H
 refine c_seq (c_seq (c_reg (s_val rfl rfl (r_ldA (cs := [.slice A1 C.J.us.length c2, .int .i64 C.J.parts, .slice A6 C.J.map.length c7, .slice A11 C.J.comb.length c12, .slice A16 C.J.red.length c17, .int .i64 C.J.chunk, .int .i64 C.J.window, .int .i64 C.J.fuel, .slice A21 C.J.marks.length c22, .int .i64 C.w, .int .i64 C.t, .int .i64 C.o]) rfl ty28 rfl rfl (H.cellsI 0 rfl rfl)) (s_1 rfl (sc (home_ok (.slice A1 C.J.us.length c2) (.slice A6 C.J.map.length c7) (.slice A11 C.J.comb.length c12) (.slice A16 C.J.red.length c17) (.slice A21 C.J.marks.length c22) C p (by first | assumption | omega)) H (lR 0 rfl (lR 1 rfl (lR 2 rfl (lR 3 rfl (lR 4 rfl l0))))) rfl rfl (e_fn kn71 rfl rfl) ?_)))))
 rintro _ _ w ⟨rfl, rfl⟩ H
 refine s_val rfl rfl (r_eq rfl rfl rfl) (s_1 rfl ?_)
 refine s_dec (d := 18) rfl (fun h32 => ?_) (fun h32 => ?_)
 ·exact (hgo.1 h32).elim
 ·refine s_1 rfl (s_val rfl rfl (r_lt rfl rfl rfl) (s_1 rfl (s_nil (q_then ?_))))
  replace H : Hd _ _ _ [blk b31 [.slice A1 C.J.us.length c2, .int .i64 C.J.parts, .slice A6 C.J.map.length c7, .slice A11 C.J.comb.length c12, .slice A16 C.J.red.length c17, .int .i64 C.J.chunk, .int .i64 C.J.window, .int .i64 C.J.fuel, .slice A21 C.J.marks.length c22, .int .i64 C.w, .int .i64 C.t, .int .i64 C.o] 28] [rsl (kHd kPair) (.slice A1 C.J.us.length c2) C.J.us, rsl kIns (.slice A6 C.J.map.length c7) C.J.map, rsl kIns (.slice A11 C.J.comb.length c12) C.J.comb, rsl kIns (.slice A16 C.J.red.length c17) C.J.red, rsl (kInt .i64) (.slice A21 C.J.marks.length c22) C.J.marks, rsl kRec (.slice A26 recs.length c27) recs] := H
  refine c_dec rfl (fun h33 => ?_) (fun h33 => ?_)
  ·exfalso; omega
  ·refine c_skip (q_then (c_seq (c_reg (s_val rfl rfl (r_ldA (cs := [.slice A1 C.J.us.length c2, .int .i64 C.J.parts, .slice A6 C.J.map.length c7, .slice A11 C.J.comb.length c12, .slice A16 C.J.red.length c17, .int .i64 C.J.chunk, .int .i64 C.J.window, .int .i64 C.J.fuel, .slice A21 C.J.marks.length c22, .int .i64 C.w, .int .i64 C.t, .int .i64 C.o]) rfl ty28 rfl rfl (H.cellsI 0 rfl rfl)) (sc (own_ok (.slice A1 C.J.us.length c2) (.slice A6 C.J.map.length c7) (.slice A11 C.J.comb.length c12) (.slice A16 C.J.red.length c17) (.slice A21 C.J.marks.length c22) C (by first | assumption | omega)) H (lR 0 rfl (lR 1 rfl (lR 2 rfl (lR 3 rfl (lR 4 rfl l0))))) rfl rfl (e_fn kn94 rfl rfl) ?_)))))
   rintro _ _ w ⟨J34, vS35, vM36, vC37, vR38, vK39, rfl, rfl, hf40⟩ H
   replace H := H.h5 (A := osl (kHd kPair) vS35 J34.us) (B := osl kIns vM36 J34.map) (C := osl kIns vC37 J34.comb) (D := osl kIns vR38 J34.red) (E := osl (kInt .i64) vK39 J34.marks)
   have hsj := hf40
   refine s_k 2 rfl (sc (stNew_ok) H l0 rfl rfl (e_fn kn128 rfl rfl) ?_)
   rintro _ _ w ⟨b41, rfl, rfl⟩ H
   obtain ⟨A42, c43, rfl, hc44, hm45, hp46⟩ := H.fA 1 rfl
   obtain ⟨A47, c48, rfl, hc49, hm50, hp51⟩ := H.fA 2 rfl
   obtain ⟨A52, c53, rfl, hc54, hm55, hp56⟩ := H.fA 3 rfl
   obtain ⟨A57, c58, rfl, hc59, hm60, hp61⟩ := H.fA 4 rfl
   obtain ⟨A62, c63, rfl, hc64, hm65, hp66⟩ := H.fA 5 rfl
   refine s_val rfl rfl (r_bd (parts := [(0, .tmp 23), (1, .tmp 24), (2, .tmp 25), (4, .tmp 26)]) (vs := [.agg #[.slice A42 J34.us.length c43, .int .i64 J34.parts, .slice A47 J34.map.length c48, .slice A52 J34.comb.length c53, .slice A57 J34.red.length c58, .int .i64 J34.chunk, .int .i64 J34.window, .int .i64 J34.fuel, .slice A62 J34.marks.length c63, .int .i64 C.w, .int .i64 C.t, .int .i64 C.o], .int .i64 p, .int .i64 ep, .pointer (some ⟨b41, 0, none⟩)]) (cs := [.slice A42 J34.us.length c43, .int .i64 J34.parts, .slice A47 J34.map.length c48, .slice A52 J34.comb.length c53, .slice A57 J34.red.length c58, .int .i64 J34.chunk, .int .i64 J34.window, .int .i64 J34.fuel, .slice A62 J34.marks.length c63, .int .i64 C.w, .int .i64 C.t, .int .i64 C.o, .int .i64 p, .int .i64 ep, .bool false, .slice none 0 0, .bool false, .int .i64 0, .int .i64 0, .bool false, .slice none 0 0, .bool false, .int .i64 0, .int .i64 0, .bool false, .slice none 0 0, .bool false, .int .i64 0, .int .i64 0, .bool false, .slice none 0 0, .bool false, .int .i64 0, .int .i64 0, .bool false, .slice none 0 0, .bool false, .int .i64 0, .int .i64 0, .bool false, .slice none 0 0, .bool false, .int .i64 0, .int .i64 0, .pointer (some ⟨b41, 0, none⟩), .slice none 0 0]) rfl bd185 rfl rfl) ?_
   refine s_box rfl rfl rfl rfl H (fun b67 w H => (s_1 rfl (s_nil (q_then ?_))))
   replace H : Hd _ _ _ [blk b67 [.slice A42 J34.us.length c43, .int .i64 J34.parts, .slice A47 J34.map.length c48, .slice A52 J34.comb.length c53, .slice A57 J34.red.length c58, .int .i64 J34.chunk, .int .i64 J34.window, .int .i64 J34.fuel, .slice A62 J34.marks.length c63, .int .i64 C.w, .int .i64 C.t, .int .i64 C.o, .int .i64 p, .int .i64 ep, .bool false, .slice none 0 0, .bool false, .int .i64 0, .int .i64 0, .bool false, .slice none 0 0, .bool false, .int .i64 0, .int .i64 0, .bool false, .slice none 0 0, .bool false, .int .i64 0, .int .i64 0, .bool false, .slice none 0 0, .bool false, .int .i64 0, .int .i64 0, .bool false, .slice none 0 0, .bool false, .int .i64 0, .int .i64 0, .bool false, .slice none 0 0, .bool false, .int .i64 0, .int .i64 0, .pointer (some ⟨b41, 0, none⟩), .slice none 0 0] 185, stgI 253 b41 ([]), osl (kHd kPair) (.slice A42 J34.us.length c43) J34.us, osl kIns (.slice A47 J34.map.length c48) J34.map, osl kIns (.slice A52 J34.comb.length c53) J34.comb, osl kIns (.slice A57 J34.red.length c58) J34.red, osl (kInt .i64) (.slice A62 J34.marks.length c63) J34.marks, blk b31 [.slice A1 C.J.us.length c2, .int .i64 C.J.parts, .slice A6 C.J.map.length c7, .slice A11 C.J.comb.length c12, .slice A16 C.J.red.length c17, .int .i64 C.J.chunk, .int .i64 C.J.window, .int .i64 C.J.fuel, .slice A21 C.J.marks.length c22, .int .i64 C.w, .int .i64 C.t, .int .i64 C.o] 28] [rsl (kHd kPair) (.slice A1 C.J.us.length c2) C.J.us, rsl kIns (.slice A6 C.J.map.length c7) C.J.map, rsl kIns (.slice A11 C.J.comb.length c12) C.J.comb, rsl kIns (.slice A16 C.J.red.length c17) C.J.red, rsl (kInt .i64) (.slice A21 C.J.marks.length c22) C.J.marks, rsl kRec (.slice A26 recs.length c27) recs] := H
   refine c_seq (c_seq ?_)
   have hlen : J34.us.length ≤ 6 := by have := hC.1.1; have := hsj.len; omega
   replace H := (H.newnil (kHd (kInt .i64))).prsN
   replace H := H.h2 (A := prsS ((red0 p ep).g) (fun _ => .slice none 0 0)) (B := osl (kHd (kInt .i64)) (.slice none 0 0) []) |>.p8 |>.p8 |>.p8 |>.p8 |>.p8 |>.p7 |>.k9 |>.h1 (A := blk b67 (redC (.slice A42 J34.us.length c43) (.slice A47 J34.map.length c48) (.slice A52 J34.comb.length c53) (.slice A57 J34.red.length c58) (.slice A62 J34.marks.length c63) J34 C.w C.t C.o p ep ((red0 p ep).g) (fun _ => .slice none 0 0) b41 (.slice none 0 0)) 185)
   refine c_reg (s_1 rfl (s_val rfl rfl (r_lenL rfl un29 rfl) (s_1 rfl (s_nil (q_then (c_block (c_loop (σ := Nat × Red × (Nat → Value) × Value × List (Value × List Int)) (fun (k, R, hv, vs, us) => [(1, .int .i64 p), (8, .pointer none), (9, .int .i64 0), (10, .pointer (some ⟨b67, 0, none⟩)), (29, .slice A26 recs.length c27), (30, .int .i64 ((recs.length : Nat) : Int)), (31, .int .i64 ((k : Nat) : Int))]) (fun (k, R, hv, vs, us) w => (Hd w0 F0 w [blk b67 (redC (.slice A42 J34.us.length c43) (.slice A47 J34.map.length c48) (.slice A52 J34.comb.length c53) (.slice A57 J34.red.length c58) (.slice A62 J34.marks.length c63) J34 C.w C.t C.o p ep R.g hv b41 vs) 185, osl (kHd kPair) (.slice A42 J34.us.length c43) J34.us, osl kIns (.slice A47 J34.map.length c48) J34.map, osl kIns (.slice A52 J34.comb.length c53) J34.comb, osl kIns (.slice A57 J34.red.length c58) J34.red, osl (kInt .i64) (.slice A62 J34.marks.length c63) J34.marks, prsS (R.g) hv, osl (kHd (kInt .i64)) vs us, stgI 253 b41 ([])] [rsl (kHd kPair) (.slice A1 C.J.us.length c2) C.J.us, rsl kIns (.slice A6 C.J.map.length c7) C.J.map, rsl kIns (.slice A11 C.J.comb.length c12) C.J.comb, rsl kIns (.slice A16 C.J.red.length c17) C.J.red, rsl (kInt .i64) (.slice A21 C.J.marks.length c22) C.J.marks, rsl kRec (.slice A26 recs.length c27) recs]) ∧ (R = newR J34.us.length p ep ((recs.take k).map Rec.p)) ∧ (R.part = p) ∧ (us.map (·.2) = R.sets) ∧ (k ≤ recs.length) ∧ (us.length ≤ k)) (fun (k, R, hv, vs, us) => recs.length - k) (0, red0 p ep, (fun _ => .slice none 0 0), .slice none 0 0, []) ⟨rfl, rfl, rfl, rfl, rfl, rfl, rfl, trivial⟩ ⟨H, rfl, rfl, rfl, Nat.zero_le _, Nat.le_refl _⟩ ?_)))))))
   rintro ⟨k, R, hv, vs, us⟩ w ⟨H, hR, hRp, hus, hk, hul⟩
   refine c_seq (c_reg (s_val rfl rfl (r_lt rfl rfl rfl) (s_nil (q_then (c_seq ?_)))))
   refine c_dec rfl (fun h68 => ?_) (fun h68 => ?_)
   ·refine c_skip (q_then (c_seq (c_block (c_seq ?_))))
    obtain ⟨⟨a71, a72, a73, a74, a75, sv76, se77, pv78, pr79⟩, hx70⟩ : ∃ z9, recs[k]? = some z9 := ⟨_, List.getElem?_eq_getElem (show k < recs.length by omega)⟩
    obtain ⟨A80, c81, A82, c83, rfl, rfl, m84, m85, m86, m87⟩ := H.nestRr 5 rfl hx70
    have hr1 := hrs _ (at_mem hx70)
    unfold In64 at hr1
    dsimp only at hr1
    refine c_reg ?_
    have th88 := H.thRr 5 rfl hx70
    refine s_val rfl rfl (r_iaE (p := oOf A26 + k * 7) rfl sl29 rfl rfl (by omega) (by omega) th88 rfl) (s_val rfl rfl (r_ldA (cs := [.int .i64 a71, .int .i64 a72, .int .i64 a73, .int .i64 a74, .int .i64 a75, .slice A80 se77.length c81, .slice A82 pr79.length c83]) rfl ty37 rfl rfl (H.elsRr 5 rfl hx70 rfl)) (s_alloc rfl rfl rfl zr37 H (fun b89 w H => (s_st rfl rfl rfl ty37 rfl rfl H rfl (Nat.le_of_ble_eq_true rfl) (fun u hu => by simp [Value.cells] at hu; rcases hu with rfl | rfl | rfl | rfl | rfl | rfl | rfl <;> rfl) (fun w H => ?_)))))
    replace H : Hd _ _ _ [blk b89 [.int .i64 a71, .int .i64 a72, .int .i64 a73, .int .i64 a74, .int .i64 a75, .slice A80 se77.length c81, .slice A82 pr79.length c83] 37, blk b67 (redC (.slice A42 J34.us.length c43) (.slice A47 J34.map.length c48) (.slice A52 J34.comb.length c53) (.slice A57 J34.red.length c58) (.slice A62 J34.marks.length c63) J34 C.w C.t C.o p ep R.g hv b41 vs) 185, osl (kHd kPair) (.slice A42 J34.us.length c43) J34.us, osl kIns (.slice A47 J34.map.length c48) J34.map, osl kIns (.slice A52 J34.comb.length c53) J34.comb, osl kIns (.slice A57 J34.red.length c58) J34.red, osl (kInt .i64) (.slice A62 J34.marks.length c63) J34.marks, prsS (R.g) hv, osl (kHd (kInt .i64)) vs us, stgI 253 b41 ([])] [rsl (kHd kPair) (.slice A1 C.J.us.length c2) C.J.us, rsl kIns (.slice A6 C.J.map.length c7) C.J.map, rsl kIns (.slice A11 C.J.comb.length c12) C.J.comb, rsl kIns (.slice A16 C.J.red.length c17) C.J.red, rsl (kInt .i64) (.slice A21 C.J.marks.length c22) C.J.marks, rsl kRec (.slice A26 recs.length c27) recs] := H
    refine s_nil (q_then (c_seq (c_seq (c_reg (s_val rfl rfl (r_fa rfl fo37_1 rfl) (s_val rfl rfl (r_ld rfl ty3 rfl (H.cellI 0 rfl rfl)) (s_1 rfl (s_val rfl rfl (r_ne rfl rfl rfl) (s_nil (q_then ?_))))))))))
    refine c_dec rfl (fun h90 => ?_) (fun h90 => ?_)
    ·refine c_exit (q_thenE (q_blockE (q_then (c_reg (s_val rfl rfl (r_add (z := ((k + 1 : Nat) : Int)) rfl rfl rfl (by rw [w64 (by omega) (by omega)]; omega)) (s_1 rfl (s_nil ?_)))))))
     have hpart : (Rec.p (⟨a71, a72, a73, a74, a75, .slice A80 se77.length c81, se77, .slice A82 pr79.length c83, pr79⟩ : Rec)).part ≠ R.part := by rw [hRp]; exact h90
     have hR2 := newR_take hR hx70 (recIn_skip hpart)
     replace H := H.p9.p9.p9.p9.p9.p9.p9.p9.p9.k9
     exact q_round (s := (k, R, hv, undef, us)) (k + 1, R, hv, vs, us) ⟨rfl, rfl, rfl, rfl, rfl, rfl, rfl, trivial⟩ ⟨H, hR2, hRp, by (try dsimp only); exact hus, by (try dsimp only); omega, by (try dsimp only); omega⟩ (by (try dsimp only); omega)
    ·refine c_skip (q_then (c_seq (c_seq ?_)))
     by_cases hin91 : 0 ≤ a73 ∧ a73 < ((J34.us.length : Nat) : Int)
     ·refine c_reg (s_1 rfl (s_val rfl rfl (r_fa rfl fo37_2 rfl) (s_val rfl rfl (r_ld rfl ty3 rfl (H.cellI 0 rfl rfl)) (sc (at_ok b67 A42 J34.us.length c43 (.slice A47 J34.map.length c48) (.slice A52 J34.comb.length c53) (.slice A57 J34.red.length c58) (.slice A62 J34.marks.length c63) J34 C.w C.t C.o p ep R.g hv b41 vs a73 (by first | assumption | omega) (by first | assumption | omega)) H (lA 1 rfl (fun _ h => h) l0) rfl rfl (e_fn kn118 rfl rfl) ?_))))
      rintro _ _ w ⟨rfl, rfl⟩ H
      refine s_1 rfl (s_nil (q_then (c_seq (c_reg (s_val rfl rfl (r_fa rfl fo37_0 rfl) (s_val rfl rfl (r_ld rfl ty3 rfl (H.cellI 0 rfl rfl)) (s_val rfl rfl (r_eq rfl rfl rfl) (s_1 rfl ?_))))))))
      refine s_dec (d := 46) rfl (fun h92 => ?_) (fun h92 => ?_)
      ·refine s_1 rfl (s_val rfl rfl (r_pne rfl un178 rfl rfl) (s_k 3 rfl (s_val rfl rfl (r_nilP rfl rfl) (s_val rfl rfl (r_fa rfl fo181_0 rfl) (s_val rfl rfl (r_ld rfl ty4 rfl (H.cellI 1 rfl (redC_at0 (by omega)))) (s_val rfl rfl (r_not rfl rfl rfl) (s_1 rfl (s_nil (q_then ?_)))))))))
       refine c_cond (b := !((R.g ((a73).toNat)).merged)) rfl (fun h93 => ?_) (fun h93 => ?_)
       ·refine c_reg (s_k 2 rfl (s_val rfl rfl (r_fa rfl fo37_6 rfl) (s_val rfl rfl (r_ld rfl ty35 rfl (H.cellI 0 rfl rfl)) (sc (clone_ok (.slice A82 pr79.length c83) pr79 (by first | assumption | omega)) H (lX (fun F hA hR => rec_pairs (hR _ (List.mem_of_getElem? (i := 5) rfl)) hx70) l0) rfl rfl (e_fn kn123 rfl rfl) ?_))))
        rintro v94 _ w rfl H
        refine s_val rfl rfl (r_nilP rfl rfl) (s_val rfl rfl (r_fa rfl fo181_0 rfl) ?_)
        replace H := H.p2
        refine s_st rfl rfl rfl ty4 rfl rfl H rfl (by show 14 + ((a73).toNat) * 5 + 0 + 1 ≤ 46; omega) (fun u hu => by simp [Value.cells] at hu; subst hu; rfl) (fun w H => ?_)
        replace H : Hd w0 F0 w [blk b67 (redC (.slice A42 J34.us.length c43) (.slice A47 J34.map.length c48) (.slice A52 J34.comb.length c53) (.slice A57 J34.red.length c58) (.slice A62 J34.marks.length c63) J34 C.w C.t C.o p ep (setD R.g ((a73).toNat) { R.g ((a73).toNat) with merged := true }) hv b41 vs) 185, osl kPair v94 pr79, blk b89 [.int .i64 a71, .int .i64 a72, .int .i64 a73, .int .i64 a74, .int .i64 a75, .slice A80 se77.length c81, .slice A82 pr79.length c83] 37, osl (kHd kPair) (.slice A42 J34.us.length c43) J34.us, osl kIns (.slice A47 J34.map.length c48) J34.map, osl kIns (.slice A52 J34.comb.length c53) J34.comb, osl kIns (.slice A57 J34.red.length c58) J34.red, osl (kInt .i64) (.slice A62 J34.marks.length c63) J34.marks, prsS (R.g) hv, osl (kHd (kInt .i64)) vs us, stgI 253 b41 ([])] [rsl (kHd kPair) (.slice A1 C.J.us.length c2) C.J.us, rsl kIns (.slice A6 C.J.map.length c7) C.J.map, rsl kIns (.slice A11 C.J.comb.length c12) C.J.comb, rsl kIns (.slice A16 C.J.red.length c17) C.J.red, rsl (kInt .i64) (.slice A21 C.J.marks.length c22) C.J.marks, rsl kRec (.slice A26 recs.length c27) recs] := by rw [← redC_put0 (show (a73).toNat < 6 by omega) true]; exact H
        refine s_val rfl rfl (r_nilP rfl rfl) (s_val rfl rfl (r_fa rfl fo181_1 rfl) ?_)
        obtain ⟨A95, c96, rfl, hc97, hm98, hp99⟩ := H.fA 1 rfl
        refine s_st rfl rfl rfl ty35 rfl rfl H rfl (by show 14 + ((a73).toNat) * 5 + 1 + 1 ≤ 46; omega) (fun u hu => by simp [Value.cells] at hu; subst hu; rfl) (fun w H => ?_)
        replace H : Hd w0 F0 w [blk b67 (redC (.slice A42 J34.us.length c43) (.slice A47 J34.map.length c48) (.slice A52 J34.comb.length c53) (.slice A57 J34.red.length c58) (.slice A62 J34.marks.length c63) J34 C.w C.t C.o p ep (setD R.g ((a73).toNat) { R.g ((a73).toNat) with merged := true }) (setD hv ((a73).toNat) (.slice A95 pr79.length c96 : Value)) b41 vs) 185, osl kPair (.slice A95 pr79.length c96) pr79, blk b89 [.int .i64 a71, .int .i64 a72, .int .i64 a73, .int .i64 a74, .int .i64 a75, .slice A80 se77.length c81, .slice A82 pr79.length c83] 37, osl (kHd kPair) (.slice A42 J34.us.length c43) J34.us, osl kIns (.slice A47 J34.map.length c48) J34.map, osl kIns (.slice A52 J34.comb.length c53) J34.comb, osl kIns (.slice A57 J34.red.length c58) J34.red, osl (kInt .i64) (.slice A62 J34.marks.length c63) J34.marks, prsS (R.g) hv, osl (kHd (kInt .i64)) vs us, stgI 253 b41 ([])] [rsl (kHd kPair) (.slice A1 C.J.us.length c2) C.J.us, rsl kIns (.slice A6 C.J.map.length c7) C.J.map, rsl kIns (.slice A11 C.J.comb.length c12) C.J.comb, rsl kIns (.slice A16 C.J.red.length c17) C.J.red, rsl (kInt .i64) (.slice A21 C.J.marks.length c22) C.J.marks, rsl kRec (.slice A26 recs.length c27) recs] := by rw [← redC_put1 (show (a73).toNat < 6 by omega) (.slice A95 pr79.length c96 : Value)]; exact H
        refine s_nil (q_then (c_seq (c_reg (s_val rfl rfl (r_fa rfl fo37_0 rfl) (s_val rfl rfl (r_ld rfl ty3 rfl (H.cellI 2 rfl rfl)) (s_val rfl rfl (r_eq rfl rfl rfl) (s_nil (q_then ?_))))))))
        refine c_dec rfl (fun h100 => ?_) (fun h100 => ?_)
        ·exfalso; omega
        ·refine c_skip (q_blockN (q_then (c_reg (s_val rfl rfl (r_add (z := ((k + 1 : Nat) : Int)) rfl rfl rfl (by rw [w64 (by omega) (by omega)]; omega)) (s_1 rfl (s_nil ?_))))))
         have hpart : (Rec.p (⟨a71, a72, a73, a74, a75, .slice A80 se77.length c81, se77, .slice A82 pr79.length c83, pr79⟩ : Rec)).part = R.part := by rw [hRp]; exact Classical.not_not.1 h90
         replace H := H.pick 10 rfl |>.pick 10 rfl |>.p9 |>.p9 |>.p9 |>.p9 |>.p9 |>.p7 |>.pick 10 rfl |>.p9 |>.k10 |>.prsU (i := (a73).toNat) (x := ({ R.g (a73).toNat with merged := true, pairs := pr79 } : SpD)) (by omega)
         replace H : Hd w0 F0 w [prsS (({ R with g := setD R.g (a73).toNat ({ R.g (a73).toNat with merged := true, pairs := pr79 } : SpD) } : Red).g) (setD hv (a73).toNat (.slice A95 pr79.length c96 : Value)), blk b67 (redC (.slice A42 J34.us.length c43) (.slice A47 J34.map.length c48) (.slice A52 J34.comb.length c53) (.slice A57 J34.red.length c58) (.slice A62 J34.marks.length c63) J34 C.w C.t C.o p ep (({ R with g := setD R.g (a73).toNat ({ R.g (a73).toNat with merged := true, pairs := pr79 } : SpD) } : Red).g) (setD hv (a73).toNat (.slice A95 pr79.length c96 : Value)) b41 vs) 185, osl (kHd kPair) (.slice A42 J34.us.length c43) J34.us, osl kIns (.slice A47 J34.map.length c48) J34.map, osl kIns (.slice A52 J34.comb.length c53) J34.comb, osl kIns (.slice A57 J34.red.length c58) J34.red, osl (kInt .i64) (.slice A62 J34.marks.length c63) J34.marks, osl (kHd (kInt .i64)) vs us, stgI 253 b41 ([])] [rsl (kHd kPair) (.slice A1 C.J.us.length c2) C.J.us, rsl kIns (.slice A6 C.J.map.length c7) C.J.map, rsl kIns (.slice A11 C.J.comb.length c12) C.J.comb, rsl kIns (.slice A16 C.J.red.length c17) C.J.red, rsl (kInt .i64) (.slice A21 C.J.marks.length c22) C.J.marks, rsl kRec (.slice A26 recs.length c27) recs] := by
           rw [← redC_congr (g := setD R.g (a73).toNat { R.g (a73).toNat with merged := true }) (g' := ({ R with g := setD R.g (a73).toNat ({ R.g (a73).toNat with merged := true, pairs := pr79 } : SpD) } : Red).g) (fun j => by dsimp only; by_cases e : j = (a73).toNat <;> first | (subst e; rw [setD_self, setD_self]; exact ⟨rfl, rfl, rfl, rfl⟩) | (rw [setD_ne _ _ e, setD_ne _ _ e]; exact ⟨rfl, rfl, rfl, rfl⟩))]
           exact H
         have hR2 := newR_take hR hx70 (recIn_m hpart h92 hin91 (by simpa [Rec.p] using h93))
         replace H := H.sel 9 [1, 2, 3, 4, 5, 6, 0, 7, 8] [] rfl (by kernel_rfl)
         replace H : Hd _ _ _ [blk b67 (redC (.slice A42 J34.us.length c43) (.slice A47 J34.map.length c48) (.slice A52 J34.comb.length c53) (.slice A57 J34.red.length c58) (.slice A62 J34.marks.length c63) J34 C.w C.t C.o p ep (({ R with g := setD R.g (a73).toNat ({ R.g (a73).toNat with merged := true, pairs := pr79 } : SpD) } : Red).g) (setD hv (a73).toNat (.slice A95 pr79.length c96 : Value)) b41 vs) 185, osl (kHd kPair) (.slice A42 J34.us.length c43) J34.us, osl kIns (.slice A47 J34.map.length c48) J34.map, osl kIns (.slice A52 J34.comb.length c53) J34.comb, osl kIns (.slice A57 J34.red.length c58) J34.red, osl (kInt .i64) (.slice A62 J34.marks.length c63) J34.marks, prsS (({ R with g := setD R.g (a73).toNat ({ R.g (a73).toNat with merged := true, pairs := pr79 } : SpD) } : Red).g) (setD hv (a73).toNat (.slice A95 pr79.length c96 : Value)), osl (kHd (kInt .i64)) vs us, stgI 253 b41 ([])] [rsl (kHd kPair) (.slice A1 C.J.us.length c2) C.J.us, rsl kIns (.slice A6 C.J.map.length c7) C.J.map, rsl kIns (.slice A11 C.J.comb.length c12) C.J.comb, rsl kIns (.slice A16 C.J.red.length c17) C.J.red, rsl (kInt .i64) (.slice A21 C.J.marks.length c22) C.J.marks, rsl kRec (.slice A26 recs.length c27) recs] := H
         exact q_round (s := (k, R, hv, undef, us)) (k + 1, ({ R with g := setD R.g (a73).toNat ({ R.g (a73).toNat with merged := true, pairs := pr79 } : SpD) } : Red), setD hv (a73).toNat (.slice A95 pr79.length c96 : Value), vs, us) ⟨rfl, rfl, rfl, rfl, rfl, rfl, rfl, trivial⟩ ⟨H, hR2, hRp, by (try dsimp only); exact hus, by (try dsimp only); omega, by (try dsimp only); omega⟩ (by (try dsimp only); omega)
       ·refine c_skip (q_then (c_seq (c_reg (s_val rfl rfl (r_fa rfl fo37_0 rfl) (s_val rfl rfl (r_ld rfl ty3 rfl (H.cellI 0 rfl rfl)) (s_val rfl rfl (r_eq rfl rfl rfl) (s_nil (q_then ?_))))))))
        refine c_dec rfl (fun h101 => ?_) (fun h101 => ?_)
        ·exfalso; omega
        ·refine c_skip (q_blockN (q_then (c_reg (s_val rfl rfl (r_add (z := ((k + 1 : Nat) : Int)) rfl rfl rfl (by rw [w64 (by omega) (by omega)]; omega)) (s_1 rfl (s_nil ?_))))))
         have hpart : (Rec.p (⟨a71, a72, a73, a74, a75, .slice A80 se77.length c81, se77, .slice A82 pr79.length c83, pr79⟩ : Rec)).part = R.part := by rw [hRp]; exact Classical.not_not.1 h90
         have hR2 := newR_take hR hx70 (recIn_no hpart (fun h => by have h2 := h.2.2; have h3 := h93; dsimp only [Rec.p] at h2; rw [h2] at h3; exact absurd h3 (by decide)) h101)
         replace H := H.p9.p9.p9.p9.p9.p9.p9.p9.p9.k9
         exact q_round (s := (k, R, hv, undef, us)) (k + 1, R, hv, vs, us) ⟨rfl, rfl, rfl, rfl, rfl, rfl, rfl, trivial⟩ ⟨H, hR2, hRp, by (try dsimp only); exact hus, by (try dsimp only); omega, by (try dsimp only); omega⟩ (by (try dsimp only); omega)
      ·refine s_k 10 rfl (s_nil (q_then (c_no rfl (c_skip (q_then (c_seq (c_reg (s_val rfl rfl (r_fa rfl fo37_0 rfl) (s_val rfl rfl (r_ld rfl ty3 rfl (H.cellI 0 rfl rfl)) (s_val rfl rfl (r_eq rfl rfl rfl) (s_nil (q_then ?_))))))))))))
       refine c_dec rfl (fun h102 => ?_) (fun h102 => ?_)
       ·replace H := H.p9.p8.p8.p8.p8.p8.p8.p7
        refine c_ord (.e 0 (.e 1 (.e 2 (.e 3 (.e 5 (.e 6 (.b 4 7 (.m 7 (.m 8 (.m 9 (.e 10 (.e 11 (.m 12 .z)))))) (.b 4 8 (.m 8 (.m 9 (.e 10 (.e 11 (.m 12 .z))))) (.m 4 (.m 9 (.e 10 (.e 11 (.m 12 .z))))))))))))) (fun w => ∃ Ar, Hd w0 F0 w (blk b89 [.int .i64 a71, .int .i64 a72, .int .i64 a73, .int .i64 a74, .int .i64 a75, .slice A80 se77.length c81, .slice A82 pr79.length c83] 37 :: osl (kHd kPair) (.slice A42 J34.us.length c43) J34.us :: osl kIns (.slice A47 J34.map.length c48) J34.map :: osl kIns (.slice A52 J34.comb.length c53) J34.comb :: osl kIns (.slice A57 J34.red.length c58) J34.red :: osl (kInt .i64) (.slice A62 J34.marks.length c63) J34.marks :: prsS (R.g) hv :: stgI 253 b41 ([]) :: Ar) [rsl (kHd kPair) (.slice A1 C.J.us.length c2) C.J.us, rsl kIns (.slice A6 C.J.map.length c7) C.J.map, rsl kIns (.slice A11 C.J.comb.length c12) C.J.comb, rsl kIns (.slice A16 C.J.red.length c17) C.J.red, rsl (kInt .i64) (.slice A21 C.J.marks.length c22) C.J.marks, rsl kRec (.slice A26 recs.length c27) recs]) mo (by kernel_rfl) (fun w H => ⟨_, H⟩) H (fun w H => ?_)
        refine d_1 rfl (d_1 rfl (d_val rfl rfl rfl (fun w ⟨Ar, H⟩ => r_nilP rfl rfl) (d_val rfl rfl rfl (fun w ⟨Ar, H⟩ => r_fa rfl fo185_5 rfl) (d_val rfl rfl rfl (fun w ⟨Ar, H⟩ => r_fa rfl fo37_5 rfl) (d_val rfl rfl rfl (fun w ⟨Ar, H⟩ => r_ld rfl ty24 rfl (H.cellI 0 rfl rfl)) ?_)))))
        refine d_both rfl rfl ?_ ?_
        ·refine s_val rfl rfl (r_ld rfl ty144 rfl (H.cellI 8 rfl rfl)) (d_back ⟨_, H⟩ (d_main rfl (sc (cloneInt_ok (.slice A80 se77.length c81) se77 (by first | assumption | omega)) H (lX (fun F hA hR => rec_set (hR _ (List.mem_of_getElem? (i := 5) rfl)) hx70) l0) rfl rfl (e_fn kn129 rfl rfl) ?_)))
         rintro v103 _ w rfl H
         replace H := H.h1 (A := osl (kInt .i64) v103 se77) |>.p8 |>.p8 |>.p8 |>.p8 |>.p8 |>.p8 |>.p8 |>.p8
         refine d_back ⟨_, H⟩ (d_main rfl ?_)
         obtain ⟨A105, c106, rfl, hc107, hm108, hp109⟩ := H.fA 8 rfl
         refine s_bsl (parts := [(0, .tmp 76)]) (vs := [.slice A105 se77.length c106]) (cs := [.slice A105 se77.length c106]) rfl rfl rfl sl144 zr24 rfl (by decide) (by decide) rfl rfl H (fun b104 w H => ?_)
         replace H : Hd _ _ _ [blk b104 [.slice A105 se77.length c106] 24, blk b89 [.int .i64 a71, .int .i64 a72, .int .i64 a73, .int .i64 a74, .int .i64 a75, .slice A80 se77.length c81, .slice A82 pr79.length c83] 37, osl (kHd kPair) (.slice A42 J34.us.length c43) J34.us, osl kIns (.slice A47 J34.map.length c48) J34.map, osl kIns (.slice A52 J34.comb.length c53) J34.comb, osl kIns (.slice A57 J34.red.length c58) J34.red, osl (kInt .i64) (.slice A62 J34.marks.length c63) J34.marks, prsS (R.g) hv, stgI 253 b41 ([]), osl (kInt .i64) (.slice A105 se77.length c106) se77, blk b67 (redC (.slice A42 J34.us.length c43) (.slice A47 J34.map.length c48) (.slice A52 J34.comb.length c53) (.slice A57 J34.red.length c58) (.slice A62 J34.marks.length c63) J34 C.w C.t C.o p ep R.g hv b41 vs) 185, osl (kHd (kInt .i64)) vs us] [rsl (kHd kPair) (.slice A1 C.J.us.length c2) C.J.us, rsl kIns (.slice A6 C.J.map.length c7) C.J.map, rsl kIns (.slice A11 C.J.comb.length c12) C.J.comb, rsl kIns (.slice A16 C.J.red.length c17) C.J.red, rsl (kInt .i64) (.slice A21 C.J.marks.length c22) C.J.marks, rsl kRec (.slice A26 recs.length c27) recs] := H
         replace H := H.p8.p8.p8.p8.p8.p8.p8.p8
         refine d_back ⟨_, H⟩ (d_main rfl ?_)
         replace H := H.pick 11 rfl |>.pick 10 rfl |>.pick 10 rfl |>.p2
         refine s_appH rfl rfl rfl sl144 zr24 rfl (by decide) rfl rfl H (by first | omega | (simp only [List.length_append, List.length_cons, List.length_nil]; omega)) (fun v110 w H => ?_)
         replace H := H.h1 (A := osl (kHd (kInt .i64)) v110 (us ++ [((.slice A105 se77.length c106 : Value), se77)])) |>.p8 |>.p8 |>.p8 |>.p8 |>.p8 |>.p8 |>.p8 |>.p8
         refine d_back ⟨_, H⟩ (d_val rfl rfl rfl (fun w ⟨Ar, H⟩ => r_nilP rfl rfl) (d_val rfl rfl rfl (fun w ⟨Ar, H⟩ => r_fa rfl fo185_5 rfl) (d_main rfl ?_)))
         obtain ⟨A111, c112, rfl, hc113, hm114, hp115⟩ := H.fA 8 rfl
         replace H := H.p9
         refine s_st rfl rfl rfl ty144 rfl rfl H rfl (Nat.le_of_ble_eq_true rfl) (fun u hu => by simp [Value.cells] at hu; subst hu; rfl) (fun w H => ?_)
         replace H : Hd _ _ _ [blk b67 (redC (.slice A42 J34.us.length c43) (.slice A47 J34.map.length c48) (.slice A52 J34.comb.length c53) (.slice A57 J34.red.length c58) (.slice A62 J34.marks.length c63) J34 C.w C.t C.o p ep R.g hv b41 (.slice A111 ((us ++ [((.slice A105 se77.length c106 : Value), se77)]).length) c112)) 185, blk b89 [.int .i64 a71, .int .i64 a72, .int .i64 a73, .int .i64 a74, .int .i64 a75, .slice A80 se77.length c81, .slice A82 pr79.length c83] 37, osl (kHd kPair) (.slice A42 J34.us.length c43) J34.us, osl kIns (.slice A47 J34.map.length c48) J34.map, osl kIns (.slice A52 J34.comb.length c53) J34.comb, osl kIns (.slice A57 J34.red.length c58) J34.red, osl (kInt .i64) (.slice A62 J34.marks.length c63) J34.marks, prsS (R.g) hv, stgI 253 b41 ([]), osl (kHd (kInt .i64)) (.slice A111 ((us ++ [((.slice A105 se77.length c106 : Value), se77)]).length) c112) (us ++ [((.slice A105 se77.length c106 : Value), se77)])] [rsl (kHd kPair) (.slice A1 C.J.us.length c2) C.J.us, rsl kIns (.slice A6 C.J.map.length c7) C.J.map, rsl kIns (.slice A11 C.J.comb.length c12) C.J.comb, rsl kIns (.slice A16 C.J.red.length c17) C.J.red, rsl (kInt .i64) (.slice A21 C.J.marks.length c22) C.J.marks, rsl kRec (.slice A26 recs.length c27) recs] := H
         replace H := H.p8.p8.p8.p8.p8.p8.p8.p8
         refine d_back ⟨_, H⟩ (d_nil (q_blockN (q_then (c_reg (s_val rfl rfl (r_add (z := ((k + 1 : Nat) : Int)) rfl rfl rfl (by rw [w64 (by omega) (by omega)]; omega)) (s_1 rfl (s_nil ?_)))))))
         have hpart : (Rec.p (⟨a71, a72, a73, a74, a75, .slice A80 se77.length c81, se77, .slice A82 pr79.length c83, pr79⟩ : Rec)).part = R.part := by rw [hRp]; exact Classical.not_not.1 h90
         have hR2 := newR_take hR hx70 (recIn_s hpart h102)
         replace H := H.p7.p9.p8.p8.p8.p8.p8.p8.p9.k9
         replace H : Hd _ _ _ [blk b67 (redC (.slice A42 J34.us.length c43) (.slice A47 J34.map.length c48) (.slice A52 J34.comb.length c53) (.slice A57 J34.red.length c58) (.slice A62 J34.marks.length c63) J34 C.w C.t C.o p ep (({ R with sets := R.sets ++ [se77] } : Red).g) hv b41 (.slice A111 ((us ++ [((.slice A105 se77.length c106 : Value), se77)]).length) c112)) 185, osl (kHd kPair) (.slice A42 J34.us.length c43) J34.us, osl kIns (.slice A47 J34.map.length c48) J34.map, osl kIns (.slice A52 J34.comb.length c53) J34.comb, osl kIns (.slice A57 J34.red.length c58) J34.red, osl (kInt .i64) (.slice A62 J34.marks.length c63) J34.marks, prsS (({ R with sets := R.sets ++ [se77] } : Red).g) hv, osl (kHd (kInt .i64)) (.slice A111 ((us ++ [((.slice A105 se77.length c106 : Value), se77)]).length) c112) (us ++ [((.slice A105 se77.length c106 : Value), se77)]), stgI 253 b41 ([])] [rsl (kHd kPair) (.slice A1 C.J.us.length c2) C.J.us, rsl kIns (.slice A6 C.J.map.length c7) C.J.map, rsl kIns (.slice A11 C.J.comb.length c12) C.J.comb, rsl kIns (.slice A16 C.J.red.length c17) C.J.red, rsl (kInt .i64) (.slice A21 C.J.marks.length c22) C.J.marks, rsl kRec (.slice A26 recs.length c27) recs] := H
         exact q_round (s := (k, R, hv, undef, us)) (k + 1, ({ R with sets := R.sets ++ [se77] } : Red), hv, .slice A111 ((us ++ [((.slice A105 se77.length c106 : Value), se77)]).length) c112, us ++ [((.slice A105 se77.length c106 : Value), se77)]) ⟨rfl, rfl, rfl, rfl, rfl, rfl, rfl, trivial⟩ ⟨H, hR2, hRp, by (try dsimp only); rw [List.map_append, hus]; rfl, by (try dsimp only); omega, by (try dsimp only); rw [List.length_append]; simp only [List.length_cons, List.length_nil]; omega⟩ (by (try dsimp only); omega)
        ·refine sc (cloneInt_ok (.slice A80 se77.length c81) se77 (by first | assumption | omega)) H (lX (fun F hA hR => rec_set (hR _ (List.mem_of_getElem? (i := 5) rfl)) hx70) l0) rfl rfl (e_fn kn129 rfl rfl) ?_
         rintro v116 _ w rfl H
         replace H := H.h1 (A := osl (kInt .i64) v116 se77) |>.p8 |>.p8 |>.p8 |>.p8 |>.p8 |>.p8 |>.p8 |>.p8
         refine d_back ⟨_, H⟩ ?_
         refine d_both rfl rfl ?_ ?_
         ·refine s_val rfl rfl (r_ld rfl ty144 rfl (H.cellI 9 rfl rfl)) (d_back ⟨_, H⟩ (d_main rfl ?_))
          obtain ⟨A118, c119, rfl, hc120, hm121, hp122⟩ := H.fA 8 rfl
          refine s_bsl (parts := [(0, .tmp 76)]) (vs := [.slice A118 se77.length c119]) (cs := [.slice A118 se77.length c119]) rfl rfl rfl sl144 zr24 rfl (by decide) (by decide) rfl rfl H (fun b117 w H => ?_)
          replace H : Hd _ _ _ [blk b117 [.slice A118 se77.length c119] 24, blk b89 [.int .i64 a71, .int .i64 a72, .int .i64 a73, .int .i64 a74, .int .i64 a75, .slice A80 se77.length c81, .slice A82 pr79.length c83] 37, osl (kHd kPair) (.slice A42 J34.us.length c43) J34.us, osl kIns (.slice A47 J34.map.length c48) J34.map, osl kIns (.slice A52 J34.comb.length c53) J34.comb, osl kIns (.slice A57 J34.red.length c58) J34.red, osl (kInt .i64) (.slice A62 J34.marks.length c63) J34.marks, prsS (R.g) hv, stgI 253 b41 ([]), osl (kInt .i64) (.slice A118 se77.length c119) se77, blk b67 (redC (.slice A42 J34.us.length c43) (.slice A47 J34.map.length c48) (.slice A52 J34.comb.length c53) (.slice A57 J34.red.length c58) (.slice A62 J34.marks.length c63) J34 C.w C.t C.o p ep R.g hv b41 vs) 185, osl (kHd (kInt .i64)) vs us] [rsl (kHd kPair) (.slice A1 C.J.us.length c2) C.J.us, rsl kIns (.slice A6 C.J.map.length c7) C.J.map, rsl kIns (.slice A11 C.J.comb.length c12) C.J.comb, rsl kIns (.slice A16 C.J.red.length c17) C.J.red, rsl (kInt .i64) (.slice A21 C.J.marks.length c22) C.J.marks, rsl kRec (.slice A26 recs.length c27) recs] := H
          replace H := H.p8.p8.p8.p8.p8.p8.p8.p8
          refine d_back ⟨_, H⟩ (d_main rfl ?_)
          replace H := H.pick 11 rfl |>.pick 10 rfl |>.pick 10 rfl |>.p2
          refine s_appH rfl rfl rfl sl144 zr24 rfl (by decide) rfl rfl H (by first | omega | (simp only [List.length_append, List.length_cons, List.length_nil]; omega)) (fun v123 w H => ?_)
          replace H := H.h1 (A := osl (kHd (kInt .i64)) v123 (us ++ [((.slice A118 se77.length c119 : Value), se77)])) |>.p8 |>.p8 |>.p8 |>.p8 |>.p8 |>.p8 |>.p8 |>.p8
          refine d_back ⟨_, H⟩ (d_val rfl rfl rfl (fun w ⟨Ar, H⟩ => r_nilP rfl rfl) (d_val rfl rfl rfl (fun w ⟨Ar, H⟩ => r_fa rfl fo185_5 rfl) (d_main rfl ?_)))
          obtain ⟨A124, c125, rfl, hc126, hm127, hp128⟩ := H.fA 8 rfl
          replace H := H.p9
          refine s_st rfl rfl rfl ty144 rfl rfl H rfl (Nat.le_of_ble_eq_true rfl) (fun u hu => by simp [Value.cells] at hu; subst hu; rfl) (fun w H => ?_)
          replace H : Hd _ _ _ [blk b67 (redC (.slice A42 J34.us.length c43) (.slice A47 J34.map.length c48) (.slice A52 J34.comb.length c53) (.slice A57 J34.red.length c58) (.slice A62 J34.marks.length c63) J34 C.w C.t C.o p ep R.g hv b41 (.slice A124 ((us ++ [((.slice A118 se77.length c119 : Value), se77)]).length) c125)) 185, blk b89 [.int .i64 a71, .int .i64 a72, .int .i64 a73, .int .i64 a74, .int .i64 a75, .slice A80 se77.length c81, .slice A82 pr79.length c83] 37, osl (kHd kPair) (.slice A42 J34.us.length c43) J34.us, osl kIns (.slice A47 J34.map.length c48) J34.map, osl kIns (.slice A52 J34.comb.length c53) J34.comb, osl kIns (.slice A57 J34.red.length c58) J34.red, osl (kInt .i64) (.slice A62 J34.marks.length c63) J34.marks, prsS (R.g) hv, stgI 253 b41 ([]), osl (kHd (kInt .i64)) (.slice A124 ((us ++ [((.slice A118 se77.length c119 : Value), se77)]).length) c125) (us ++ [((.slice A118 se77.length c119 : Value), se77)])] [rsl (kHd kPair) (.slice A1 C.J.us.length c2) C.J.us, rsl kIns (.slice A6 C.J.map.length c7) C.J.map, rsl kIns (.slice A11 C.J.comb.length c12) C.J.comb, rsl kIns (.slice A16 C.J.red.length c17) C.J.red, rsl (kInt .i64) (.slice A21 C.J.marks.length c22) C.J.marks, rsl kRec (.slice A26 recs.length c27) recs] := H
          replace H := H.p8.p8.p8.p8.p8.p8.p8.p8
          refine d_back ⟨_, H⟩ (d_nil (q_blockN (q_then (c_reg (s_val rfl rfl (r_add (z := ((k + 1 : Nat) : Int)) rfl rfl rfl (by rw [w64 (by omega) (by omega)]; omega)) (s_1 rfl (s_nil ?_)))))))
          have hpart : (Rec.p (⟨a71, a72, a73, a74, a75, .slice A80 se77.length c81, se77, .slice A82 pr79.length c83, pr79⟩ : Rec)).part = R.part := by rw [hRp]; exact Classical.not_not.1 h90
          have hR2 := newR_take hR hx70 (recIn_s hpart h102)
          replace H := H.p7.p9.p8.p8.p8.p8.p8.p8.p9.k9
          replace H : Hd _ _ _ [blk b67 (redC (.slice A42 J34.us.length c43) (.slice A47 J34.map.length c48) (.slice A52 J34.comb.length c53) (.slice A57 J34.red.length c58) (.slice A62 J34.marks.length c63) J34 C.w C.t C.o p ep (({ R with sets := R.sets ++ [se77] } : Red).g) hv b41 (.slice A124 ((us ++ [((.slice A118 se77.length c119 : Value), se77)]).length) c125)) 185, osl (kHd kPair) (.slice A42 J34.us.length c43) J34.us, osl kIns (.slice A47 J34.map.length c48) J34.map, osl kIns (.slice A52 J34.comb.length c53) J34.comb, osl kIns (.slice A57 J34.red.length c58) J34.red, osl (kInt .i64) (.slice A62 J34.marks.length c63) J34.marks, prsS (({ R with sets := R.sets ++ [se77] } : Red).g) hv, osl (kHd (kInt .i64)) (.slice A124 ((us ++ [((.slice A118 se77.length c119 : Value), se77)]).length) c125) (us ++ [((.slice A118 se77.length c119 : Value), se77)]), stgI 253 b41 ([])] [rsl (kHd kPair) (.slice A1 C.J.us.length c2) C.J.us, rsl kIns (.slice A6 C.J.map.length c7) C.J.map, rsl kIns (.slice A11 C.J.comb.length c12) C.J.comb, rsl kIns (.slice A16 C.J.red.length c17) C.J.red, rsl (kInt .i64) (.slice A21 C.J.marks.length c22) C.J.marks, rsl kRec (.slice A26 recs.length c27) recs] := H
          exact q_round (s := (k, R, hv, undef, us)) (k + 1, ({ R with sets := R.sets ++ [se77] } : Red), hv, .slice A124 ((us ++ [((.slice A118 se77.length c119 : Value), se77)]).length) c125, us ++ [((.slice A118 se77.length c119 : Value), se77)]) ⟨rfl, rfl, rfl, rfl, rfl, rfl, rfl, trivial⟩ ⟨H, hR2, hRp, by (try dsimp only); rw [List.map_append, hus]; rfl, by (try dsimp only); omega, by (try dsimp only); rw [List.length_append]; simp only [List.length_cons, List.length_nil]; omega⟩ (by (try dsimp only); omega)
         ·obtain ⟨A130, c131, rfl, hc132, hm133, hp134⟩ := H.fA 8 rfl
          refine s_bsl (parts := [(0, .tmp 76)]) (vs := [.slice A130 se77.length c131]) (cs := [.slice A130 se77.length c131]) rfl rfl rfl sl144 zr24 rfl (by decide) (by decide) rfl rfl H (fun b129 w H => ?_)
          replace H : Hd _ _ _ [blk b129 [.slice A130 se77.length c131] 24, blk b89 [.int .i64 a71, .int .i64 a72, .int .i64 a73, .int .i64 a74, .int .i64 a75, .slice A80 se77.length c81, .slice A82 pr79.length c83] 37, osl (kHd kPair) (.slice A42 J34.us.length c43) J34.us, osl kIns (.slice A47 J34.map.length c48) J34.map, osl kIns (.slice A52 J34.comb.length c53) J34.comb, osl kIns (.slice A57 J34.red.length c58) J34.red, osl (kInt .i64) (.slice A62 J34.marks.length c63) J34.marks, prsS (R.g) hv, stgI 253 b41 ([]), osl (kInt .i64) (.slice A130 se77.length c131) se77, blk b67 (redC (.slice A42 J34.us.length c43) (.slice A47 J34.map.length c48) (.slice A52 J34.comb.length c53) (.slice A57 J34.red.length c58) (.slice A62 J34.marks.length c63) J34 C.w C.t C.o p ep R.g hv b41 vs) 185, osl (kHd (kInt .i64)) vs us] [rsl (kHd kPair) (.slice A1 C.J.us.length c2) C.J.us, rsl kIns (.slice A6 C.J.map.length c7) C.J.map, rsl kIns (.slice A11 C.J.comb.length c12) C.J.comb, rsl kIns (.slice A16 C.J.red.length c17) C.J.red, rsl (kInt .i64) (.slice A21 C.J.marks.length c22) C.J.marks, rsl kRec (.slice A26 recs.length c27) recs] := H
          replace H := H.p8.p8.p8.p8.p8.p8.p8.p8
          refine d_back ⟨_, H⟩ (d_main rfl (s_val rfl rfl (r_ld rfl ty144 rfl (H.cellI 10 rfl rfl)) (d_back ⟨_, H⟩ (d_main rfl ?_))))
          replace H := H.pick 11 rfl |>.pick 10 rfl |>.pick 10 rfl |>.p2
          refine s_appH rfl rfl rfl sl144 zr24 rfl (by decide) rfl rfl H (by first | omega | (simp only [List.length_append, List.length_cons, List.length_nil]; omega)) (fun v135 w H => ?_)
          replace H := H.h1 (A := osl (kHd (kInt .i64)) v135 (us ++ [((.slice A130 se77.length c131 : Value), se77)])) |>.p8 |>.p8 |>.p8 |>.p8 |>.p8 |>.p8 |>.p8 |>.p8
          refine d_back ⟨_, H⟩ (d_val rfl rfl rfl (fun w ⟨Ar, H⟩ => r_nilP rfl rfl) (d_val rfl rfl rfl (fun w ⟨Ar, H⟩ => r_fa rfl fo185_5 rfl) (d_main rfl ?_)))
          obtain ⟨A136, c137, rfl, hc138, hm139, hp140⟩ := H.fA 8 rfl
          replace H := H.p9
          refine s_st rfl rfl rfl ty144 rfl rfl H rfl (Nat.le_of_ble_eq_true rfl) (fun u hu => by simp [Value.cells] at hu; subst hu; rfl) (fun w H => ?_)
          replace H : Hd _ _ _ [blk b67 (redC (.slice A42 J34.us.length c43) (.slice A47 J34.map.length c48) (.slice A52 J34.comb.length c53) (.slice A57 J34.red.length c58) (.slice A62 J34.marks.length c63) J34 C.w C.t C.o p ep R.g hv b41 (.slice A136 ((us ++ [((.slice A130 se77.length c131 : Value), se77)]).length) c137)) 185, blk b89 [.int .i64 a71, .int .i64 a72, .int .i64 a73, .int .i64 a74, .int .i64 a75, .slice A80 se77.length c81, .slice A82 pr79.length c83] 37, osl (kHd kPair) (.slice A42 J34.us.length c43) J34.us, osl kIns (.slice A47 J34.map.length c48) J34.map, osl kIns (.slice A52 J34.comb.length c53) J34.comb, osl kIns (.slice A57 J34.red.length c58) J34.red, osl (kInt .i64) (.slice A62 J34.marks.length c63) J34.marks, prsS (R.g) hv, stgI 253 b41 ([]), osl (kHd (kInt .i64)) (.slice A136 ((us ++ [((.slice A130 se77.length c131 : Value), se77)]).length) c137) (us ++ [((.slice A130 se77.length c131 : Value), se77)])] [rsl (kHd kPair) (.slice A1 C.J.us.length c2) C.J.us, rsl kIns (.slice A6 C.J.map.length c7) C.J.map, rsl kIns (.slice A11 C.J.comb.length c12) C.J.comb, rsl kIns (.slice A16 C.J.red.length c17) C.J.red, rsl (kInt .i64) (.slice A21 C.J.marks.length c22) C.J.marks, rsl kRec (.slice A26 recs.length c27) recs] := H
          replace H := H.p8.p8.p8.p8.p8.p8.p8.p8
          refine d_back ⟨_, H⟩ (d_nil (q_blockN (q_then (c_reg (s_val rfl rfl (r_add (z := ((k + 1 : Nat) : Int)) rfl rfl rfl (by rw [w64 (by omega) (by omega)]; omega)) (s_1 rfl (s_nil ?_)))))))
          have hpart : (Rec.p (⟨a71, a72, a73, a74, a75, .slice A80 se77.length c81, se77, .slice A82 pr79.length c83, pr79⟩ : Rec)).part = R.part := by rw [hRp]; exact Classical.not_not.1 h90
          have hR2 := newR_take hR hx70 (recIn_s hpart h102)
          replace H := H.p7.p9.p8.p8.p8.p8.p8.p8.p9.k9
          replace H : Hd _ _ _ [blk b67 (redC (.slice A42 J34.us.length c43) (.slice A47 J34.map.length c48) (.slice A52 J34.comb.length c53) (.slice A57 J34.red.length c58) (.slice A62 J34.marks.length c63) J34 C.w C.t C.o p ep (({ R with sets := R.sets ++ [se77] } : Red).g) hv b41 (.slice A136 ((us ++ [((.slice A130 se77.length c131 : Value), se77)]).length) c137)) 185, osl (kHd kPair) (.slice A42 J34.us.length c43) J34.us, osl kIns (.slice A47 J34.map.length c48) J34.map, osl kIns (.slice A52 J34.comb.length c53) J34.comb, osl kIns (.slice A57 J34.red.length c58) J34.red, osl (kInt .i64) (.slice A62 J34.marks.length c63) J34.marks, prsS (({ R with sets := R.sets ++ [se77] } : Red).g) hv, osl (kHd (kInt .i64)) (.slice A136 ((us ++ [((.slice A130 se77.length c131 : Value), se77)]).length) c137) (us ++ [((.slice A130 se77.length c131 : Value), se77)]), stgI 253 b41 ([])] [rsl (kHd kPair) (.slice A1 C.J.us.length c2) C.J.us, rsl kIns (.slice A6 C.J.map.length c7) C.J.map, rsl kIns (.slice A11 C.J.comb.length c12) C.J.comb, rsl kIns (.slice A16 C.J.red.length c17) C.J.red, rsl (kInt .i64) (.slice A21 C.J.marks.length c22) C.J.marks, rsl kRec (.slice A26 recs.length c27) recs] := H
          exact q_round (s := (k, R, hv, undef, us)) (k + 1, ({ R with sets := R.sets ++ [se77] } : Red), hv, .slice A136 ((us ++ [((.slice A130 se77.length c131 : Value), se77)]).length) c137, us ++ [((.slice A130 se77.length c131 : Value), se77)]) ⟨rfl, rfl, rfl, rfl, rfl, rfl, rfl, trivial⟩ ⟨H, hR2, hRp, by (try dsimp only); rw [List.map_append, hus]; rfl, by (try dsimp only); omega, by (try dsimp only); rw [List.length_append]; simp only [List.length_cons, List.length_nil]; omega⟩ (by (try dsimp only); omega)
       ·refine c_skip (q_blockN (q_then (c_reg (s_val rfl rfl (r_add (z := ((k + 1 : Nat) : Int)) rfl rfl rfl (by rw [w64 (by omega) (by omega)]; omega)) (s_1 rfl (s_nil ?_))))))
        have hpart : (Rec.p (⟨a71, a72, a73, a74, a75, .slice A80 se77.length c81, se77, .slice A82 pr79.length c83, pr79⟩ : Rec)).part = R.part := by rw [hRp]; exact Classical.not_not.1 h90
        have hR2 := newR_take hR hx70 (recIn_no hpart (fun h => h92 h.1) h102)
        replace H := H.p9.p9.p9.p9.p9.p9.p9.p9.p9.k9
        exact q_round (s := (k, R, hv, undef, us)) (k + 1, R, hv, vs, us) ⟨rfl, rfl, rfl, rfl, rfl, rfl, rfl, trivial⟩ ⟨H, hR2, hRp, by (try dsimp only); exact hus, by (try dsimp only); omega, by (try dsimp only); omega⟩ (by (try dsimp only); omega)
     ·refine c_reg (s_1 rfl (s_val rfl rfl (r_fa rfl fo37_2 rfl) (s_val rfl rfl (r_ld rfl ty3 rfl (H.cellI 0 rfl rfl)) (sc (at_no b67 A42 J34.us.length c43 (.slice A47 J34.map.length c48) (.slice A52 J34.comb.length c53) (.slice A57 J34.red.length c58) (.slice A62 J34.marks.length c63) J34 C.w C.t C.o p ep R.g hv b41 vs a73 (by first | assumption | omega)) H (lA 1 rfl (fun _ h => h) l0) rfl rfl (e_fn kn118 rfl rfl) ?_))))
      rintro _ _ w ⟨rfl, rfl⟩ H
      refine s_1 rfl (s_nil (q_then (c_seq (c_reg (s_val rfl rfl (r_fa rfl fo37_0 rfl) (s_val rfl rfl (r_ld rfl ty3 rfl (H.cellI 0 rfl rfl)) (s_val rfl rfl (r_eq rfl rfl rfl) (s_1 rfl ?_))))))))
      refine s_dec (d := 46) rfl (fun h141 => ?_) (fun h141 => ?_)
      ·refine s_1 rfl (s_val rfl rfl (r_pne rfl un178 rfl rfl) (s_k 8 rfl (s_nil (q_then (c_no rfl (c_skip (q_then (c_seq (c_reg (s_val rfl rfl (r_fa rfl fo37_0 rfl) (s_val rfl rfl (r_ld rfl ty3 rfl (H.cellI 0 rfl rfl)) (s_val rfl rfl (r_eq rfl rfl rfl) (s_nil (q_then ?_))))))))))))))
       refine c_dec rfl (fun h142 => ?_) (fun h142 => ?_)
       ·exfalso; omega
       ·refine c_skip (q_blockN (q_then (c_reg (s_val rfl rfl (r_add (z := ((k + 1 : Nat) : Int)) rfl rfl rfl (by rw [w64 (by omega) (by omega)]; omega)) (s_1 rfl (s_nil ?_))))))
        have hpart : (Rec.p (⟨a71, a72, a73, a74, a75, .slice A80 se77.length c81, se77, .slice A82 pr79.length c83, pr79⟩ : Rec)).part = R.part := by rw [hRp]; exact Classical.not_not.1 h90
        have hR2 := newR_take hR hx70 (recIn_no hpart (fun h => hin91 h.2.1) h142)
        replace H := H.p9.p9.p9.p9.p9.p9.p9.p9.p9.k9
        exact q_round (s := (k, R, hv, undef, us)) (k + 1, R, hv, vs, us) ⟨rfl, rfl, rfl, rfl, rfl, rfl, rfl, trivial⟩ ⟨H, hR2, hRp, by (try dsimp only); exact hus, by (try dsimp only); omega, by (try dsimp only); omega⟩ (by (try dsimp only); omega)
      ·refine s_k 10 rfl (s_nil (q_then (c_no rfl (c_skip (q_then (c_seq (c_reg (s_val rfl rfl (r_fa rfl fo37_0 rfl) (s_val rfl rfl (r_ld rfl ty3 rfl (H.cellI 0 rfl rfl)) (s_val rfl rfl (r_eq rfl rfl rfl) (s_nil (q_then ?_))))))))))))
       refine c_dec rfl (fun h143 => ?_) (fun h143 => ?_)
       ·replace H := H.p9.p8.p8.p8.p8.p8.p8.p7
        refine c_ord (.e 0 (.e 1 (.e 2 (.e 3 (.e 5 (.e 6 (.b 4 7 (.m 7 (.m 8 (.m 9 (.e 10 (.e 11 (.m 12 .z)))))) (.b 4 8 (.m 8 (.m 9 (.e 10 (.e 11 (.m 12 .z))))) (.m 4 (.m 9 (.e 10 (.e 11 (.m 12 .z))))))))))))) (fun w => ∃ Ar, Hd w0 F0 w (blk b89 [.int .i64 a71, .int .i64 a72, .int .i64 a73, .int .i64 a74, .int .i64 a75, .slice A80 se77.length c81, .slice A82 pr79.length c83] 37 :: osl (kHd kPair) (.slice A42 J34.us.length c43) J34.us :: osl kIns (.slice A47 J34.map.length c48) J34.map :: osl kIns (.slice A52 J34.comb.length c53) J34.comb :: osl kIns (.slice A57 J34.red.length c58) J34.red :: osl (kInt .i64) (.slice A62 J34.marks.length c63) J34.marks :: prsS (R.g) hv :: stgI 253 b41 ([]) :: Ar) [rsl (kHd kPair) (.slice A1 C.J.us.length c2) C.J.us, rsl kIns (.slice A6 C.J.map.length c7) C.J.map, rsl kIns (.slice A11 C.J.comb.length c12) C.J.comb, rsl kIns (.slice A16 C.J.red.length c17) C.J.red, rsl (kInt .i64) (.slice A21 C.J.marks.length c22) C.J.marks, rsl kRec (.slice A26 recs.length c27) recs]) mo (by kernel_rfl) (fun w H => ⟨_, H⟩) H (fun w H => ?_)
        refine d_1 rfl (d_1 rfl (d_val rfl rfl rfl (fun w ⟨Ar, H⟩ => r_nilP rfl rfl) (d_val rfl rfl rfl (fun w ⟨Ar, H⟩ => r_fa rfl fo185_5 rfl) (d_val rfl rfl rfl (fun w ⟨Ar, H⟩ => r_fa rfl fo37_5 rfl) (d_val rfl rfl rfl (fun w ⟨Ar, H⟩ => r_ld rfl ty24 rfl (H.cellI 0 rfl rfl)) ?_)))))
        refine d_both rfl rfl ?_ ?_
        ·refine s_val rfl rfl (r_ld rfl ty144 rfl (H.cellI 8 rfl rfl)) (d_back ⟨_, H⟩ (d_main rfl (sc (cloneInt_ok (.slice A80 se77.length c81) se77 (by first | assumption | omega)) H (lX (fun F hA hR => rec_set (hR _ (List.mem_of_getElem? (i := 5) rfl)) hx70) l0) rfl rfl (e_fn kn129 rfl rfl) ?_)))
         rintro v144 _ w rfl H
         replace H := H.h1 (A := osl (kInt .i64) v144 se77) |>.p8 |>.p8 |>.p8 |>.p8 |>.p8 |>.p8 |>.p8 |>.p8
         refine d_back ⟨_, H⟩ (d_main rfl ?_)
         obtain ⟨A146, c147, rfl, hc148, hm149, hp150⟩ := H.fA 8 rfl
         refine s_bsl (parts := [(0, .tmp 76)]) (vs := [.slice A146 se77.length c147]) (cs := [.slice A146 se77.length c147]) rfl rfl rfl sl144 zr24 rfl (by decide) (by decide) rfl rfl H (fun b145 w H => ?_)
         replace H : Hd _ _ _ [blk b145 [.slice A146 se77.length c147] 24, blk b89 [.int .i64 a71, .int .i64 a72, .int .i64 a73, .int .i64 a74, .int .i64 a75, .slice A80 se77.length c81, .slice A82 pr79.length c83] 37, osl (kHd kPair) (.slice A42 J34.us.length c43) J34.us, osl kIns (.slice A47 J34.map.length c48) J34.map, osl kIns (.slice A52 J34.comb.length c53) J34.comb, osl kIns (.slice A57 J34.red.length c58) J34.red, osl (kInt .i64) (.slice A62 J34.marks.length c63) J34.marks, prsS (R.g) hv, stgI 253 b41 ([]), osl (kInt .i64) (.slice A146 se77.length c147) se77, blk b67 (redC (.slice A42 J34.us.length c43) (.slice A47 J34.map.length c48) (.slice A52 J34.comb.length c53) (.slice A57 J34.red.length c58) (.slice A62 J34.marks.length c63) J34 C.w C.t C.o p ep R.g hv b41 vs) 185, osl (kHd (kInt .i64)) vs us] [rsl (kHd kPair) (.slice A1 C.J.us.length c2) C.J.us, rsl kIns (.slice A6 C.J.map.length c7) C.J.map, rsl kIns (.slice A11 C.J.comb.length c12) C.J.comb, rsl kIns (.slice A16 C.J.red.length c17) C.J.red, rsl (kInt .i64) (.slice A21 C.J.marks.length c22) C.J.marks, rsl kRec (.slice A26 recs.length c27) recs] := H
         replace H := H.p8.p8.p8.p8.p8.p8.p8.p8
         refine d_back ⟨_, H⟩ (d_main rfl ?_)
         replace H := H.pick 11 rfl |>.pick 10 rfl |>.pick 10 rfl |>.p2
         refine s_appH rfl rfl rfl sl144 zr24 rfl (by decide) rfl rfl H (by first | omega | (simp only [List.length_append, List.length_cons, List.length_nil]; omega)) (fun v151 w H => ?_)
         replace H := H.h1 (A := osl (kHd (kInt .i64)) v151 (us ++ [((.slice A146 se77.length c147 : Value), se77)])) |>.p8 |>.p8 |>.p8 |>.p8 |>.p8 |>.p8 |>.p8 |>.p8
         refine d_back ⟨_, H⟩ (d_val rfl rfl rfl (fun w ⟨Ar, H⟩ => r_nilP rfl rfl) (d_val rfl rfl rfl (fun w ⟨Ar, H⟩ => r_fa rfl fo185_5 rfl) (d_main rfl ?_)))
         obtain ⟨A152, c153, rfl, hc154, hm155, hp156⟩ := H.fA 8 rfl
         replace H := H.p9
         refine s_st rfl rfl rfl ty144 rfl rfl H rfl (Nat.le_of_ble_eq_true rfl) (fun u hu => by simp [Value.cells] at hu; subst hu; rfl) (fun w H => ?_)
         replace H : Hd _ _ _ [blk b67 (redC (.slice A42 J34.us.length c43) (.slice A47 J34.map.length c48) (.slice A52 J34.comb.length c53) (.slice A57 J34.red.length c58) (.slice A62 J34.marks.length c63) J34 C.w C.t C.o p ep R.g hv b41 (.slice A152 ((us ++ [((.slice A146 se77.length c147 : Value), se77)]).length) c153)) 185, blk b89 [.int .i64 a71, .int .i64 a72, .int .i64 a73, .int .i64 a74, .int .i64 a75, .slice A80 se77.length c81, .slice A82 pr79.length c83] 37, osl (kHd kPair) (.slice A42 J34.us.length c43) J34.us, osl kIns (.slice A47 J34.map.length c48) J34.map, osl kIns (.slice A52 J34.comb.length c53) J34.comb, osl kIns (.slice A57 J34.red.length c58) J34.red, osl (kInt .i64) (.slice A62 J34.marks.length c63) J34.marks, prsS (R.g) hv, stgI 253 b41 ([]), osl (kHd (kInt .i64)) (.slice A152 ((us ++ [((.slice A146 se77.length c147 : Value), se77)]).length) c153) (us ++ [((.slice A146 se77.length c147 : Value), se77)])] [rsl (kHd kPair) (.slice A1 C.J.us.length c2) C.J.us, rsl kIns (.slice A6 C.J.map.length c7) C.J.map, rsl kIns (.slice A11 C.J.comb.length c12) C.J.comb, rsl kIns (.slice A16 C.J.red.length c17) C.J.red, rsl (kInt .i64) (.slice A21 C.J.marks.length c22) C.J.marks, rsl kRec (.slice A26 recs.length c27) recs] := H
         replace H := H.p8.p8.p8.p8.p8.p8.p8.p8
         refine d_back ⟨_, H⟩ (d_nil (q_blockN (q_then (c_reg (s_val rfl rfl (r_add (z := ((k + 1 : Nat) : Int)) rfl rfl rfl (by rw [w64 (by omega) (by omega)]; omega)) (s_1 rfl (s_nil ?_)))))))
         have hpart : (Rec.p (⟨a71, a72, a73, a74, a75, .slice A80 se77.length c81, se77, .slice A82 pr79.length c83, pr79⟩ : Rec)).part = R.part := by rw [hRp]; exact Classical.not_not.1 h90
         have hR2 := newR_take hR hx70 (recIn_s hpart h143)
         replace H := H.p7.p9.p8.p8.p8.p8.p8.p8.p9.k9
         replace H : Hd _ _ _ [blk b67 (redC (.slice A42 J34.us.length c43) (.slice A47 J34.map.length c48) (.slice A52 J34.comb.length c53) (.slice A57 J34.red.length c58) (.slice A62 J34.marks.length c63) J34 C.w C.t C.o p ep (({ R with sets := R.sets ++ [se77] } : Red).g) hv b41 (.slice A152 ((us ++ [((.slice A146 se77.length c147 : Value), se77)]).length) c153)) 185, osl (kHd kPair) (.slice A42 J34.us.length c43) J34.us, osl kIns (.slice A47 J34.map.length c48) J34.map, osl kIns (.slice A52 J34.comb.length c53) J34.comb, osl kIns (.slice A57 J34.red.length c58) J34.red, osl (kInt .i64) (.slice A62 J34.marks.length c63) J34.marks, prsS (({ R with sets := R.sets ++ [se77] } : Red).g) hv, osl (kHd (kInt .i64)) (.slice A152 ((us ++ [((.slice A146 se77.length c147 : Value), se77)]).length) c153) (us ++ [((.slice A146 se77.length c147 : Value), se77)]), stgI 253 b41 ([])] [rsl (kHd kPair) (.slice A1 C.J.us.length c2) C.J.us, rsl kIns (.slice A6 C.J.map.length c7) C.J.map, rsl kIns (.slice A11 C.J.comb.length c12) C.J.comb, rsl kIns (.slice A16 C.J.red.length c17) C.J.red, rsl (kInt .i64) (.slice A21 C.J.marks.length c22) C.J.marks, rsl kRec (.slice A26 recs.length c27) recs] := H
         exact q_round (s := (k, R, hv, undef, us)) (k + 1, ({ R with sets := R.sets ++ [se77] } : Red), hv, .slice A152 ((us ++ [((.slice A146 se77.length c147 : Value), se77)]).length) c153, us ++ [((.slice A146 se77.length c147 : Value), se77)]) ⟨rfl, rfl, rfl, rfl, rfl, rfl, rfl, trivial⟩ ⟨H, hR2, hRp, by (try dsimp only); rw [List.map_append, hus]; rfl, by (try dsimp only); omega, by (try dsimp only); rw [List.length_append]; simp only [List.length_cons, List.length_nil]; omega⟩ (by (try dsimp only); omega)
        ·refine sc (cloneInt_ok (.slice A80 se77.length c81) se77 (by first | assumption | omega)) H (lX (fun F hA hR => rec_set (hR _ (List.mem_of_getElem? (i := 5) rfl)) hx70) l0) rfl rfl (e_fn kn129 rfl rfl) ?_
         rintro v157 _ w rfl H
         replace H := H.h1 (A := osl (kInt .i64) v157 se77) |>.p8 |>.p8 |>.p8 |>.p8 |>.p8 |>.p8 |>.p8 |>.p8
         refine d_back ⟨_, H⟩ ?_
         refine d_both rfl rfl ?_ ?_
         ·refine s_val rfl rfl (r_ld rfl ty144 rfl (H.cellI 9 rfl rfl)) (d_back ⟨_, H⟩ (d_main rfl ?_))
          obtain ⟨A159, c160, rfl, hc161, hm162, hp163⟩ := H.fA 8 rfl
          refine s_bsl (parts := [(0, .tmp 76)]) (vs := [.slice A159 se77.length c160]) (cs := [.slice A159 se77.length c160]) rfl rfl rfl sl144 zr24 rfl (by decide) (by decide) rfl rfl H (fun b158 w H => ?_)
          replace H : Hd _ _ _ [blk b158 [.slice A159 se77.length c160] 24, blk b89 [.int .i64 a71, .int .i64 a72, .int .i64 a73, .int .i64 a74, .int .i64 a75, .slice A80 se77.length c81, .slice A82 pr79.length c83] 37, osl (kHd kPair) (.slice A42 J34.us.length c43) J34.us, osl kIns (.slice A47 J34.map.length c48) J34.map, osl kIns (.slice A52 J34.comb.length c53) J34.comb, osl kIns (.slice A57 J34.red.length c58) J34.red, osl (kInt .i64) (.slice A62 J34.marks.length c63) J34.marks, prsS (R.g) hv, stgI 253 b41 ([]), osl (kInt .i64) (.slice A159 se77.length c160) se77, blk b67 (redC (.slice A42 J34.us.length c43) (.slice A47 J34.map.length c48) (.slice A52 J34.comb.length c53) (.slice A57 J34.red.length c58) (.slice A62 J34.marks.length c63) J34 C.w C.t C.o p ep R.g hv b41 vs) 185, osl (kHd (kInt .i64)) vs us] [rsl (kHd kPair) (.slice A1 C.J.us.length c2) C.J.us, rsl kIns (.slice A6 C.J.map.length c7) C.J.map, rsl kIns (.slice A11 C.J.comb.length c12) C.J.comb, rsl kIns (.slice A16 C.J.red.length c17) C.J.red, rsl (kInt .i64) (.slice A21 C.J.marks.length c22) C.J.marks, rsl kRec (.slice A26 recs.length c27) recs] := H
          replace H := H.p8.p8.p8.p8.p8.p8.p8.p8
          refine d_back ⟨_, H⟩ (d_main rfl ?_)
          replace H := H.pick 11 rfl |>.pick 10 rfl |>.pick 10 rfl |>.p2
          refine s_appH rfl rfl rfl sl144 zr24 rfl (by decide) rfl rfl H (by first | omega | (simp only [List.length_append, List.length_cons, List.length_nil]; omega)) (fun v164 w H => ?_)
          replace H := H.h1 (A := osl (kHd (kInt .i64)) v164 (us ++ [((.slice A159 se77.length c160 : Value), se77)])) |>.p8 |>.p8 |>.p8 |>.p8 |>.p8 |>.p8 |>.p8 |>.p8
          refine d_back ⟨_, H⟩ (d_val rfl rfl rfl (fun w ⟨Ar, H⟩ => r_nilP rfl rfl) (d_val rfl rfl rfl (fun w ⟨Ar, H⟩ => r_fa rfl fo185_5 rfl) (d_main rfl ?_)))
          obtain ⟨A165, c166, rfl, hc167, hm168, hp169⟩ := H.fA 8 rfl
          replace H := H.p9
          refine s_st rfl rfl rfl ty144 rfl rfl H rfl (Nat.le_of_ble_eq_true rfl) (fun u hu => by simp [Value.cells] at hu; subst hu; rfl) (fun w H => ?_)
          replace H : Hd _ _ _ [blk b67 (redC (.slice A42 J34.us.length c43) (.slice A47 J34.map.length c48) (.slice A52 J34.comb.length c53) (.slice A57 J34.red.length c58) (.slice A62 J34.marks.length c63) J34 C.w C.t C.o p ep R.g hv b41 (.slice A165 ((us ++ [((.slice A159 se77.length c160 : Value), se77)]).length) c166)) 185, blk b89 [.int .i64 a71, .int .i64 a72, .int .i64 a73, .int .i64 a74, .int .i64 a75, .slice A80 se77.length c81, .slice A82 pr79.length c83] 37, osl (kHd kPair) (.slice A42 J34.us.length c43) J34.us, osl kIns (.slice A47 J34.map.length c48) J34.map, osl kIns (.slice A52 J34.comb.length c53) J34.comb, osl kIns (.slice A57 J34.red.length c58) J34.red, osl (kInt .i64) (.slice A62 J34.marks.length c63) J34.marks, prsS (R.g) hv, stgI 253 b41 ([]), osl (kHd (kInt .i64)) (.slice A165 ((us ++ [((.slice A159 se77.length c160 : Value), se77)]).length) c166) (us ++ [((.slice A159 se77.length c160 : Value), se77)])] [rsl (kHd kPair) (.slice A1 C.J.us.length c2) C.J.us, rsl kIns (.slice A6 C.J.map.length c7) C.J.map, rsl kIns (.slice A11 C.J.comb.length c12) C.J.comb, rsl kIns (.slice A16 C.J.red.length c17) C.J.red, rsl (kInt .i64) (.slice A21 C.J.marks.length c22) C.J.marks, rsl kRec (.slice A26 recs.length c27) recs] := H
          replace H := H.p8.p8.p8.p8.p8.p8.p8.p8
          refine d_back ⟨_, H⟩ (d_nil (q_blockN (q_then (c_reg (s_val rfl rfl (r_add (z := ((k + 1 : Nat) : Int)) rfl rfl rfl (by rw [w64 (by omega) (by omega)]; omega)) (s_1 rfl (s_nil ?_)))))))
          have hpart : (Rec.p (⟨a71, a72, a73, a74, a75, .slice A80 se77.length c81, se77, .slice A82 pr79.length c83, pr79⟩ : Rec)).part = R.part := by rw [hRp]; exact Classical.not_not.1 h90
          have hR2 := newR_take hR hx70 (recIn_s hpart h143)
          replace H := H.p7.p9.p8.p8.p8.p8.p8.p8.p9.k9
          replace H : Hd _ _ _ [blk b67 (redC (.slice A42 J34.us.length c43) (.slice A47 J34.map.length c48) (.slice A52 J34.comb.length c53) (.slice A57 J34.red.length c58) (.slice A62 J34.marks.length c63) J34 C.w C.t C.o p ep (({ R with sets := R.sets ++ [se77] } : Red).g) hv b41 (.slice A165 ((us ++ [((.slice A159 se77.length c160 : Value), se77)]).length) c166)) 185, osl (kHd kPair) (.slice A42 J34.us.length c43) J34.us, osl kIns (.slice A47 J34.map.length c48) J34.map, osl kIns (.slice A52 J34.comb.length c53) J34.comb, osl kIns (.slice A57 J34.red.length c58) J34.red, osl (kInt .i64) (.slice A62 J34.marks.length c63) J34.marks, prsS (({ R with sets := R.sets ++ [se77] } : Red).g) hv, osl (kHd (kInt .i64)) (.slice A165 ((us ++ [((.slice A159 se77.length c160 : Value), se77)]).length) c166) (us ++ [((.slice A159 se77.length c160 : Value), se77)]), stgI 253 b41 ([])] [rsl (kHd kPair) (.slice A1 C.J.us.length c2) C.J.us, rsl kIns (.slice A6 C.J.map.length c7) C.J.map, rsl kIns (.slice A11 C.J.comb.length c12) C.J.comb, rsl kIns (.slice A16 C.J.red.length c17) C.J.red, rsl (kInt .i64) (.slice A21 C.J.marks.length c22) C.J.marks, rsl kRec (.slice A26 recs.length c27) recs] := H
          exact q_round (s := (k, R, hv, undef, us)) (k + 1, ({ R with sets := R.sets ++ [se77] } : Red), hv, .slice A165 ((us ++ [((.slice A159 se77.length c160 : Value), se77)]).length) c166, us ++ [((.slice A159 se77.length c160 : Value), se77)]) ⟨rfl, rfl, rfl, rfl, rfl, rfl, rfl, trivial⟩ ⟨H, hR2, hRp, by (try dsimp only); rw [List.map_append, hus]; rfl, by (try dsimp only); omega, by (try dsimp only); rw [List.length_append]; simp only [List.length_cons, List.length_nil]; omega⟩ (by (try dsimp only); omega)
         ·obtain ⟨A171, c172, rfl, hc173, hm174, hp175⟩ := H.fA 8 rfl
          refine s_bsl (parts := [(0, .tmp 76)]) (vs := [.slice A171 se77.length c172]) (cs := [.slice A171 se77.length c172]) rfl rfl rfl sl144 zr24 rfl (by decide) (by decide) rfl rfl H (fun b170 w H => ?_)
          replace H : Hd _ _ _ [blk b170 [.slice A171 se77.length c172] 24, blk b89 [.int .i64 a71, .int .i64 a72, .int .i64 a73, .int .i64 a74, .int .i64 a75, .slice A80 se77.length c81, .slice A82 pr79.length c83] 37, osl (kHd kPair) (.slice A42 J34.us.length c43) J34.us, osl kIns (.slice A47 J34.map.length c48) J34.map, osl kIns (.slice A52 J34.comb.length c53) J34.comb, osl kIns (.slice A57 J34.red.length c58) J34.red, osl (kInt .i64) (.slice A62 J34.marks.length c63) J34.marks, prsS (R.g) hv, stgI 253 b41 ([]), osl (kInt .i64) (.slice A171 se77.length c172) se77, blk b67 (redC (.slice A42 J34.us.length c43) (.slice A47 J34.map.length c48) (.slice A52 J34.comb.length c53) (.slice A57 J34.red.length c58) (.slice A62 J34.marks.length c63) J34 C.w C.t C.o p ep R.g hv b41 vs) 185, osl (kHd (kInt .i64)) vs us] [rsl (kHd kPair) (.slice A1 C.J.us.length c2) C.J.us, rsl kIns (.slice A6 C.J.map.length c7) C.J.map, rsl kIns (.slice A11 C.J.comb.length c12) C.J.comb, rsl kIns (.slice A16 C.J.red.length c17) C.J.red, rsl (kInt .i64) (.slice A21 C.J.marks.length c22) C.J.marks, rsl kRec (.slice A26 recs.length c27) recs] := H
          replace H := H.p8.p8.p8.p8.p8.p8.p8.p8
          refine d_back ⟨_, H⟩ (d_main rfl (s_val rfl rfl (r_ld rfl ty144 rfl (H.cellI 10 rfl rfl)) (d_back ⟨_, H⟩ (d_main rfl ?_))))
          replace H := H.pick 11 rfl |>.pick 10 rfl |>.pick 10 rfl |>.p2
          refine s_appH rfl rfl rfl sl144 zr24 rfl (by decide) rfl rfl H (by first | omega | (simp only [List.length_append, List.length_cons, List.length_nil]; omega)) (fun v176 w H => ?_)
          replace H := H.h1 (A := osl (kHd (kInt .i64)) v176 (us ++ [((.slice A171 se77.length c172 : Value), se77)])) |>.p8 |>.p8 |>.p8 |>.p8 |>.p8 |>.p8 |>.p8 |>.p8
          refine d_back ⟨_, H⟩ (d_val rfl rfl rfl (fun w ⟨Ar, H⟩ => r_nilP rfl rfl) (d_val rfl rfl rfl (fun w ⟨Ar, H⟩ => r_fa rfl fo185_5 rfl) (d_main rfl ?_)))
          obtain ⟨A177, c178, rfl, hc179, hm180, hp181⟩ := H.fA 8 rfl
          replace H := H.p9
          refine s_st rfl rfl rfl ty144 rfl rfl H rfl (Nat.le_of_ble_eq_true rfl) (fun u hu => by simp [Value.cells] at hu; subst hu; rfl) (fun w H => ?_)
          replace H : Hd _ _ _ [blk b67 (redC (.slice A42 J34.us.length c43) (.slice A47 J34.map.length c48) (.slice A52 J34.comb.length c53) (.slice A57 J34.red.length c58) (.slice A62 J34.marks.length c63) J34 C.w C.t C.o p ep R.g hv b41 (.slice A177 ((us ++ [((.slice A171 se77.length c172 : Value), se77)]).length) c178)) 185, blk b89 [.int .i64 a71, .int .i64 a72, .int .i64 a73, .int .i64 a74, .int .i64 a75, .slice A80 se77.length c81, .slice A82 pr79.length c83] 37, osl (kHd kPair) (.slice A42 J34.us.length c43) J34.us, osl kIns (.slice A47 J34.map.length c48) J34.map, osl kIns (.slice A52 J34.comb.length c53) J34.comb, osl kIns (.slice A57 J34.red.length c58) J34.red, osl (kInt .i64) (.slice A62 J34.marks.length c63) J34.marks, prsS (R.g) hv, stgI 253 b41 ([]), osl (kHd (kInt .i64)) (.slice A177 ((us ++ [((.slice A171 se77.length c172 : Value), se77)]).length) c178) (us ++ [((.slice A171 se77.length c172 : Value), se77)])] [rsl (kHd kPair) (.slice A1 C.J.us.length c2) C.J.us, rsl kIns (.slice A6 C.J.map.length c7) C.J.map, rsl kIns (.slice A11 C.J.comb.length c12) C.J.comb, rsl kIns (.slice A16 C.J.red.length c17) C.J.red, rsl (kInt .i64) (.slice A21 C.J.marks.length c22) C.J.marks, rsl kRec (.slice A26 recs.length c27) recs] := H
          replace H := H.p8.p8.p8.p8.p8.p8.p8.p8
          refine d_back ⟨_, H⟩ (d_nil (q_blockN (q_then (c_reg (s_val rfl rfl (r_add (z := ((k + 1 : Nat) : Int)) rfl rfl rfl (by rw [w64 (by omega) (by omega)]; omega)) (s_1 rfl (s_nil ?_)))))))
          have hpart : (Rec.p (⟨a71, a72, a73, a74, a75, .slice A80 se77.length c81, se77, .slice A82 pr79.length c83, pr79⟩ : Rec)).part = R.part := by rw [hRp]; exact Classical.not_not.1 h90
          have hR2 := newR_take hR hx70 (recIn_s hpart h143)
          replace H := H.p7.p9.p8.p8.p8.p8.p8.p8.p9.k9
          replace H : Hd _ _ _ [blk b67 (redC (.slice A42 J34.us.length c43) (.slice A47 J34.map.length c48) (.slice A52 J34.comb.length c53) (.slice A57 J34.red.length c58) (.slice A62 J34.marks.length c63) J34 C.w C.t C.o p ep (({ R with sets := R.sets ++ [se77] } : Red).g) hv b41 (.slice A177 ((us ++ [((.slice A171 se77.length c172 : Value), se77)]).length) c178)) 185, osl (kHd kPair) (.slice A42 J34.us.length c43) J34.us, osl kIns (.slice A47 J34.map.length c48) J34.map, osl kIns (.slice A52 J34.comb.length c53) J34.comb, osl kIns (.slice A57 J34.red.length c58) J34.red, osl (kInt .i64) (.slice A62 J34.marks.length c63) J34.marks, prsS (({ R with sets := R.sets ++ [se77] } : Red).g) hv, osl (kHd (kInt .i64)) (.slice A177 ((us ++ [((.slice A171 se77.length c172 : Value), se77)]).length) c178) (us ++ [((.slice A171 se77.length c172 : Value), se77)]), stgI 253 b41 ([])] [rsl (kHd kPair) (.slice A1 C.J.us.length c2) C.J.us, rsl kIns (.slice A6 C.J.map.length c7) C.J.map, rsl kIns (.slice A11 C.J.comb.length c12) C.J.comb, rsl kIns (.slice A16 C.J.red.length c17) C.J.red, rsl (kInt .i64) (.slice A21 C.J.marks.length c22) C.J.marks, rsl kRec (.slice A26 recs.length c27) recs] := H
          exact q_round (s := (k, R, hv, undef, us)) (k + 1, ({ R with sets := R.sets ++ [se77] } : Red), hv, .slice A177 ((us ++ [((.slice A171 se77.length c172 : Value), se77)]).length) c178, us ++ [((.slice A171 se77.length c172 : Value), se77)]) ⟨rfl, rfl, rfl, rfl, rfl, rfl, rfl, trivial⟩ ⟨H, hR2, hRp, by (try dsimp only); rw [List.map_append, hus]; rfl, by (try dsimp only); omega, by (try dsimp only); rw [List.length_append]; simp only [List.length_cons, List.length_nil]; omega⟩ (by (try dsimp only); omega)
       ·refine c_skip (q_blockN (q_then (c_reg (s_val rfl rfl (r_add (z := ((k + 1 : Nat) : Int)) rfl rfl rfl (by rw [w64 (by omega) (by omega)]; omega)) (s_1 rfl (s_nil ?_))))))
        have hpart : (Rec.p (⟨a71, a72, a73, a74, a75, .slice A80 se77.length c81, se77, .slice A82 pr79.length c83, pr79⟩ : Rec)).part = R.part := by rw [hRp]; exact Classical.not_not.1 h90
        have hR2 := newR_take hR hx70 (recIn_no hpart (fun h => h141 h.1) h143)
        replace H := H.p9.p9.p9.p9.p9.p9.p9.p9.p9.k9
        exact q_round (s := (k, R, hv, undef, us)) (k + 1, R, hv, vs, us) ⟨rfl, rfl, rfl, rfl, rfl, rfl, rfl, trivial⟩ ⟨H, hR2, hRp, by (try dsimp only); exact hus, by (try dsimp only); omega, by (try dsimp only); omega⟩ (by (try dsimp only); omega)
   ·refine c_exit (q_thenE (q_thenE (q_blockE (q_then (c_seq (c_reg (s_k 3 rfl (s_nil (q_then (c_ret (q_ret2 rfl rfl rfl ?_)))))))))))
    have hkk : R = newR J34.us.length p ep (recs.map Rec.p) := by rw [hR, List.take_of_length_le (by omega)]
    clear hR
    subst hkk
    replace H : Hd _ _ _ [blk b67 (redC (.slice A42 J34.us.length c43) (.slice A47 J34.map.length c48) (.slice A52 J34.comb.length c53) (.slice A57 J34.red.length c58) (.slice A62 J34.marks.length c63) J34 C.w C.t C.o p ep ((newR J34.us.length p ep (recs.map Rec.p)).g) hv b41 vs) 185, osl (kHd kPair) (.slice A42 J34.us.length c43) J34.us, osl kIns (.slice A47 J34.map.length c48) J34.map, osl kIns (.slice A52 J34.comb.length c53) J34.comb, osl kIns (.slice A57 J34.red.length c58) J34.red, osl (kInt .i64) (.slice A62 J34.marks.length c63) J34.marks, prsS ((newR J34.us.length p ep (recs.map Rec.p)).g) hv, osl (kHd (kInt .i64)) vs us, stgI 253 b41 ([])] [rsl (kHd kPair) (.slice A1 C.J.us.length c2) C.J.us, rsl kIns (.slice A6 C.J.map.length c7) C.J.map, rsl kIns (.slice A11 C.J.comb.length c12) C.J.comb, rsl kIns (.slice A16 C.J.red.length c17) C.J.red, rsl (kInt .i64) (.slice A21 C.J.marks.length c22) C.J.marks, rsl kRec (.slice A26 recs.length c27) recs] := H
    exact fin ⟨b67, (.slice A42 J34.us.length c43), (.slice A47 J34.map.length c48), (.slice A52 J34.comb.length c53), (.slice A57 J34.red.length c58), (.slice A62 J34.marks.length c63), J34, hv, b41, vs, us, rfl, rfl, hsj, hus⟩ H

section
variable {w : World} {F : Foot}
end
theorem SameJ.out {A B : Job} (h : SameJ A B) (D : Dig) (R : Red) : outR D A R = outR D B R := by
 unfold outR ofR
 rw [h.len, h.red, h.fuel]
theorem home_pos {C : Cf} {p : Int} (hC : mayC C) (h0 : 0 ≤ p) (h1 : p < C.J.parts) : homeC C p ≠ 0 := by
 have e : homeC C p = 1 + p.tmod C.w := if_neg (fun h => h.elim (fun h => h hC) (fun h => by omega))
 have := Int.tmod_nonneg C.w h0
 omega
theorem opens_config {P : Program} {t j i : TypeId}
  (hs : stOf P t = some [(j, 0, 9), (i, 9, 1), (i, 10, 1), (i, 11, 1)]) (hc : P.cellsOf t = 12) (hi : P.underlying i = some (.int .i64))
  {H : Type} (enc : TypeId × Value → H) (w : World) (fuel : Nat) (cs : List Value) (x : DataW H × List MemPlace) (h : DataW.trod enc P w 0 (fun _ => true) true fuel t cs = some x) :
  ∃ (js : List Value) (m : Nat) (y : DataW H × List MemPlace) (n1 n2 n3 : Int), cs = js ++ [.int .i64 n1, .int .i64 n2, .int .i64 n3] ∧ DataW.trod enc P w 0 (fun _ => true) true m j js = some y ∧ js.length = 9 ∧ (In64 n1 ∧ In64 n2 ∧ In64 n3) := by
 obtain ⟨hl, n, hf⟩ := open_st hs h
 rw [hc] at hl
 match cs, hl with
 | [c0, c1, c2, c3, c4, c5, c6, c7, c8, c9, c10, c11], _ =>
  obtain ⟨y0, g0⟩ := hf 0 _ _ _ rfl
  obtain ⟨y1, g1⟩ := hf 1 _ _ _ rfl
  obtain ⟨y2, g2⟩ := hf 2 _ _ _ rfl
  obtain ⟨y3, g3⟩ := hf 3 _ _ _ rfl
  obtain ⟨a1, r1, w1⟩ := opens_int hi enc w n _ _ g1
  obtain ⟨a2, r2, w2⟩ := opens_int hi enc w n _ _ g2
  obtain ⟨a3, r3, w3⟩ := opens_int hi enc w n _ _ g3
  have q1 : [c9] = [Value.int .i64 a1] := r1
  have q2 : [c10] = [Value.int .i64 a2] := r2
  have q3 : [c11] = [Value.int .i64 a3] := r3
  simp only [List.cons.injEq, and_true] at q1 q2 q3
  subst q1 q2 q3
  exact ⟨[c0, c1, c2, c3, c4, c5, c6, c7, c8], n, y0, a1, a2, a3, rfl, g0, rfl, w1, w2, w3⟩

set_option maxHeartbeats 1000000 in
theorem sameInts_ok (v1 v2 : Value) (xs ys : List Int) :
    Cn Tryz.prog 33 [v1, v2] [] [rsl (kInt .i64) v1 xs, rsl (kInt .i64) v2 ys] (fun v Bs => v = .bool (decide (xs = ys)) ∧ Bs = []) := by
 intro w0 F0 H
 obtain ⟨A1, c2, rfl, hc3, hm4, hp5⟩ := H.fR 0 rfl
 obtain ⟨A6, c7, rfl, hc8, hm9, hp10⟩ := H.fR 1 rfl
 refine enter Tryz.func33 rfl rfl (Nat.le_of_ble_eq_true rfl) (c_seq (c_reg (s_1 rfl (s_nil (q_then ?_)))))
 replace H : Hd _ _ _ [] [rsl (kInt .i64) (.slice A1 xs.length c2) xs, rsl (kInt .i64) (.slice A6 ys.length c7) ys] := H
 refine c_seq (c_seq (c_reg (s_1 rfl (s_val rfl rfl (r_lenL rfl un24 rfl) (s_1 rfl (s_val rfl rfl (r_lenL rfl un24 rfl) (s_val rfl rfl (r_ne rfl rfl rfl) (s_nil (q_then ?_)))))))))
 refine c_dec rfl (fun h11 => ?_) (fun h11 => ?_)
 ·refine c_seq (c_reg (s_1 rfl (s_nil (q_then (c_ret (q_thenR (q_ret1 rfl rfl ?_)))))))
  have e : ¬ xs = ys := fun e => h11 (by rw [e])
  exact fin ⟨by rw [decide_eq_false e] <;> rfl, rfl⟩ H
 ·refine c_skip (q_then (c_seq (c_seq (c_reg (s_1 rfl (s_nil (q_then (c_block ?_))))))))
  have hle : xs.length = ys.length := by omega
  refine c_loop (σ := Nat) (fun k => [(0, .slice A1 xs.length c2), (1, .slice A6 ys.length c7), (5, .int .i64 ((k : Nat) : Int))]) (fun k w => (Hd w0 F0 w [] [rsl (kInt .i64) (.slice A1 xs.length c2) xs, rsl (kInt .i64) (.slice A6 ys.length c7) ys]) ∧ (k ≤ xs.length) ∧ (xs.length = ys.length) ∧ (xs.take k = ys.take k)) (fun k => xs.length - k) 0 ⟨rfl, rfl, rfl, trivial⟩ ⟨H, by omega, hle, rfl⟩ ?_
  rintro k w ⟨H, hk, hle, ht⟩
  refine c_seq (c_seq (c_reg (s_k 2 rfl (s_val rfl rfl (r_lenL rfl un24 rfl) (s_val rfl rfl (r_lt rfl rfl rfl) (s_nil (q_then ?_)))))))
  refine c_dec rfl (fun h12 => ?_) (fun h12 => ?_)
  ·refine c_skip (q_then (c_seq (c_block (c_seq (c_draw mo (by kernel_rfl) H (u_k 2 rfl ?_))))))
   obtain ⟨x13, hx14⟩ : ∃ z9, xs[k]? = some z9 := ⟨_, List.getElem?_eq_getElem (show k < xs.length by omega)⟩
   have th15 := H.thR 0 rfl hx14
   refine u_val rfl rfl (fun w H => r_iaE (p := oOf A1 + k * 1) rfl sl24 rfl rfl (by omega) (by omega) th15 rfl) (u_val rfl rfl (fun w H => r_ld rfl ty3 rfl (H.elR 0 rfl hx14 (q := 0) rfl rfl)) (u_k 2 rfl ?_))
   obtain ⟨x16, hx17⟩ : ∃ z9, ys[k]? = some z9 := ⟨_, List.getElem?_eq_getElem (show k < ys.length by omega)⟩
   have th18 := H.thR 1 rfl hx17
   refine u_val rfl rfl (fun w H => r_iaE (p := oOf A6 + k * 1) rfl sl24 rfl rfl (by omega) (by omega) th18 rfl) (u_val rfl rfl (fun w H => r_ld rfl ty3 rfl (H.elR 1 rfl hx17 (q := 0) rfl rfl)) (u_val rfl rfl (fun w H => r_ne rfl rfl rfl) (u_end (fun w H => (q_then ?_)))))
   refine c_dec rfl (fun h19 => ?_) (fun h19 => ?_)
   ·refine c_seq (c_reg (s_1 rfl (s_nil (q_then (c_ret (q_blockR (q_thenR (q_thenR (q_blockR (q_thenR (q_ret1 rfl rfl ?_)))))))))))
    have e : ¬ xs = ys := fun e => h19 (by rw [e, hx17] at hx14; exact (Option.some.inj hx14).symm)
    exact fin ⟨by rw [decide_eq_false e] <;> rfl, rfl⟩ H
   ·refine c_skip (q_blockN (q_then (c_reg (s_1 rfl (s_val rfl rfl (r_add (z := ((k + 1 : Nat) : Int)) rfl rfl rfl (by rw [w64 (by omega) (by omega)]; omega)) (s_1 rfl (s_nil ?_)))))))
    have e : x13 = x16 := Classical.not_not.1 h19
    subst e
    exact q_round (s := k) (k + 1) ⟨rfl, rfl, rfl, trivial⟩ ⟨H, by omega, hle, take_more hx14 hx17 ht⟩ (by (try dsimp only); omega)
  ·refine c_exit (q_thenE (q_thenE (q_blockE (q_then (c_seq (c_reg (s_1 rfl (s_nil (q_then (c_ret (q_ret1 rfl rfl ?_)))))))))))
   have e : xs = ys := by rw [← take_all (xs := xs) (k := k) (by omega), ← take_all (xs := ys) (k := k) (by omega)]; exact ht
   exact fin ⟨by rw [decide_eq_true e] <;> rfl, rfl⟩ H
set_option maxHeartbeats 1000000 in
theorem greatRecords_ok (vrs : Value) (rs : List Rec) (n : Int) :
    Cn Tryz.prog 20 [vrs, .int .i64 n] [] [rsl kRec vrs rs] (fun v Bs => v = .bool (greatR rs n) ∧ Bs = []) := by
 intro w0 F0 H
 obtain ⟨A1, c2, rfl, hc3, hm4, hp5⟩ := H.fR 0 rfl
 refine enter Tryz.func20 rfl rfl (Nat.le_of_ble_eq_true rfl) (c_seq (c_reg (s_1 rfl (s_nil (q_then ?_)))))
 replace H : Hd _ _ _ [] [rsl kRec (.slice A1 rs.length c2) rs] := H
 refine c_seq (c_seq (c_reg (s_1 rfl (s_nil (q_then (c_block (c_loop (σ := Nat) (fun k => [(0, .slice A1 rs.length c2), (1, .int .i64 n), (5, .int .i64 ((k : Nat) : Int))]) (fun k w => (Hd w0 F0 w [] [rsl kRec (.slice A1 rs.length c2) rs]) ∧ (k ≤ rs.length) ∧ (∀ r ∈ rs.take k, r.set.length ≤ 20 ∧ greatP r.pairs 50 = false)) (fun k => rs.length - k) 0 ⟨rfl, rfl, rfl, trivial⟩ ⟨H, by omega, by simp⟩ ?_)))))))
 rintro k w ⟨H, hk, hn⟩
 refine c_seq (c_seq (c_reg (s_k 2 rfl (s_val rfl rfl (r_lenL rfl un29 rfl) (s_val rfl rfl (r_lt rfl rfl rfl) (s_1 rfl ?_))))))
 refine s_dec (d := 10) rfl (fun h6 => ?_) (fun h6 => ?_)
 ·refine s_1 rfl (s_val rfl rfl (r_lenL rfl un29 rfl) (s_1 rfl (s_val rfl rfl (r_le rfl rfl rfl) (s_1 rfl (s_nil (q_then ?_))))))
  refine c_dec rfl (fun h7 => ?_) (fun h7 => ?_)
  ·refine c_skip (q_then (c_seq (c_block (c_seq (c_reg (s_k 2 rfl ?_))))))
   obtain ⟨⟨a10, a11, a12, a13, a14, sv15, se16, pv17, pr18⟩, hx9⟩ : ∃ z9, rs[k]? = some z9 := ⟨_, List.getElem?_eq_getElem (show k < rs.length by omega)⟩
   obtain ⟨A19, c20, A21, c22, rfl, rfl, m23, m24, m25, m26⟩ := H.nestRr 0 rfl hx9
   have th27 := H.thRr 0 rfl hx9
   refine s_val rfl rfl (r_iaE (p := oOf A1 + k * 7) rfl sl29 rfl rfl (by omega) (by omega) th27 rfl) (s_val rfl rfl (r_fa rfl fo37_5 rfl) (s_val rfl rfl (r_ld rfl ty24 rfl (H.elRr 0 rfl hx9 (q := 5) rfl rfl)) (s_val rfl rfl (r_lenL rfl un24 rfl) (s_val rfl rfl (r_gt rfl rfl rfl) (s_1 rfl ?_)))))
   refine s_dec (d := 25) rfl (fun h28 => ?_) (fun h28 => ?_)
   ·exact s_k 7 rfl (s_nil (q_then (c_yes rfl (c_seq (c_reg (s_1 rfl (s_nil (q_then (c_ret (q_blockR (q_thenR (q_thenR (q_blockR (q_thenR (q_ret1 rfl rfl (fin ⟨congrArg Value.bool (greatR_hit hx9 (.inl (by (try dsimp only); omega))), rfl⟩ H))))))))))))))))
   ·refine s_k 2 rfl ?_
    have th29 := H.thRr 0 rfl hx9
    refine s_val rfl rfl (r_iaE (p := oOf A1 + k * 7) rfl sl29 rfl rfl (by omega) (by omega) th29 rfl) (s_val rfl rfl (r_fa rfl fo37_6 rfl) (s_val rfl rfl (r_ld rfl ty35 rfl (H.elRr 0 rfl hx9 (q := 6) rfl rfl)) (sc (greatPairs_ok (.slice A21 pr18.length c22) pr18 50) H (lX (fun F hA hR => rec_pairs (hR _ (List.mem_of_getElem? (i := 0) rfl)) hx9) l0) rfl rfl (e_fn kn23 rfl rfl) ?_)))
    rintro _ _ w ⟨rfl, rfl⟩ H
    refine s_1 rfl (s_nil (q_then ?_))
    refine c_cond (b := greatP pr18 50) rfl (fun h30 => ?_) (fun h30 => ?_)
    ·exact c_seq (c_reg (s_1 rfl (s_nil (q_then (c_ret (q_blockR (q_thenR (q_thenR (q_blockR (q_thenR (q_ret1 rfl rfl (fin ⟨congrArg Value.bool (greatR_hit hx9 (.inr h30)), rfl⟩ H))))))))))))
    ·exact c_skip (q_blockN (q_then (c_reg (s_1 rfl (s_val rfl rfl (r_add (z := ((k + 1 : Nat) : Int)) rfl rfl rfl (by rw [w64 (by omega) (by omega)]; omega)) (s_1 rfl (s_nil (q_round (s := k) (k + 1) ⟨rfl, rfl, rfl, trivial⟩ ⟨H, by (try dsimp only); omega, take_prop hn hx9 ⟨by (try dsimp only); omega, h30⟩⟩ (by (try dsimp only); omega)))))))))
  ·exact c_exit (q_thenE (q_thenE (q_blockE (q_then (c_seq (c_reg (s_1 rfl (s_val rfl rfl (r_lenL rfl un29 rfl) (s_1 rfl (s_val rfl rfl (r_gt rfl rfl rfl) (s_1 rfl (s_nil (q_then (c_ret (q_ret1 rfl rfl (fin ⟨congrArg Value.bool (greatR_end hn (by omega)), rfl⟩ H))))))))))))))))
 ·exact s_k 5 rfl (s_nil (q_then (c_no rfl (c_exit (q_thenE (q_thenE (q_blockE (q_then (c_seq (c_reg (s_1 rfl (s_val rfl rfl (r_lenL rfl un29 rfl) (s_1 rfl (s_val rfl rfl (r_gt rfl rfl rfl) (s_1 rfl (s_nil (q_then (c_ret (q_ret1 rfl rfl (fin ⟨congrArg Value.bool (greatR_end hn (by omega)), rfl⟩ H))))))))))))))))))))
set_option maxHeartbeats 1000000 in
theorem low_ok (x : Int) (n : Int) (hx : In64 x) (h0 : 0 < n) (hn : n ≤ 9223372036854775807) :
    Cn Tryz.prog 22 [.int .i64 x, .int .i64 n] [] [] (fun v Bs => v = .int .i64 (IntKind.u64.wrap x % n) ∧ Bs = []) := by
 intro w0 F0 H
 exact enter Tryz.func22 rfl rfl (Nat.le_of_ble_eq_true rfl) (c_seq (c_reg (s_1 rfl (s_nil (q_then (c_seq (c_reg (s_1 rfl (s_val rfl rfl (r_i2i (z := IntKind.u64.wrap x) rfl rfl un3 un158 rfl) (s_1 rfl (s_val rfl rfl (r_i2i (z := n) rfl rfl un3 un158 (wu64 (by omega) (by omega))) (s_val rfl rfl (r_rem (z := (IntKind.u64.wrap x) % n) rfl rfl rfl (by omega) (Int.tmod_eq_emod_of_nonneg (wrapU x).1)) (s_val rfl rfl (r_i2i (z := (IntKind.u64.wrap x) % n) rfl rfl un158 un3 (w64 (by have := Int.emod_nonneg (IntKind.u64.wrap x) (show n ≠ 0 by omega); omega) (by have := Int.emod_lt_of_pos (IntKind.u64.wrap x) h0; omega))) (s_1 rfl (s_nil (q_then (c_ret (q_ret1 rfl rfl (fin ⟨rfl, rfl⟩ H)))))))))))))))))))

def recT (r : Rec) : SP := star [osl (kInt .i64) r.sv r.set, osl kPair r.pv r.pairs]
def recS (us : List Rec) : SP := bigS recT us
section
variable {w0 w : World} {F F0 : Foot} {As Rs : List SP} {v : Value} {us : List Rec}
theorem recT_cells {r : Rec} (h : (recT r).P w F) : encRec r = encRecF (toF r) := by
 obtain ⟨F1, F2, _, _, _, a, F3, F4, _, _, _, b, _⟩ := h
 obtain ⟨A1, c1, e1, _⟩ := rsl_form (own_rd _ a)
 obtain ⟨A2, c2, e2, _⟩ := rsl_form (own_rd _ b)
 simp [encRec, encRecF, toF, hdrOf, e1, e2]
theorem recT_O {r : Rec} (h : (recT r).P w F) : kRec.O w F r (encRecF (toF r)) := by
 have e := recT_cells h
 obtain ⟨F1, F2, h1, h2, h3, a, F3, F4, g1, g2, g3, b, _⟩ := h
 exact ⟨e.symm, F1, F3, h1, fun k hk => h2 k (g1 k hk), fun k hk hk2 => h3 k hk (g1 k hk2), a, b⟩
theorem recT_of {r : Rec} {cs : List Value} (h : kRec.O w F r cs) : (recT r).P w F ∧ cs = encRec r := by
 obtain ⟨e, F1, F2, h1, h2, h3, a, b⟩ := h
 exact ⟨⟨F1, F2, h1, h2, h3, a, F2, none_, fun _ q => q, fun _ q => q.elim, fun _ _ q => q, b, trivial⟩, e⟩
theorem reps_recI : ∀ {us : List Rec} {F : Foot}, (recS us).P w F → RepsO kRec w F us ((us.map toF).flatMap encRecF)
 | [], _, _ => rfl
 | u :: us, F, ⟨F1, F2, h1, h2, h3, a, s⟩ => ⟨F1, F2, encRecF (toF u), (us.map toF).flatMap encRecF, h1, h2, h3, rfl, recT_O a, reps_recI (us := us) s⟩
theorem Hd.recI (H : Hd w0 F0 w (osl kRecF v (us.map toF) :: recS us :: As) Rs) : Hd w0 F0 w (osl kRec v us :: As) Rs := by
 refine H.turn2 fun F1 F2 hd h1 h2 => ?_
 obtain ⟨A, n, c, e, hl, cs, G1, G2, s1, s2, dj, row, reps⟩ := h1
 have hcs : cs = (us.map toF).flatMap encRecF := RepsR.flat_eq.1 reps.toR
 subst hcs
 exact ⟨A, n, c, e, by simpa using hl, _, G1, F2, fun k hk => .inl (s1 k hk), fun k hk => .inr hk, fun k hk hg => hd k (s1 k hk) hg, row, reps_recI h2⟩
theorem reps_recO : ∀ {us : List Rec} {F : Foot} {cs : List Value}, RepsO kRec w F us cs → (recS us).P w F ∧ cs = (us.map toF).flatMap encRecF
 | [], _, _, h => ⟨trivial, h⟩
 | u :: us, F, cs, ⟨F1, F2, c, cs', h1, h2, h3, e, a, s⟩ => by
  obtain ⟨g1, g2⟩ := reps_recO s
  obtain ⟨b1, b2⟩ := recT_of a
  refine ⟨⟨F1, F2, h1, h2, h3, b1, g1⟩, ?_⟩
  rw [e, b2, g2, recT_cells b1]; rfl
theorem Hd.recO (H : Hd w0 F0 w (osl kRec v us :: As) Rs) : Hd w0 F0 w (osl kRecF v (us.map toF) :: recS us :: As) Rs := by
 have : Hd w0 F0 w ([osl kRecF v (us.map toF), recS us] ++ As) Rs := H.open_ fun F h => by
  obtain ⟨A, n, c, e, hl, cs, G1, G2, s1, s2, dj, row, reps⟩ := h
  obtain ⟨g1, rfl⟩ := reps_recO reps
  exact ⟨G1, G2, s1, s2, dj, ⟨A, n, c, e, by simpa using hl, _, G1, none_, fun _ h => h, fun _ h => h.elim, fun _ _ h => h, row, RepsO.flatR (F := none_) (RepsR.flat_eq.2 rfl)⟩, G2, none_, fun _ h => h, fun _ h => h.elim, fun _ _ h => h, g1, trivial⟩
 exact this
theorem Hd.recN {r : Rec} (H : Hd w0 F0 w (osl (kInt .i64) r.sv r.set :: osl kPair r.pv r.pairs :: recS us :: As) Rs) : Hd w0 F0 w (recS (us ++ [r]) :: As) Rs :=
 Hd.bigN (f := recT) (x := r) (Hd.stI (Bs := [osl (kInt .i64) r.sv r.set, osl kPair r.pv r.pairs]) H)
theorem Hd.rec0 (H : Hd w0 F0 w As Rs) : Hd w0 F0 w (recS [] :: As) Rs := H.big0 recT
end

structure Shp (α : Type) where
 sz : Nat
 enc : α → Value → Value → List Value
 len : ∀ a s p, (enc a s p).length = sz
 one : ∀ a s p, ∀ c ∈ enc a s p, c = s ∨ c = p ∨ c.oneCell' = true
 pos : 0 < sz
structure Two (α : Type) where
 h : α
 sv : Value
 set : List Int
 pv : Value
 pairs : List Pair
structure TwoF (α : Type) where
 h : α
 hs : Hdr
 hp : Hdr
section
variable {α : Type}
def Shp.e (S : Shp α) (x : Two α) : List Value := S.enc x.h x.sv x.pv
def Shp.f (S : Shp α) (x : TwoF α) : List Value := S.enc x.h (.slice x.hs.A x.hs.n x.hs.c) (.slice x.hp.A x.hp.n x.hp.c)
def kTwo (S : Shp α) : Kd (Two α) where
 sz := S.sz
 O w F x cs := cs = S.e x ∧ ∃ F1 F2 : Foot, (∀ k, F1 k → F k) ∧ (∀ k, F2 k → F k) ∧ (∀ k, F1 k → ¬ F2 k) ∧ (kSl (kInt .i64)).O w F1 x.set [x.sv] ∧ (kSl kPair).O w F2 x.pairs [x.pv]
 R w F x cs := cs = S.e x ∧ (kSl (kInt .i64)).R w F x.set [x.sv] ∧ (kSl kPair).R w F x.pairs [x.pv]
 O_loc := fun ⟨e, F1, F2, s1, s2, dj, h1, h2⟩ hk => ⟨e, F1, F2, s1, s2, dj, (kSl _).O_loc h1 (fun k x => hk k (s1 k x)), (kSl _).O_loc h2 (fun k x => hk k (s2 k x))⟩
 O_mono := fun ⟨e, F1, F2, s1, s2, dj, h1, h2⟩ hk => ⟨e, F1, F2, fun k x => hk k (s1 k x), fun k x => hk k (s2 k x), dj, h1, h2⟩
 R_loc := fun ⟨e, h1, h2⟩ hk => ⟨e, (kSl _).R_loc h1 hk, (kSl _).R_loc h2 hk⟩
 R_mono := fun ⟨e, h1, h2⟩ hk => ⟨e, (kSl _).R_mono h1 hk, (kSl _).R_mono h2 hk⟩
 O_R := fun ⟨e, F1, F2, s1, s2, dj, h1, h2⟩ => ⟨e, (kSl _).R_mono ((kSl _).O_R h1) s1, (kSl _).R_mono ((kSl _).O_R h2) s2⟩
 len h := by rw [h.1]; exact S.len _ _ _
 one := fun ⟨e, h1, h2⟩ c hc => by
  have g1 := (kSl _).one h1
  have g2 := (kSl _).one h2
  subst e
  rcases S.one _ _ _ c hc with rfl | rfl | h
  ·exact g1 _ (List.mem_cons_self ..)
  ·exact g2 _ (List.mem_cons_self ..)
  ·exact h
 pos := S.pos
def kTwoF (S : Shp α) : Kd (TwoF α) := flat S.f S.sz S.pos (fun x => S.len _ _ _) (fun x c hc => by
 rcases S.one _ _ _ c hc with rfl | rfl | h
 ·rfl
 ·rfl
 ·exact h)
def twF (r : Two α) : TwoF α := ⟨r.h, hdrOf r.sv, hdrOf r.pv⟩
variable {S : Shp α} {w w0 : World} {F F0 : Foot} {As Rs : List SP} {A : Option Addr} {m c : Nat}
theorem tw_at {us : List (Two α)} (h : (rsl (kTwo S) (.slice A m c) us).P w F) {i : Nat} {x : Two α} (hx : us[i]? = some x) :
  There A ∧ (∀ q u, (S.e x)[q]? = some u → w.cell? ⟨bOf A, oOf A + i * S.sz + q, none⟩ = some u) ∧ (rsl (kInt .i64) x.sv x.set).P w F ∧ (rsl kPair x.pv x.pairs).P w F := by
 obtain ⟨b, off, cs, e, hl, hc, h1, h2, h3⟩ := rsl_at h hx
 subst h1 e
 exact ⟨rfl, hc, h2, h3⟩
theorem tw_set {us : List (Two α)} (h : (rsl (kTwo S) (.slice A m c) us).P w F) {i : Nat} {a : α} {sv pv : Value} {set : List Int} {pairs : List Pair} (hx : us[i]? = some ⟨a, sv, set, pv, pairs⟩) : (rsl (kInt .i64) sv set).P w F := (tw_at h hx).2.2.1
theorem tw_pairs {us : List (Two α)} (h : (rsl (kTwo S) (.slice A m c) us).P w F) {i : Nat} {a : α} {sv pv : Value} {set : List Int} {pairs : List Pair} (hx : us[i]? = some ⟨a, sv, set, pv, pairs⟩) : (rsl kPair pv pairs).P w F := (tw_at h hx).2.2.2
theorem Hd.thRt {us : List (Two α)} (H : Hd w0 F0 w As Rs) (j : Nat) (hj : Rs[j]? = some (rsl (kTwo S) (.slice A m c) us)) {i : Nat} {x : Two α} (hx : us[i]? = some x) : There A := H.factR (List.mem_of_getElem? hj) fun _ h => (tw_at h hx).1
theorem Hd.elRt {us : List (Two α)} (H : Hd w0 F0 w As Rs) (j : Nat) (hj : Rs[j]? = some (rsl (kTwo S) (.slice A m c) us)) {i : Nat} {x : Two α} (hx : us[i]? = some x) {q p : Nat} {u : Value} (hu : (S.e x)[q]? = some u) (hp : oOf A + i * S.sz + q = p) : w.cell? ⟨bOf A, p, none⟩ = some u := by
 subst hp
 exact H.factR (List.mem_of_getElem? hj) fun _ h => (tw_at h hx).2.1 q u hu
theorem part_at {l cs : List Value} {d n q : Nat} {v : Value} (h : (l.drop d).take n = cs) (hq : cs[q]? = some v) : l[d + q]? = some v := by
 subst h
 rw [List.getElem?_take] at hq
 split at hq
 ·rwa [List.getElem?_drop] at hq
 ·cases hq
theorem Hd.elsRt {us : List (Two α)} (H : Hd w0 F0 w As Rs) (j : Nat) (hj : Rs[j]? = some (rsl (kTwo S) (.slice A m c) us)) {i : Nat} {x : Two α} (hx : us[i]? = some x) {p : Nat} (d n : Nat) {cs : List Value} (hc : ((S.e x).drop d).take n = cs) (hpj : oOf A + i * S.sz + d = p) : ∀ q v, cs[q]? = some v → w.cell? ((⟨bOf A, p, none⟩ : Addr).add q) = some v := by
 intro q v hq
 rw [add_of, ← hpj, Nat.add_assoc]
 exact H.factR (List.mem_of_getElem? hj) fun F h => (tw_at h hx).2.1 _ v (part_at hc hq)
theorem Hd.nestRt {us : List (Two α)} (H : Hd w0 F0 w As Rs) (j : Nat) (hj : Rs[j]? = some (rsl (kTwo S) (.slice A m c) us)) {i : Nat} {a : α} {sv pv : Value} {set : List Int} {pairs : List Pair} (hx : us[i]? = some ⟨a, sv, set, pv, pairs⟩) :
  ∃ A1 c1 A2 c2, sv = .slice A1 set.length c1 ∧ pv = .slice A2 pairs.length c2 ∧ set.length ≤ c1 ∧ c1 ≤ 9223372036854775807 ∧ pairs.length ≤ c2 ∧ c2 ≤ 9223372036854775807 := by
 refine H.factR (List.mem_of_getElem? hj) fun _ h => ?_
 obtain ⟨A1, c1, e1, g1, g2, _⟩ := rsl_form (tw_set h hx)
 obtain ⟨A2, c2, e2, g3, g4, _⟩ := rsl_form (tw_pairs h hx)
 exact ⟨A1, c1, A2, c2, e1, e2, g1, g2, g3, g4⟩
/-! ### Held: the cells in one row, the slices apart -/
theorem tw_cells {r : Two α} {A1 A2 : Option Addr} {n1 c1 n2 c2 : Nat} (e1 : r.sv = .slice A1 n1 c1) (e2 : r.pv = .slice A2 n2 c2) : S.e r = S.f (twF r) := by
 simp [Shp.e, Shp.f, twF, hdrOf, e1, e2]
def twT (r : Two α) : SP := star [osl (kInt .i64) r.sv r.set, osl kPair r.pv r.pairs]
def twS (us : List (Two α)) : SP := bigS twT us
theorem twT_cells {r : Two α} (h : (twT r).P w F) : S.e r = S.f (twF r) := by
 obtain ⟨F1, F2, _, _, _, a, F3, F4, _, _, _, b, _⟩ := h
 obtain ⟨A1, c1, e1, _⟩ := rsl_form (own_rd _ a)
 obtain ⟨A2, c2, e2, _⟩ := rsl_form (own_rd _ b)
 exact tw_cells e1 e2
theorem twT_O {r : Two α} (h : (twT r).P w F) : (kTwo S).O w F r (S.f (twF r)) := by
 have e := twT_cells (S := S) h
 obtain ⟨F1, F2, h1, h2, h3, a, F3, F4, g1, g2, g3, b, _⟩ := h
 exact ⟨e.symm, F1, F3, h1, fun k hk => h2 k (g1 k hk), fun k hk hk2 => h3 k hk (g1 k hk2), a, b⟩
theorem reps_twI : ∀ {us : List (Two α)} {F : Foot}, (twS us).P w F → RepsO (kTwo S) w F us ((us.map twF).flatMap S.f)
 | [], _, _ => rfl
 | u :: us, F, ⟨F1, F2, h1, h2, h3, a, s⟩ => ⟨F1, F2, S.f (twF u), (us.map twF).flatMap S.f, h1, h2, h3, rfl, twT_O a, reps_twI (us := us) s⟩
variable {v : Value} {us : List (Two α)}
theorem Hd.twI (H : Hd w0 F0 w (osl (kTwoF S) v (us.map twF) :: twS us :: As) Rs) : Hd w0 F0 w (osl (kTwo S) v us :: As) Rs := by
 refine H.turn2 fun F1 F2 hd h1 h2 => ?_
 obtain ⟨A, n, c, e, hl, cs, G1, G2, s1, s2, dj, row, reps⟩ := h1
 have hcs : cs = (us.map twF).flatMap S.f := RepsR.flat_eq.1 reps.toR
 subst hcs
 exact ⟨A, n, c, e, by simpa using hl, _, G1, F2, fun k hk => .inl (s1 k hk), fun k hk => .inr hk, fun k hk hg => hd k (s1 k hk) hg, row, reps_twI h2⟩
theorem Hd.twN {r : Two α} (H : Hd w0 F0 w (osl (kInt .i64) r.sv r.set :: osl kPair r.pv r.pairs :: twS us :: As) Rs) : Hd w0 F0 w (twS (us ++ [r]) :: As) Rs :=
 Hd.bigN (f := twT) (x := r) (Hd.stI (Bs := [osl (kInt .i64) r.sv r.set, osl kPair r.pv r.pairs]) H)
theorem Hd.tw0 (H : Hd w0 F0 w As Rs) : Hd w0 F0 w (twS ([] : List (Two α)) :: As) Rs := H.big0 twT
end
/-! ### Messages, letters, acts, snapshots -/
structure MesH where
 kind : Int
 sp : Int
 att : Int
 part : Int
 seq : Int
 next : Int
 ep : Int
 why : Int
def shMes : Shp MesH where
 sz := 10
 enc m s p := [.int .i64 m.kind, .int .i64 m.sp, .int .i64 m.att, .int .i64 m.part, .int .i64 m.seq, .int .i64 m.next, .int .i64 m.ep, .int .i64 m.why, s, p]
 len _ _ _ := rfl
 one _ _ _ c h := by
  simp only [List.mem_cons, List.not_mem_nil, or_false] at h
  rcases h with rfl | rfl | rfl | rfl | rfl | rfl | rfl | rfl | rfl | rfl <;> first | exact .inr (.inr rfl) | exact .inl rfl | exact .inr (.inl rfl)
 pos := by omega
structure A21H where
 won : Bool
 m : MesH
 n : Int
def shA21 : Shp A21H where
 sz := 12
 enc a s p := [.bool a.won, .int .i64 a.m.kind, .int .i64 a.m.sp, .int .i64 a.m.att, .int .i64 a.m.part, .int .i64 a.m.seq, .int .i64 a.m.next, .int .i64 a.m.ep, .int .i64 a.m.why, s, p, .int .i64 a.n]
 len _ _ _ := rfl
 one _ _ _ c h := by
  simp only [List.mem_cons, List.not_mem_nil, or_false] at h
  rcases h with rfl | rfl | rfl | rfl | rfl | rfl | rfl | rfl | rfl | rfl | rfl | rfl <;> first | exact .inr (.inr rfl) | exact .inl rfl | exact .inr (.inl rfl)
 pos := by omega
structure A23H where
 hear : Bool
 fr : Int
 m : MesH
structure LetH where
 fr : Int
 to : Int
 m : MesH
def shSnap : Shp Int where
 sz := 3
 enc a s p := [s, .int .i64 a, p]
 len _ _ _ := rfl
 one _ _ _ c h := by
  simp only [List.mem_cons, List.not_mem_nil, or_false] at h
  rcases h with rfl | rfl | rfl <;> first | exact .inr (.inr rfl) | exact .inl rfl | exact .inr (.inl rfl)
 pos := by omega
abbrev kMes := kTwo shMes
abbrev kA21 := kTwo shA21
abbrev kSnap := kTwo shSnap
abbrev kSnapF := kTwoF shSnap
def MesH.p (m : MesH) (set : List Int) (ps : List Pair) : Msg := ⟨m.kind, m.sp, m.att, m.part, m.seq, m.next, m.ep, m.why, set, ps⟩
def snapP (x : Two Int) : SnapP := ⟨x.set, x.h, x.pairs⟩
theorem msg_ext {a b : Msg} : a = b ↔ a.kind = b.kind ∧ a.sp = b.sp ∧ a.att = b.att ∧ a.part = b.part ∧ a.seq = b.seq ∧ a.next = b.next ∧ a.ep = b.ep ∧ a.why = b.why ∧ a.set = b.set ∧ a.pairs = b.pairs := by
 constructor
 ·rintro rfl; exact ⟨rfl, rfl, rfl, rfl, rfl, rfl, rfl, rfl, rfl, rfl⟩
 ·rintro ⟨h1, h2, h3, h4, h5, h6, h7, h8, h9, h10⟩
  cases a; cases b
  simp only at h1 h2 h3 h4 h5 h6 h7 h8 h9 h10
  subst h1 h2 h3 h4 h5 h6 h7 h8 h9 h10
  rfl
instance msgD (a b : Msg) : Decidable (a = b) := decidable_of_iff _ msg_ext.symm
/-! ### How they come in -/
section
variable {P : Program} {t : TypeId}
abbrev InM (m : MesH) : Prop := In64 m.kind ∧ In64 m.sp ∧ In64 m.att ∧ In64 m.part ∧ In64 m.seq ∧ In64 m.next ∧ In64 m.ep ∧ In64 m.why
def InT {α : Type} (Q : α → Prop) (W2 : Pair → Prop) (x : Two α) : Prop := Q x.h ∧ ((∀ i ∈ x.set, In64 i) ∧ x.set.length ≤ 9223372036854775807) ∧ ((∀ p ∈ x.pairs, W2 p) ∧ x.pairs.length ≤ 9223372036854775807)
theorem opens_mes {i s p : TypeId} {W2 : Pair → Prop} (hs : stOf P t = some [(i, 0, 1), (i, 1, 1), (i, 2, 1), (i, 3, 1), (i, 4, 1), (i, 5, 1), (i, 6, 1), (i, 7, 1), (s, 8, 1), (p, 9, 1)]) (hc : P.cellsOf t = 10) (hi : P.underlying i = some (.int .i64))
  (h1 : Opens P s (kSl (kInt .i64)) (fun xs => (∀ x ∈ xs, In64 x) ∧ xs.length ≤ 9223372036854775807)) (h2 : Opens P p (kSl kPair) (fun xs => (∀ x ∈ xs, W2 x) ∧ xs.length ≤ 9223372036854775807)) :
  Opens P t kMes (InT InM W2) := by
 intro H enc w fuel cs x h
 obtain ⟨hl, n, hf⟩ := open_st hs h
 rw [hc] at hl
 match cs, hl with
 | [c0, c1, c2, c3, c4, c5, c6, c7, c8, c9], _ =>
  obtain ⟨y0, g0⟩ := hf 0 _ _ _ rfl
  obtain ⟨y1, g1⟩ := hf 1 _ _ _ rfl
  obtain ⟨y2, g2⟩ := hf 2 _ _ _ rfl
  obtain ⟨y3, g3⟩ := hf 3 _ _ _ rfl
  obtain ⟨y4, g4⟩ := hf 4 _ _ _ rfl
  obtain ⟨y5, g5⟩ := hf 5 _ _ _ rfl
  obtain ⟨y6, g6⟩ := hf 6 _ _ _ rfl
  obtain ⟨y7, g7⟩ := hf 7 _ _ _ rfl
  obtain ⟨y8, g8⟩ := hf 8 _ _ _ rfl
  obtain ⟨y9, g9⟩ := hf 9 _ _ _ rfl
  obtain ⟨a0, r0, w0⟩ := opens_int hi enc w n _ _ g0
  obtain ⟨a1, r1, w1⟩ := opens_int hi enc w n _ _ g1
  obtain ⟨a2, r2, w2⟩ := opens_int hi enc w n _ _ g2
  obtain ⟨a3, r3, w3⟩ := opens_int hi enc w n _ _ g3
  obtain ⟨a4, r4, w4⟩ := opens_int hi enc w n _ _ g4
  obtain ⟨a5, r5, w5⟩ := opens_int hi enc w n _ _ g5
  obtain ⟨a6, r6, w6⟩ := opens_int hi enc w n _ _ g6
  obtain ⟨a7, r7, w7⟩ := opens_int hi enc w n _ _ g7
  obtain ⟨a8, r8, w8⟩ := h1 enc w n _ _ g8
  obtain ⟨a9, r9, w9⟩ := h2 enc w n _ _ g9
  have r8' : (kSl (kInt .i64)).R w (Old w) a8 [c8] := r8
  have r9' : (kSl kPair).R w (Old w) a9 [c9] := r9
  refine ⟨⟨⟨a0, a1, a2, a3, a4, a5, a6, a7⟩, c8, a8, c9, a9⟩, ⟨?_, r8', r9'⟩, ⟨w0, w1, w2, w3, w4, w5, w6, w7⟩, w8, w9⟩
  have q0 : [c0] = [Value.int .i64 a0] := r0
  have q1 : [c1] = [Value.int .i64 a1] := r1
  have q2 : [c2] = [Value.int .i64 a2] := r2
  have q3 : [c3] = [Value.int .i64 a3] := r3
  have q4 : [c4] = [Value.int .i64 a4] := r4
  have q5 : [c5] = [Value.int .i64 a5] := r5
  have q6 : [c6] = [Value.int .i64 a6] := r6
  have q7 : [c7] = [Value.int .i64 a7] := r7
  simp only [List.cons.injEq, and_true] at q0 q1 q2 q3 q4 q5 q6 q7
  subst q0 q1 q2 q3 q4 q5 q6 q7
  rfl
theorem opens_a21 {b j i : TypeId} {W2 : Pair → Prop} (hs : stOf P t = some [(b, 0, 1), (j, 1, 10), (i, 11, 1)]) (hc : P.cellsOf t = 12) (hb : P.underlying b = some .bool) (hi : P.underlying i = some (.int .i64)) (hm : Opens P j kMes (InT InM W2)) :
  Opens P t kA21 (InT (fun a => InM a.m ∧ In64 a.n) W2) := by
 intro H enc w fuel cs x h
 obtain ⟨hl, n, hf⟩ := open_st hs h
 rw [hc] at hl
 match cs, hl with
 | [c0, c1, c2, c3, c4, c5, c6, c7, c8, c9, c10, c11], _ =>
  obtain ⟨y0, g0⟩ := hf 0 _ _ _ rfl
  obtain ⟨y1, g1⟩ := hf 1 _ _ _ rfl
  obtain ⟨y2, g2⟩ := hf 2 _ _ _ rfl
  obtain ⟨a0, r0, w0⟩ := opens_bool hb enc w n _ _ g0
  obtain ⟨a1, r1, w1⟩ := hm enc w n _ _ g1
  obtain ⟨a2, r2, w2⟩ := opens_int hi enc w n _ _ g2
  have q0 : [c0] = [Value.bool a0] := r0
  have q2 : [c11] = [Value.int .i64 a2] := r2
  obtain ⟨e, r3, r4⟩ := r1
  have e' : [c1, c2, c3, c4, c5, c6, c7, c8, c9, c10] = shMes.e a1 := e
  simp only [List.cons.injEq, and_true] at q0 q2
  refine ⟨⟨⟨a0, a1.h, a2⟩, a1.sv, a1.set, a1.pv, a1.pairs⟩, ⟨?_, r3, r4⟩, ⟨w1.1, w2⟩, w1.2⟩
  simp only [shMes, Shp.e, List.cons.injEq, and_true] at e'
  obtain ⟨e1, e2, e3, e4, e5, e6, e7, e8, e9, e10⟩ := e'
  rw [q0, q2, e1, e2, e3, e4, e5, e6, e7, e8, e9, e10]
  rfl
end
/-! ### A result in cells, and another one -/
section
variable {P : Program} {fn : Func} {R : Ending → World → Prop} {n : Nat} {l : Env} {w : World} {t : TypeId} {a : Act}
theorem results_ct {s u : Tmp} {sz : Nat} {p : Addr} {cs : List Value} {v : Value} (hr : fn.results = #[.cell s t, .tmp u]) (ha : Fits n l a) (hs : lk l s = some (.pointer (some p))) (hu : lk l u = some v) (ht : tyOf P t = some (true, sz)) (hz : cs.length = sz) (hc : ∀ j v, cs[j]? = some v → w.cell? (p.add j) = some v) :
  (results fn a.tmps).run P w = .ok (.tuple #[.agg cs.toArray, v]) w := by
 have hl := run_loadCells_list (P := P) w p cs hc
 have hg := (ha.get s _ hs).1
 have e2 := (ha.get u _ hu).1
 simp [results, hr]
 simp only [← Array.getD_eq_getD_getElem?, hg, e2]
 simp [asAddr, loadVar, run_isAgg ht, run_sizeOf ht, ← hz, hl]
theorem q_retCT {s u : Tmp} {sz : Nat} {p : Addr} {cs : List Value} {v : Value} (hr : fn.results = #[.cell s t, .tmp u]) (hs : lk l s = some (.pointer (some p))) (hu : lk l u = some v) (ht : tyOf P t = some (true, sz)) (hz : cs.length = sz) (hc : ∀ j v, cs[j]? = some v → w.cell? (p.add j) = some v) (h : R (.returned (.tuple #[.agg cs.toArray, v])) w) : WQ (bodyPost P fn R) .ret n l w :=
 fun a ha => bodyPost_ret (results_ct hr ha hs hu ht hz hc) ha.defers h
end

def stB (st : Stg) : Prop := ∀ a b, (sgOf st a b).length ≤ 40 ∧ ∀ x ∈ sgOf st a b, x.length ≤ 8
structure OkR (n : Nat) (R : Red) : Prop where
 pairs : ∀ i, (R.g i).pairs.length ≤ 1000
 st : stB R.st
 sets : R.sets.length ≤ n
 setl : ∀ s ∈ R.sets, s.length ≤ 1000
theorem OkR.mono {n m : Nat} {R : Red} (h : OkR n R) (hm : n ≤ m) : OkR m R := ⟨h.pairs, h.st, Nat.le_trans h.sets hm, h.setl⟩
theorem flat_le {l : List (List Pair)} {n m : Nat} (h1 : l.length ≤ n) (h2 : ∀ x ∈ l, x.length ≤ m) : l.flatten.length ≤ n * m := by
 have : ∀ l : List (List Pair), (∀ x ∈ l, x.length ≤ m) → l.flatten.length ≤ l.length * m := by
  intro l
  induction l with
  | nil => intro _; simp
  | cons x l ih =>
   intro h
   have h3 := ih fun y hy => h y (List.mem_cons_of_mem _ hy)
   have h4 := h x (List.mem_cons_self ..)
   rw [List.flatten_cons, List.length_append, List.length_cons, Nat.succ_mul]
   omega
 exact Nat.le_trans (this l h2) (Nat.mul_le_mul_right _ h1)
theorem OkR.flat {n : Nat} {R : Red} (h : OkR n R) (a b : Int) : (sgOf R.st a b).flatten.length ≤ 320 := flat_le (h.st a b).1 (h.st a b).2
theorem sgOf_drop (c a b : Int) : ∀ st : Stg, sgOf (sgDrop st c) a b = if a = c then [] else sgOf st a b
 | [] => by unfold sgDrop; simp [sgOf]
 | e :: s => by
  have ih := sgOf_drop c a b s
  unfold sgDrop at ih ⊢
  by_cases h : e.1.1 = c
  ·rw [List.filter_cons_of_neg (by simpa using h), ih]
   by_cases h2 : a = c
   ·rw [if_pos h2, if_pos h2]
   ·rw [if_neg h2, if_neg h2]
    exact (if_neg (fun h3 => h2 (h3.1.symm.trans h))).symm
  ·rw [List.filter_cons_of_pos (p := fun e : (Int × Int) × List (List Pair) => decide (e.1.1 ≠ c)) (decide_eq_true h)]
   show (if e.1.1 = a ∧ e.1.2 = b then e.2 else sgOf (List.filter _ s) a b) = if a = c then [] else (if e.1.1 = a ∧ e.1.2 = b then e.2 else sgOf s a b)
   rw [ih]
   by_cases h2 : a = c
   ·rw [if_pos h2, if_pos h2, if_neg fun h3 => h (h3.1.trans h2)]
   ·rw [if_neg h2, if_neg h2]
theorem sgOf_add2 (c d a b : Int) (x : List Pair) : ∀ st : Stg, sgOf (sgAdd st c d x) a b = if c = a ∧ d = b then sgOf st a b ++ [x] else sgOf st a b
 | [] => by
  show (if c = a ∧ d = b then [x] else sgOf [] a b) = _
  split <;> rfl
 | e :: s => by
  have ih := sgOf_add2 c d a b x s
  show sgOf (if e.1.1 = c ∧ e.1.2 = d then (e.1, e.2 ++ [x]) :: s else e :: sgAdd s c d x) a b = if c = a ∧ d = b then (if e.1.1 = a ∧ e.1.2 = b then e.2 else sgOf s a b) ++ [x] else (if e.1.1 = a ∧ e.1.2 = b then e.2 else sgOf s a b)
  by_cases h : e.1.1 = c ∧ e.1.2 = d
  ·rw [if_pos h]
   show (if e.1.1 = a ∧ e.1.2 = b then e.2 ++ [x] else sgOf s a b) = _
   by_cases h2 : c = a ∧ d = b
   ·have h3 : e.1.1 = a ∧ e.1.2 = b := ⟨h.1.trans h2.1, h.2.trans h2.2⟩
    rw [if_pos h2, if_pos h3, if_pos h3]
   ·have h3 : ¬ (e.1.1 = a ∧ e.1.2 = b) := fun h4 => h2 ⟨h.1.symm.trans h4.1, h.2.symm.trans h4.2⟩
    rw [if_neg h2, if_neg h3, if_neg h3]
  ·rw [if_neg h]
   show (if e.1.1 = a ∧ e.1.2 = b then e.2 else sgOf (sgAdd s c d x) a b) = _
   rw [ih]
   by_cases h2 : c = a ∧ d = b
   ·have h3 : ¬ (e.1.1 = a ∧ e.1.2 = b) := fun h4 => h ⟨h4.1.trans h2.1.symm, h4.2.trans h2.2.symm⟩
    rw [if_pos h2, if_neg h3, if_neg h3, if_pos h2]
   ·rw [if_neg h2, if_neg h2]
theorem stB.drop {st : Stg} (h : stB st) (c : Int) : stB (sgDrop st c) := by
 intro a b
 rw [sgOf_drop]
 split
 ·exact ⟨by simp, fun x hx => by cases hx⟩
 ·exact h a b
theorem stB.put {st : Stg} (h : stB st) {a b q : Int} {x : List Pair} (hx : x.length ≤ 8) : stB (sgPut st a b q x) := by
 unfold sgPut
 split
 ·rename_i hm
  intro c d
  rw [sgOf_add2]
  split
  ·rename_i e
   obtain ⟨rfl, rfl⟩ := e
   have h1 := hm.1
   have h2 := hm.2.2.2
   unfold sgNext at h1
   refine ⟨by rw [List.length_append, List.length_singleton]; omega, fun y hy => ?_⟩
   rcases List.mem_append.1 hy with hy | hy
   ·exact (h _ _).2 y hy
   ·rw [List.mem_singleton.1 hy]; exact hx
  ·exact h c d
 ·exact h
theorem OkR.looks {n : Nat} {J : Job} {R : Red} (h : OkR n R) (h6 : J.us.length ≤ 6) (k : Nat) : OkR (n + 1) (looksR J R k).1 := by
 have hg : ∀ ps : List Pair, ps.length ≤ 40 → ∀ i, ((setD R.g k { R.g k with merged := true, pairs := ps } : Nat → SpD) i).pairs.length ≤ 1000 := fun ps hps i => by
  by_cases e : i = k
  ·subst e
   rw [setD_self]
   show ps.length ≤ 1000
   omega
  ·rw [setD_ne _ _ e]
   exact h.pairs i
 have h' : OkR (n + 1) R := h.mono (Nat.le_succ n)
 unfold looksR
 split
 ·exact h'
 ·split
  ·exact h'
  ·split
   ·exact h'
   ·rename_i hl
    dsimp only
    split
    ·refine ⟨hg _ (by omega), h.st.drop _, by show (R.sets ++ [_]).length ≤ n + 1; rw [List.length_append, List.length_singleton]; have := h.sets; omega, fun s hs => ?_⟩
     rcases List.mem_append.1 hs with hs | hs
     ·exact h.setl s hs
     ·rw [List.mem_singleton.1 hs]
      exact Nat.le_trans (merged_len _ _) (by omega)
    ·exact ⟨hg _ (by omega), h.st.drop _, Nat.le_succ_of_le h.sets, h.setl⟩
theorem OkR.push {n : Nat} {J : Job} {R : Red} (h : OkR n R) (h6 : J.us.length ≤ 6) (m : Msg) : OkR (n + 1) (pushR J R m).1 := by
 unfold pushR
 split
 ·exact h.mono (Nat.le_succ n)
 ·show OkR (n + 1) (pushS J R m).1
  unfold pushS
  split
  ·rename_i ht
   exact OkR.looks (R := { R with st := sgPut R.st m.sp m.att m.seq m.pairs }) ⟨h.pairs, h.st.put ht.2.1, h.sets, h.setl⟩ h6 _
  ·exact h.mono (Nat.le_succ n)
theorem OkR.won {n : Nat} {J : Job} {t : Int} {R : Red} (h : OkR n R) (h6 : J.us.length ≤ 6) (sp att cnt : Int) : OkR (n + 1) (wonR J t R sp att cnt).1 := by
 unfold wonR
 split
 ·exact h.mono (Nat.le_succ n)
 ·refine OkR.looks (R := { R with g := setD R.g sp.toNat { R.g sp.toNat with told := true, att := att, cnt := cnt } }) ⟨fun i => ?_, h.st, h.sets, h.setl⟩ h6 _
  show ((setD R.g sp.toNat { R.g sp.toNat with told := true, att := att, cnt := cnt } : Nat → SpD) i).pairs.length ≤ 1000
  by_cases e : i = sp.toNat
  ·subst e; rw [setD_self]; exact h.pairs _
  ·rw [setD_ne _ _ e]; exact h.pairs i
theorem new_sets (n : Nat) (p ep : Int) (rs : List RecP) : (newR n p ep rs).sets.length ≤ rs.length := by
 have key : ∀ rs : List RecP, (newR n p ep rs.reverse).sets.length ≤ rs.length := by
  intro rs
  induction rs with
  | nil => simp [newR, red0]
  | cons x rs ih =>
   rw [List.reverse_cons, newR_snoc, List.length_cons]
   have hx : ∀ R : Red, (recIn n R x).sets.length ≤ R.sets.length + 1 := by
    intro R
    unfold recIn
    dsimp only
    split
    ·omega
    ·split <;> split <;> simp
   have := hx (newR n p ep rs.reverse)
   omega
 have := key rs.reverse
 rwa [List.reverse_reverse, List.length_reverse] at this
theorem new_setl (n : Nat) (p ep : Int) (b : Nat) (rs : List RecP) (h : ∀ r ∈ rs, r.set.length ≤ b) : ∀ s ∈ (newR n p ep rs).sets, s.length ≤ b := by
 have key : ∀ (rs : List RecP) (R : Red), (∀ r ∈ rs, r.set.length ≤ b) → (∀ s ∈ R.sets, s.length ≤ b) → ∀ s ∈ (rs.foldl (recIn n) R).sets, s.length ≤ b := by
  intro rs
  induction rs with
  | nil => intro R _ h; exact h
  | cons x rs ih =>
   intro R hr hR
   refine ih (recIn n R x) (fun r hq => hr r (List.mem_cons_of_mem _ hq)) ?_
   have hx := hr x (List.mem_cons_self ..)
   have hc : ∀ R1 : Red, R1.sets = R.sets → ∀ s ∈ (if x.kind = 5 then ({ R1 with sets := R1.sets ++ [x.set] } : Red) else R1).sets, s.length ≤ b := by
    intro R1 e s hs
    split at hs
    ·rcases List.mem_append.1 hs with hs | hs
     ·rw [e] at hs; exact hR s hs
     ·rw [List.mem_singleton.1 hs]; exact hx
    ·rw [e] at hs; exact hR s hs
   unfold recIn
   dsimp only
   split
   ·exact hR
   ·refine hc _ ?_
    split <;> rfl
 exact key rs (red0 p ep) h fun s hs => by cases hs
theorem OkR.new {n : Nat} {p ep : Int} {rs : List RecP} (h : ∀ r ∈ rs, r.pairs.length ≤ 1000 ∧ r.set.length ≤ 1000) : OkR rs.length (newR n p ep rs) := ⟨newR_pairs fun r hr => (h r hr).1, by rw [(newR_part n p ep rs).2.2]; exact fun a b => ⟨by simp [sgOf], fun x hx => by cases hx⟩, new_sets n p ep rs, new_setl n p ep 1000 rs fun r hr => (h r hr).2⟩
theorem some_getD {α : Type} {o : Option α} (d : α) (h : o.isSome = true) : o = some (o.getD d) := by
 cases o with
 | none => cases h
 | some x => rfl
theorem none_of {α : Type} {o : Option α} (h : ¬ o.isSome = true) : o = none := by
 cases o with
 | none => rfl
 | some x => exact absurd rfl h
section
variable {J : Job} {R R1 : Red} {k : Nat} {n : Int} {ps : List Pair}
theorem looks_no1 (h : ¬ (R.g k).told = true) : looksR J R k = (R, []) := by
 unfold looksR
 rw [if_pos (by simpa using h)]
theorem looks_no2 (hn : ((k : Nat) : Int) = n) (h : sgTake R.st n (R.g k).att (R.g k).cnt = none) : looksR J R k = (R, []) := by
 unfold looksR
 rw [hn, h]
 split <;> rfl
theorem looks_no3 (hn : ((k : Nat) : Int) = n) (h : sgTake R.st n (R.g k).att (R.g k).cnt = some ps) (hl : 40 < ps.length) : looksR J R k = (R, []) := by
 unfold looksR
 rw [hn, h]
 dsimp only
 rw [if_pos hl]
 split <;> rfl
theorem looks_one (hn : ((k : Nat) : Int) = n) (ht : (R.g k).told = true) (h : sgTake R.st n (R.g k).att (R.g k).cnt = some ps) (hl : ps.length ≤ 40) (h1 : R1 = { R with g := setD R.g k { R.g k with merged := true, pairs := ps }, st := sgDrop R.st n }) (hm : ¬ ((mergedL J.us.length R1).length : Int) ∈ J.marks) :
  looksR J R k = (R1, [⟨4, R.part, n, (R.g k).att, 0, [], ps⟩]) := by
 unfold looksR
 rw [if_neg (by rw [ht]; decide), hn, h]
 dsimp only
 rw [if_neg (by omega), ← h1, if_neg hm]
theorem looks_two (hn : ((k : Nat) : Int) = n) (ht : (R.g k).told = true) (h : sgTake R.st n (R.g k).att (R.g k).cnt = some ps) (hl : ps.length ≤ 40) (h1 : R1 = { R with g := setD R.g k { R.g k with merged := true, pairs := ps }, st := sgDrop R.st n }) (hm : ((mergedL J.us.length R1).length : Int) ∈ J.marks) :
  looksR J R k = ({ R1 with sets := R1.sets ++ [mergedL J.us.length R1] }, [⟨4, R.part, n, (R.g k).att, 0, [], ps⟩, ⟨5, R.part, 0, 0, 0, mergedL J.us.length R1, []⟩]) := by
 unfold looksR
 rw [if_neg (by rw [ht]; decide), hn, h]
 dsimp only
 rw [if_neg (by omega), ← h1, if_pos hm]
 subst h1
 rfl
end
theorem prsS_congr {g g' : Nat → SpD} {hv : Nat → Value} (h : ∀ i, (g i).pairs = (g' i).pairs) : prsS g hv = prsS g' hv := by
 unfold prsS
 exact big_eq fun i _ => by unfold prsF; rw [h i]
theorem setD_setD {α : Type} (g : Nat → α) (k : Nat) (a b : α) : setD (setD g k a) k b = setD g k b := by
 funext j
 by_cases e : j = k
 ·subst e; rw [setD_self, setD_self]
 ·rw [setD_ne _ _ e, setD_ne _ _ e, setD_ne _ _ e]
theorem setD_pairs {g : Nat → SpD} {k : Nat} {x : SpD} (h : x.pairs = (g k).pairs) (i : Nat) : (g i).pairs = (setD g k x i).pairs := by
 by_cases e : i = k
 ·subst e; rw [setD_self, h]
 ·rw [setD_ne _ _ e]

/-! ### Once -/
/-! ### Records -/
structure RelR (n : Nat) (R N : Red) : Prop where
 part : N.part = R.part
 g : ∀ s, s < n → (N.g s).merged = (R.g s).merged ∧ (N.g s).pairs = (R.g s).pairs
 sets : N.sets = R.sets
theorem recIn_4 {n : Nat} {N : Red} {x : RecP} (h1 : x.part = N.part) (h2 : x.kind = 4) : recIn n N x = if (0 ≤ x.sp ∧ x.sp < n) ∧ (N.g x.sp.toNat).merged = false then { N with g := setD N.g x.sp.toNat { N.g x.sp.toNat with merged := true, pairs := x.pairs } } else N := by
 unfold recIn
 dsimp only
 rw [if_neg (fun h => h h1), if_neg (show ¬ x.kind = 5 by omega)]
 by_cases h : (0 ≤ x.sp ∧ x.sp < n) ∧ (N.g x.sp.toNat).merged = false
 ·rw [if_pos ⟨h2, h⟩, if_pos h]
 ·rw [if_neg (fun g => h g.2), if_neg h]
theorem recIn_5 {n : Nat} {N : Red} {x : RecP} (h1 : x.part = N.part) (h2 : x.kind = 5) : recIn n N x = { N with sets := N.sets ++ [x.set] } := by
 unfold recIn
 dsimp only
 rw [if_neg (fun h => h h1), if_pos h2, if_neg (fun g => by have := g.1; omega)]
theorem looks_rel {J : Job} {R N : Red} {k : Nat} (hk : k < J.us.length) (h : RelR J.us.length R N) (hm : (R.g k).merged = false) : RelR J.us.length (looksR J R k).1 ((looksR J R k).2.foldl (recIn J.us.length) N) := by
 unfold looksR
 split
 ·exact h
 ·split
  ·exact h
  ·split
   ·exact h
   ·dsimp only
    rename_i ps _ _
    have e4 : recIn J.us.length N ⟨4, R.part, (k : Int), (R.g k).att, 0, [], ps⟩ = { N with g := setD N.g k { N.g k with merged := true, pairs := ps } } := by
     rw [recIn_4 h.part.symm rfl]
     exact if_pos ⟨⟨(show (0 : Int) ≤ (k : Int) by omega), (show (k : Int) < (J.us.length : Int) by omega)⟩, (h.g k hk).1.trans hm⟩
    have hg : ∀ s, s < J.us.length → (setD N.g k { N.g k with merged := true, pairs := ps } s).merged = (setD R.g k { R.g k with merged := true, pairs := ps } s).merged ∧ (setD N.g k { N.g k with merged := true, pairs := ps } s).pairs = (setD R.g k { R.g k with merged := true, pairs := ps } s).pairs := by
     intro s hs
     by_cases e : s = k
     ·subst e; rw [setD_self, setD_self]; exact ⟨rfl, rfl⟩
     ·rw [setD_ne _ _ e, setD_ne _ _ e]; exact h.g s hs
    split
    ·rw [List.foldl_cons, List.foldl_cons, List.foldl_nil, e4, recIn_5 (by exact h.part.symm) rfl]
     exact ⟨h.part, hg, by show N.sets ++ _ = R.sets ++ _; rw [h.sets]⟩
    ·rw [List.foldl_cons, List.foldl_nil, e4]
     exact ⟨h.part, hg, h.sets⟩
theorem push_rel {J : Job} {R N : Red} {m : Msg} (h : RelR J.us.length R N) : RelR J.us.length (pushR J R m).1 ((pushR J R m).2.2.foldl (recIn J.us.length) N) := by
 unfold pushR
 split
 ·exact h
 ·rename_i hn
  have hr : 0 ≤ m.sp ∧ m.sp < (J.us.length : Int) := Classical.not_not.1 fun g => hn (.inl g)
  show RelR _ (pushS J R m).1 ((pushS J R m).2.foldl _ N)
  unfold pushS
  split
  ·rename_i ht
   exact looks_rel (R := { R with st := _ }) (by omega) ⟨h.part, h.g, h.sets⟩ ht.1
  ·exact h
theorem won_rel {J : Job} {t : Int} {R N : Red} {sp att cnt : Int} (h : RelR J.us.length R N) : RelR J.us.length (wonR J t R sp att cnt).1 ((wonR J t R sp att cnt).2.foldl (recIn J.us.length) N) := by
 unfold wonR
 split
 ·exact h
 ·rename_i hn
  have hr : 0 ≤ sp ∧ sp < (J.us.length : Int) := Classical.not_not.1 fun g => hn (.inl g)
  have hm : (R.g sp.toNat).merged = false := by
   cases hb : (R.g sp.toNat).merged with
   | false => rfl
   | true => exact absurd (.inr (.inl hb)) hn
  refine looks_rel (by omega) ⟨h.part, fun s hs => ?_, h.sets⟩ (by dsimp only; rw [setD_self]; exact hm)
  dsimp only
  by_cases e : s = sp.toNat
  ·subst e; rw [setD_self]; exact h.g _ hs
  ·rw [setD_ne _ _ e]; exact h.g s hs
theorem rel_merged {n : Nat} {R N : Red} (h : RelR n R N) : mergedL n N = mergedL n R := by
 unfold mergedL
 rw [List.filter_congr fun x hx => by rw [(h.g x (List.mem_range.1 hx)).1]]
theorem rel_runs {n : Nat} {R N : Red} (h : RelR n R N) (set : List Int) : runsOf n N set = runsOf n R set := by
 unfold runsOf
 rw [List.filter_congr fun x hx => by rw [(h.g x (List.mem_range.1 hx)).1]]
 have : ∀ l : List Nat, (∀ i ∈ l, i < n) → (l.flatMap fun i => (N.g i).pairs) = l.flatMap fun i => (R.g i).pairs := by
  intro l
  induction l with
  | nil => intro _; rfl
  | cons a l ih => intro hl; rw [List.flatMap_cons, List.flatMap_cons, ih fun i hi => hl i (List.mem_cons_of_mem _ hi), (h.g a (hl a (List.mem_cons_self ..))).2]
 exact this _ fun i hi => List.mem_range.1 (List.mem_filter.1 hi).1
theorem rel_out {D : Dig} {J : Job} {R N : Red} (h : RelR J.us.length R N) : outR D J N = outR D J R := by
 unfold outR ofR
 rw [rel_merged h, rel_runs h]
theorem rel_snaps {D : Dig} {J : Job} {R N : Red} (h : RelR J.us.length R N) : snapsR D J N = snapsR D J R := by
 unfold snapsR ofR
 rw [h.sets]
 exact List.map_congr_left fun set _ => by rw [rel_runs h]

theorem looks_part (J : Job) (R : Red) (k : Nat) : (looksR J R k).1.part = R.part ∧ (looksR J R k).1.ep = R.ep := by
 unfold looksR
 split
 ·exact ⟨rfl, rfl⟩
 ·split
  ·exact ⟨rfl, rfl⟩
  ·split
   ·exact ⟨rfl, rfl⟩
   ·dsimp only
    split <;> exact ⟨rfl, rfl⟩
theorem push_part (J : Job) (R : Red) (m : Msg) : (pushR J R m).1.part = R.part ∧ (pushR J R m).1.ep = R.ep := by
 unfold pushR
 split
 ·exact ⟨rfl, rfl⟩
 ·show (pushS J R m).1.part = R.part ∧ _
  unfold pushS
  split
  ·exact looks_part J { R with st := _ } _
  ·exact ⟨rfl, rfl⟩
theorem won_part (J : Job) (t : Int) (R : Red) (sp att cnt : Int) : (wonR J t R sp att cnt).1.part = R.part ∧ (wonR J t R sp att cnt).1.ep = R.ep := by
 unfold wonR
 split
 ·exact ⟨rfl, rfl⟩
 ·exact looks_part J { R with g := _ } _
def smallP (r : RecP) : Prop := (In64 r.sp ∧ r.set.length ≤ 1000) ∧ r.pairs.length ≤ 1000
def smallsP (l : List RecP) : Prop := (∀ r ∈ l, smallP r) ∧ l.length ≤ 2
theorem smalls0 : smallsP [] := ⟨fun r h => (by cases h), by simp⟩
theorem looks_small {J : Job} {R : Red} {k : Nat} (hk : k < J.us.length) (h6 : J.us.length ≤ 6) : smallsP (looksR J R k).2 := by
 have hin : In64 (k : Int) := by unfold In64; omega
 have h0 : In64 (0 : Int) := by unfold In64; omega
 unfold looksR
 split
 ·exact smalls0
 ·split
  ·exact smalls0
  ·split
   ·exact smalls0
   ·rename_i ps _ hps
    dsimp only
    have hl := merged_len J.us.length { R with g := setD R.g k { R.g k with merged := true, pairs := ps }, st := sgDrop R.st k }
    split
    ·refine ⟨fun r hr => ?_, by simp⟩
     rcases List.mem_cons.1 hr with rfl | hr
     ·exact ⟨⟨hin, by simp⟩, by show ps.length ≤ 1000; omega⟩
     ·rcases List.mem_cons.1 hr with rfl | hr
      ·exact ⟨⟨h0, Nat.le_trans hl (by omega)⟩, by simp⟩
      ·cases hr
    ·refine ⟨fun r hr => ?_, by simp⟩
     rcases List.mem_cons.1 hr with rfl | hr
     ·exact ⟨⟨hin, by simp⟩, by show ps.length ≤ 1000; omega⟩
     ·cases hr
theorem push_small {J : Job} {R : Red} {m : Msg} (h6 : J.us.length ≤ 6) : smallsP (pushR J R m).2.2 := by
 unfold pushR
 split
 ·exact smalls0
 ·rename_i hn
  have hr : 0 ≤ m.sp ∧ m.sp < (J.us.length : Int) := Classical.not_not.1 fun g => hn (.inl g)
  show smallsP (pushS J R m).2
  unfold pushS
  split
  ·exact looks_small (by omega) h6
  ·exact smalls0
theorem won_small {J : Job} {t : Int} {R : Red} {sp att cnt : Int} (h6 : J.us.length ≤ 6) : smallsP (wonR J t R sp att cnt).2 := by
 unfold wonR
 split
 ·exact smalls0
 ·rename_i hn
  have hr : 0 ≤ sp ∧ sp < (J.us.length : Int) := Classical.not_not.1 fun g => hn (.inl g)
  exact looks_small (by omega) h6
theorem smalls_app {a b : List RecP} (ha : ∀ r ∈ a, smallP r) (hb : smallsP b) : ∀ r ∈ a ++ b, smallP r := fun r hr => (List.mem_append.1 hr).elim (ha r) (hb.1 r)
def pairsR (n : Nat) (R : Red) (s : Int) : List Pair := if 0 ≤ s ∧ s < (n : Int) then (R.g s.toNat).pairs else []
theorem pairsR_yes {n : Nat} {R : Red} {s : Int} (h : 0 ≤ s ∧ s < (n : Int)) : pairsR n R s = (R.g s.toNat).pairs := if_pos h
theorem pairsR_no {n : Nat} {R : Red} {s : Int} (h : ¬ (0 ≤ s ∧ s < (n : Int))) : pairsR n R s = [] := if_neg h
theorem rel_pairs {n : Nat} {R N : Red} (h : RelR n R N) (s : Int) : pairsR n N s = pairsR n R s := by
 unfold pairsR
 split
 ·exact (h.g s.toNat (by omega)).2
 ·rfl
theorem rel0 (n : Nat) (p ep ep' : Int) : RelR n (newR n p ep []) (newR n p ep' []) := ⟨rfl, fun _ _ => ⟨rfl, rfl⟩, rfl⟩
theorem rel_new {n : Nat} {p ep : Int} {R : Red} {l more : List RecP} (h : RelR n R ((newR n p ep l))) {R2 : Red} (hs : RelR n R2 (more.foldl (recIn n) (newR n p ep l))) : RelR n R2 (newR n p ep (l ++ more)) := by
 have e : newR n p ep (l ++ more) = more.foldl (recIn n) (newR n p ep l) := by unfold newR; rw [List.foldl_append]
 rw [e]; exact hs
theorem pushR_no {J : Job} {R : Red} {m : Msg} (h : pushNo J R m) : pushR J R m = (R, msg0, []) := if_pos h
theorem pushR_yes {J : Job} {R : Red} {m : Msg} (h : ¬ pushNo J R m) : pushR J R m = ((pushS J R m).1, ackR (pushS J R m).1 m, (pushS J R m).2) := if_neg h
theorem pushS_no {J : Job} {R : Red} {m : Msg} (h : ¬ pushTakes R m) : pushS J R m = (R, []) := if_neg h
theorem pushS_yes {J : Job} {R : Red} {m : Msg} (h : pushTakes R m) : pushS J R m = looksR J { R with st := sgPut R.st m.sp m.att m.seq m.pairs } m.sp.toNat := if_pos h
theorem ackR_is {R : Red} {m : Msg} {part ep nx : Int} (h1 : R.part = part) (h2 : R.ep = ep) (h3 : (if (R.g m.sp.toNat).merged = true then 40 else sgNext R.st m.sp m.att) = nx) : ackR R m = ⟨3, m.sp, m.att, part, 0, nx, ep, 0, [], []⟩ := by
 subst h1 h2 h3; rfl
theorem snaps_step {D : Dig} {J : Job} {R : Red} {us : List (Value × List Int)} (hs : us.map (fun u => u.2) = R.sets) {k : Nat} {v : Value} {set : List Int} (h : us[k]? = some (v, set)) : (snapsR D J R).take (k + 1) = (snapsR D J R).take k ++ [⟨set, (ofR D J R set).2, (ofR D J R set).1⟩] := by
 have hx : R.sets[k]? = some set := by rw [← hs, List.getElem?_map, h]; rfl
 exact take_snoc (by unfold snapsR; rw [List.getElem?_map, hx]; rfl)
theorem snaps_len {D : Dig} {J : Job} {R : Red} {us : List (Value × List Int)} (hs : us.map (fun u => u.2) = R.sets) : (snapsR D J R).length = us.length := by
 unfold snapsR; rw [List.length_map, ← hs, List.length_map]
theorem hello_yes {D : Dig} {J : Job} {R : Red} (h : (outR D J R).2.2 = true) : helloR D J R = ⟨8, 0, 0, R.part, 0, 0, R.ep, (outR D J R).2.1, [], []⟩ := if_pos h
theorem hello_no {D : Dig} {J : Job} {R : Red} (h : ¬ (outR D J R).2.2 = true) : helloR D J R = ⟨6, 0, 0, R.part, 0, 0, R.ep, 0, mergedL J.us.length R, []⟩ := if_neg h
theorem newR_ep (n : Nat) (p ep ep' : Int) (rs : List RecP) : (newR n p ep rs).part = (newR n p ep' rs).part ∧ (newR n p ep rs).g = (newR n p ep' rs).g ∧ (newR n p ep rs).sets = (newR n p ep' rs).sets := by
 have key : ∀ (rs : List RecP) (A B : Red), A.part = B.part ∧ A.g = B.g ∧ A.sets = B.sets → (rs.foldl (recIn n) A).part = (rs.foldl (recIn n) B).part ∧ (rs.foldl (recIn n) A).g = (rs.foldl (recIn n) B).g ∧ (rs.foldl (recIn n) A).sets = (rs.foldl (recIn n) B).sets := by
  intro rs
  induction rs with
  | nil => exact fun A B h => h
  | cons x rs ih =>
   intro A B h
   obtain ⟨p1, e1, g1, s1, l1⟩ := A
   obtain ⟨p2, e2, g2, s2, l2⟩ := B
   obtain ⟨h1, h2, h3⟩ := h
   simp only at h1 h2 h3
   subst h1 h2 h3
   refine ih _ _ ?_
   unfold recIn
   dsimp only
   by_cases c1 : x.part ≠ p1
   ·rw [if_pos c1, if_pos c1]; exact ⟨rfl, rfl, rfl⟩
   ·rw [if_neg c1, if_neg c1]
    by_cases c2 : x.kind = 4 ∧ (0 ≤ x.sp ∧ x.sp < n) ∧ (g1 x.sp.toNat).merged = false
    ·rw [if_pos c2, if_pos c2]
     by_cases c3 : x.kind = 5
     ·rw [if_pos c3, if_pos c3]; exact ⟨rfl, rfl, rfl⟩
     ·rw [if_neg c3, if_neg c3]; exact ⟨rfl, rfl, rfl⟩
    ·rw [if_neg c2, if_neg c2]
     by_cases c3 : x.kind = 5
     ·rw [if_pos c3, if_pos c3]; exact ⟨rfl, rfl, rfl⟩
     ·rw [if_neg c3, if_neg c3]; exact ⟨rfl, rfl, rfl⟩
 exact key rs _ _ ⟨rfl, rfl, rfl⟩
theorem rel_ep {n : Nat} {R : Red} {p ep ep' : Int} {rs : List RecP} (h : RelR n R (newR n p ep rs)) : RelR n R (newR n p ep' rs) := by
 obtain ⟨e1, e2, e3⟩ := newR_ep n p ep' ep rs
 exact ⟨e1.trans h.part, fun s hs => by rw [e2]; exact h.g s hs, e3.trans h.sets⟩
theorem snaps_same {A B : Job} (h : SameJ A B) (D : Dig) (R : Red) : snapsR D A R = snapsR D B R := by
 unfold snapsR ofR
 rw [h.len, h.red, h.fuel]
theorem hello_ep {D : Dig} {J : Job} {R : Red} : (helloR D J R).ep = R.ep := by
 unfold helloR
 split <;> rfl
theorem us_len {n : Nat} {R : Red} {us : List (Value × List Int)} (hs : us.map (fun u => u.2) = R.sets) (h : OkR n R) (hn : n ≤ 100000) : us.length ≤ 100000 := by
 have := h.sets
 rw [← hs, List.length_map] at this
 omega
theorem us_small {n : Nat} {R : Red} {us : List (Value × List Int)} (hs : us.map (fun u => u.2) = R.sets) (h : OkR n R) : ∀ u ∈ us, u.2.length ≤ 1000 := fun u hu => h.setl u.2 (by rw [← hs]; exact List.mem_map_of_mem hu)
/-! ### Six slices in a row -/
theorem recS_app {w0 w : World} {F0 : Foot} {As Rs : List SP} {a b : List Rec} (H : Hd w0 F0 w (recS a :: recS b :: As) Rs) : Hd w0 F0 w (recS (a ++ b) :: As) Rs := by
 have h1 : Hd w0 F0 w (a.map recT ++ (recS b :: As)) Rs := Hd.stA (Bs := a.map recT) H
 have h2 : Hd w0 F0 w (recS b :: (a.map recT ++ As)) Rs := h1.perm List.perm_middle
 have h3 : Hd w0 F0 w (b.map recT ++ (a.map recT ++ As)) Rs := Hd.stA (Bs := b.map recT) h2
 have h4 : Hd w0 F0 w ((a ++ b).map recT ++ As) Rs := h3.perm (by rw [List.map_append, ← List.append_assoc]; exact List.perm_append_comm.append_right As)
 exact Hd.stI (Bs := (a ++ b).map recT) h4

def greatSP (set : List Int) (pairs : List Pair) : Bool := decide (20 < (set.length : Int)) || greatP pairs 50
def greatM {α : Type} (x : Two α) : Bool := greatSP x.set x.pairs
def greatA {α : Type} (J : Job) (rs : List Rec) (acts : List (Two α)) (most : Int) : Bool :=
 decide (¬ ((acts.length : Int) ≤ most ∧ ∀ a ∈ acts, greatM a = false)) || greatJ J || greatR rs 20
section
variable {α : Type} {J : Job} {rs : List Rec} {acts : List (Two α)} {most : Int}
theorem greatA_hit {k : Nat} {x : Two α} (hx : acts[k]? = some x) (h : greatM x = true) : true = greatA J rs acts most := by
 unfold greatA
 rw [decide_eq_true (show ¬ ((acts.length : Int) ≤ most ∧ ∀ a ∈ acts, greatM a = false) from fun g => by have := g.2 _ (at_mem hx); rw [h] at this; cases this)]
 rfl
theorem greatA_of (h : greatJ J = true ∨ greatR rs 20 = true) : true = greatA J rs acts most := by
 unfold greatA
 rcases h with h | h <;> rw [h] <;> simp
theorem greatA_end {k : Nat} (hn : ∀ a ∈ acts.take k, greatM a = false) (h : acts.length ≤ k ∨ most < (acts.length : Int)) (h1 : greatJ J = false) (h2 : greatR rs 20 = false) : decide (most < (acts.length : Int)) = greatA J rs acts most := by
 unfold greatA
 rw [h1, h2, Bool.or_false, Bool.or_false]
 by_cases hl : most < (acts.length : Int)
 ·rw [decide_eq_true hl, decide_eq_true (by omega)]
 ·rw [decide_eq_false hl, decide_eq_false]
  intro hh
  refine hh ⟨by omega, ?_⟩
  rw [List.take_of_length_le (h.resolve_right hl)] at hn
  exact hn
theorem greatA_no (h : greatA J rs acts most = false) : ((acts.length : Int) ≤ most ∧ ∀ a ∈ acts, greatM a = false) ∧ greatJ J = false ∧ greatR rs 20 = false := by
 unfold greatA at h
 rw [Bool.or_eq_false_iff, Bool.or_eq_false_iff] at h
 exact ⟨Classical.not_not.1 (of_decide_eq_false h.1.1), h.1.2, h.2⟩
end
/-! ### Lists of structs held against one another -/
theorem snap_ext {a b : SnapP} : a = b ↔ a.why = b.why ∧ a.set = b.set ∧ a.pairs = b.pairs := by
 constructor
 ·rintro rfl; exact ⟨rfl, rfl, rfl⟩
 ·rintro ⟨h1, h2, h3⟩
  cases a; cases b
  simp only at h1 h2 h3
  subst h1 h2 h3
  rfl
instance snapPD (a b : SnapP) : Decidable (a = b) := decidable_of_iff _ snap_ext.symm
theorem map_more {α β γ : Type} {f : α → γ} {g : β → γ} {a : List α} {b : List β} {k : Nat} {x : α} {y : β} (hx : a[k]? = some x) (hy : b[k]? = some y) (e : f x = g y) (h : (a.take k).map f = (b.take k).map g) : (a.take (k + 1)).map f = (b.take (k + 1)).map g := by
 rw [take_snoc hx, take_snoc hy, List.map_append, List.map_append, h]
 simp [e]
theorem map_one {α β γ : Type} {f : α → γ} {g : β → γ} {a : List α} {b : List β} {k : Nat} {x : α} {y : β} (hx : a[k]? = some x) (hy : b[k]? = some y) (e : a.map f = b.map g) : f x = g y := by
 have h := congrArg (·[k]?) e
 simp only [List.getElem?_map, hx, hy, Option.map_some] at h
 exact Option.some.inj h
/-! ### A small configuration -/
def oneR : List Pair := [⟨⟨#[98]⟩, ⟨#[49]⟩⟩]
def small21 (u : Value) : Cf := ⟨⟨[(u, oneR), (nilS, [])], 1, firstP, [], firstP, 1, 1, 9, [1]⟩, 1, 2, 1⟩
theorem small21_may (u : Value) : mayC (small21 u) := by
 refine ⟨⟨(show 1 ≤ ((2 : Nat) : Int) ∧ ((2 : Nat) : Int) ≤ 6 by decide), (show (1 : Int) ≤ 1 ∧ (1 : Int) ≤ 4 by decide), (show 1 ≤ 4 by decide), ?_, ?_, (show 0 < firstP.length ∧ badI firstP < 0 by decide +kernel), (show 0 < firstP.length ∧ badI firstP < 0 by decide +kernel), (show badI [] < 0 by decide +kernel),
  (show (1 : Int) ≤ 1 ∧ (1 : Int) ≤ 7 by decide), (show (1 : Int) ≤ 1 ∧ (1 : Int) ≤ 4 by decide), (show (1 : Int) ≤ 9 ∧ (9 : Int) ≤ 2000 by decide)⟩, (show (1 : Int) ≤ 1 ∧ (1 : Int) ≤ 4 by decide), (show (1 : Int) ≤ 2 ∧ (2 : Int) ≤ 3 by decide), (show (1 : Int) ≤ 1 ∧ (1 : Int) ≤ 50 by decide)⟩
 ·intro x hx
  rcases List.mem_cons.1 hx with rfl | hx
  ·show okSplit oneR
   decide
  ·rw [List.mem_singleton.1 hx]
   show okSplit []
   decide
 ·show marksUp ((2 : Nat) : Int) 0 [1]
  decide
theorem small21_home (u : Value) : homeC (small21 u) 0 ≠ 0 := home_pos (small21_may u) (by decide) (show (0 : Int) < 1 by decide)
def aw0 : Red := newR 2 0 1 []
def aw1 (J : Job) : Red × List RecP := wonR J 2 aw0 1 1 0
def awM : Msg := ⟨2, 0, 1, 0, 0, 0, 0, 0, [], oneR⟩
def aw2 (J : Job) : Red × Msg × List RecP := pushR J (aw1 J).1 awM
def aw3 (J : Job) : Red × List RecP := wonR J 2 (aw2 J).1 0 1 1
theorem aw_job {J : Job} {u : Value} (h : SameJ J (small21 u).J) : ∃ a b, J = ⟨[(a, oneR), (b, [])], 1, firstP, [], firstP, 1, 1, 9, [1]⟩ := by
 obtain ⟨h1, h2⟩ := h
 have hl : J.us.length = 2 := by have := congrArg List.length h1; simpa [small21] using this
 match hu : J.us, hl with
 | [(a, x), (b, y)], _ =>
  rw [hu] at h1
  have h3 : [x, y] = [oneR, []] := h1
  simp only [List.cons.injEq, and_true] at h3
  obtain ⟨rfl, rfl⟩ := h3
  refine ⟨a, b, h2.trans ?_⟩
  rw [hu]
  rfl
theorem aw_all {J : Job} {u : Value} (h : SameJ J (small21 u).J) : (aw1 J).2.length = 2 ∧ (aw2 J).2.1.next = 1 ∧ (aw2 J).2.2.length = 0 ∧ (aw3 J).2.length = 1 ∧ mergedL J.us.length (aw3 J).1 = [0, 1] ∧ (aw3 J).1.sets.length = 1 := by
 obtain ⟨a, b, rfl⟩ := aw_job h
 exact ⟨by kernel_rfl, by kernel_rfl, by kernel_rfl, by kernel_rfl, by kernel_rfl, by kernel_rfl⟩
theorem aw_out {D : Dig} {J : Job} {u : Value} (h : SameJ J (small21 u).J) : (outR D J (aw3 J).1).1 = oneR ∧ (outR D J (aw3 J).1).2.2 = true := by
 have h5 := (aw_all h).2.2.2.2.1
 obtain ⟨a, b, rfl⟩ := aw_job h
 unfold outR
 rw [h5, if_neg (by show ¬ (2 : Nat) < 2; decide)]
 refine ⟨?_, rfl⟩
 unfold ofR
 have e : srt (runsOf ([(a, oneR), (b, [])] : List (Value × List Pair)).length (aw3 ⟨[(a, oneR), (b, [])], 1, firstP, [], firstP, 1, 1, 9, [1]⟩).1 [0, 1]) = oneR := by
  have e1 : runsOf ([(a, oneR), (b, [])] : List (Value × List Pair)).length (aw3 ⟨[(a, oneR), (b, [])], 1, firstP, [], firstP, 1, 1, 9, [1]⟩).1 [0, 1] = oneR := by kernel_rfl
  rw [e1]
  decide
 show (eachM D firstP (srt (runsOf ([(a, oneR), (b, [])] : List (Value × List Pair)).length (aw3 ⟨[(a, oneR), (b, [])], 1, firstP, [], firstP, 1, 1, 9, [1]⟩).1 [0, 1])) 9 false).1 = oneR
 rw [e]
 unfold eachM
 rw [show keysL oneR = [⟨#[98]⟩] from (keys_ref _).trans (by decide)]
 kernel_rfl
theorem aw_ok0 : OkR 0 aw0 := OkR.new (rs := []) fun r h => by cases h
theorem aw_ok {J : Job} (h6 : J.us.length ≤ 6) : OkR 99000 aw0 ∧ OkR 99000 (aw1 J).1 ∧ OkR 99000 (aw2 J).1 ∧ OkR 99000 (aw3 J).1 := by
 have h0 := aw_ok0
 have h1 : OkR 1 (aw1 J).1 := h0.won h6 _ _ _
 have h2 : OkR 2 (aw2 J).1 := h1.push h6 _
 have h3 : OkR 3 (aw3 J).1 := h2.won h6 _ _ _
 exact ⟨h0.mono (by omega), h1.mono (by omega), h2.mono (by omega), h3.mono (by omega)⟩

set_option maxHeartbeats 4000000 in
theorem greatMsg_ok (x : MesH) (xsv : Value) (xse : List Int) (xpv : Value) (xpr : List Pair) :
    Cn Tryz.prog 62 [.agg #[.int .i64 x.kind, .int .i64 x.sp, .int .i64 x.att, .int .i64 x.part, .int .i64 x.seq, .int .i64 x.next, .int .i64 x.ep, .int .i64 x.why, xsv, xpv]] [] [rsl (kInt .i64) xsv xse, rsl kPair xpv xpr] (fun v Bs => v = .bool (greatSP xse xpr) ∧ Bs = []) := by
 intro w0 F0 H
 obtain ⟨A1, c2, rfl, hc3, hm4, hp5⟩ := H.fR 0 rfl
 obtain ⟨A6, c7, rfl, hc8, hm9, hp10⟩ := H.fR 1 rfl
 refine enter Tryz.func62 rfl rfl (Nat.le_of_ble_eq_true rfl) (c_seq (c_reg (s_box rfl rfl rfl rfl H (fun b11 w H => (s_1 rfl (s_nil (q_then ?_)))))))
 replace H : Hd _ _ _ [blk b11 [.int .i64 x.kind, .int .i64 x.sp, .int .i64 x.att, .int .i64 x.part, .int .i64 x.seq, .int .i64 x.next, .int .i64 x.ep, .int .i64 x.why, .slice A1 xse.length c2, .slice A6 xpr.length c7] 64] [rsl (kInt .i64) (.slice A1 xse.length c2) xse, rsl kPair (.slice A6 xpr.length c7) xpr] := H
 refine c_seq (c_reg (s_val rfl rfl (r_fa rfl fo64_8 rfl) (s_val rfl rfl (r_ld rfl ty24 rfl (H.cellI 0 rfl rfl)) (s_val rfl rfl (r_lenL rfl un24 rfl) (s_val rfl rfl (r_gt rfl rfl rfl) (s_1 rfl ?_))))))
 refine s_dec (d := 7) rfl (fun h12 => ?_) (fun h12 => ?_)
 ·refine s_k 5 rfl (s_nil (q_then (c_ret (q_ret1 rfl rfl ?_))))
  replace H := H.nil
  exact fin ⟨by unfold greatSP; rw [decide_eq_true (by omega)]; rfl, rfl⟩ H
 ·refine s_val rfl rfl (r_fa rfl fo64_9 rfl) (s_val rfl rfl (r_ld rfl ty35 rfl (H.cellI 0 rfl rfl)) (sc (greatPairs_ok (.slice A6 xpr.length c7) xpr 50) H (lR 1 rfl l0) rfl rfl (e_fn kn23 rfl rfl) ?_))
  rintro _ _ w ⟨rfl, rfl⟩ H
  refine s_k 2 rfl (s_nil (q_then (c_ret (q_ret1 rfl rfl ?_))))
  replace H := H.nil
  replace H : Hd _ _ _ [] [rsl (kInt .i64) (.slice A1 xse.length c2) xse, rsl kPair (.slice A6 xpr.length c7) xpr] := H
  exact fin ⟨by unfold greatSP; rw [decide_eq_false (by omega)]; rfl, rfl⟩ H
set_option maxHeartbeats 4000000 in
theorem sameSnaps_ok (va : Value) (a : List (Two Int)) (vb : Value) (b : List (Two Int)) :
    Cn Tryz.prog 58 [va, vb] [] [rsl kSnap va a, rsl kSnap vb b] (fun v Bs => v = .bool (decide (a.map snapP = b.map snapP)) ∧ Bs = []) := by
 intro w0 F0 H
 obtain ⟨A1, c2, rfl, hc3, hm4, hp5⟩ := H.fR 0 rfl
 obtain ⟨A6, c7, rfl, hc8, hm9, hp10⟩ := H.fR 1 rfl
 refine enter Tryz.func58 rfl rfl (Nat.le_of_ble_eq_true rfl) (c_seq (c_reg (s_1 rfl (s_nil (q_then ?_)))))
 replace H : Hd _ _ _ [] [rsl kSnap (.slice A1 a.length c2) a, rsl kSnap (.slice A6 b.length c7) b] := H
 refine c_seq (c_seq (c_reg (s_1 rfl (s_val rfl rfl (r_lenL rfl un94 rfl) (s_1 rfl (s_val rfl rfl (r_lenL rfl un94 rfl) (s_val rfl rfl (r_ne rfl rfl rfl) (s_nil (q_then ?_)))))))))
 refine c_dec rfl (fun h11 => ?_) (fun h11 => ?_)
 ·refine c_seq (c_reg (s_1 rfl (s_nil (q_then (c_ret (q_thenR (q_ret1 rfl rfl ?_)))))))
  have e : ¬ a.map snapP = b.map snapP := fun e => by have := congrArg List.length e; rw [List.length_map, List.length_map] at this; omega
  exact fin ⟨by rw [decide_eq_false e] <;> rfl, rfl⟩ H
 ·refine c_skip (q_then (c_seq (c_seq (c_reg (s_1 rfl (s_nil (q_then (c_block ?_))))))))
  have hle : a.length = b.length := by omega
  refine c_loop (σ := Nat) (fun k => [(0, .slice A1 a.length c2), (1, .slice A6 b.length c7), (5, .int .i64 ((k : Nat) : Int))]) (fun k w => (Hd w0 F0 w [] [rsl kSnap (.slice A1 a.length c2) a, rsl kSnap (.slice A6 b.length c7) b]) ∧ (k ≤ a.length) ∧ (a.length = b.length) ∧ ((a.take k).map snapP = (b.take k).map snapP)) (fun k => a.length - k) 0 ⟨rfl, rfl, rfl, trivial⟩ ⟨H, by omega, hle, rfl⟩ ?_
  rintro k w ⟨H, hk, hle, ht⟩
  refine c_seq (c_seq (c_reg (s_k 2 rfl (s_val rfl rfl (r_lenL rfl un94 rfl) (s_val rfl rfl (r_lt rfl rfl rfl) (s_nil (q_then ?_)))))))
  refine c_dec rfl (fun h12 => ?_) (fun h12 => ?_)
  ·refine c_skip (q_then (c_seq (c_block (c_seq (c_ord (.e 0 (.e 1 (.e 2 (.e 3 (.e 4 (.e 5 (.e 6 (.e 7 (.e 8 (.e 9 (.e 10 (.e 11 (.e 12 (.e 13 (.e 14 (.e 15 (.e 16 (.e 17 (.e 18 (.e 19 (.e 20 (.e 21 (.m 22 (.e 23 (.e 24 (.e 25 (.e 26 (.e 27 (.e 28 (.e 29 (.e 30 (.e 31 (.e 32 (.e 33 (.e 34 (.e 35 (.m 36 (.e 37 (.e 38 .z))))))))))))))))))))))))))))))))))))))) (fun w => ∃ Ar, Hd w0 F0 w (Ar) [rsl kSnap (.slice A1 a.length c2) a, rsl kSnap (.slice A6 b.length c7) b]) mo (by kernel_rfl) (fun w H => ⟨_, H⟩) H (fun w H => (d_1 rfl (d_1 rfl ?_))))))))
   obtain ⟨⟨a15, sv16, se17, pv18, pr19⟩, hx14⟩ : ∃ z9, a[k]? = some z9 := ⟨_, List.getElem?_eq_getElem (show k < a.length by omega)⟩
   obtain ⟨A20, c21, A22, c23, rfl, rfl, m24, m25, m26, m27⟩ := H.nestRt 0 rfl hx14
   have th28 := H.thRt 0 rfl hx14
   refine d_val rfl rfl rfl (fun w ⟨Ar, H⟩ => r_iaE (p := oOf A1 + k * 3) rfl sl94 rfl rfl (by omega) (by omega) th28 rfl) (d_val rfl rfl rfl (fun w ⟨Ar, H⟩ => r_fa rfl fo195_1 rfl) (d_val rfl rfl rfl (fun w ⟨Ar, H⟩ => r_ld rfl ty3 rfl (H.elRt 0 rfl hx14 (q := 1) rfl rfl)) (d_1 rfl (d_1 rfl ?_))))
   obtain ⟨⟨a31, sv32, se33, pv34, pr35⟩, hx30⟩ : ∃ z9, b[k]? = some z9 := ⟨_, List.getElem?_eq_getElem (show k < b.length by omega)⟩
   obtain ⟨A36, c37, A38, c39, rfl, rfl, m40, m41, m42, m43⟩ := H.nestRt 1 rfl hx30
   have th44 := H.thRt 1 rfl hx30
   refine d_val rfl rfl rfl (fun w ⟨Ar, H⟩ => r_iaE (p := oOf A6 + k * 3) rfl sl94 rfl rfl (by omega) (by omega) th44 rfl) (d_val rfl rfl rfl (fun w ⟨Ar, H⟩ => r_fa rfl fo195_1 rfl) (d_val rfl rfl rfl (fun w ⟨Ar, H⟩ => r_ld rfl ty3 rfl (H.elRt 1 rfl hx30 (q := 1) rfl rfl)) (d_val rfl rfl rfl (fun w ⟨Ar, H⟩ => r_ne rfl rfl rfl) (d_1 rfl ?_))))
   refine d_dec (d := 28) rfl (fun h45 => ?_) (fun h45 => ?_)
   ·refine d_1 rfl (d_1 rfl (d_1 rfl (d_1 rfl (d_1 rfl (d_1 rfl (d_1 rfl (d_1 rfl (d_1 rfl (d_1 rfl (d_mno rfl ⟨_, H⟩ rfl rfl (d_1 rfl (d_1 rfl (d_1 rfl (d_1 rfl (d_1 rfl (d_1 rfl (d_1 rfl (d_1 rfl (d_1 rfl (d_1 rfl (d_1 rfl (d_1 rfl (d_1 rfl (d_mno rfl ⟨_, H⟩ rfl rfl (d_1 rfl (d_1 rfl (d_nil (q_then (c_yes rfl (c_seq (c_reg (s_1 rfl (s_nil (q_then (c_ret (q_blockR (q_thenR (q_thenR (q_blockR (q_thenR (q_ret1 rfl rfl ?_)))))))))))))))))))))))))))))))))))))))))
    have e : ¬ a.map snapP = b.map snapP := fun e => by obtain ⟨g1, g2, g3⟩ := snap_ext.1 (map_one hx14 hx30 e); first | exact absurd g1 h45 | exact absurd g2 h45 | exact absurd g3 h45
    replace H : Hd _ _ _ [] [rsl kSnap (.slice A1 a.length c2) a, rsl kSnap (.slice A6 b.length c7) b] := H
    exact fin ⟨by rw [decide_eq_false e] <;> rfl, rfl⟩ H
   ·refine d_1 rfl (d_1 rfl ?_)
    have th46 := H.thRt 0 rfl hx14
    refine d_val rfl rfl rfl (fun w ⟨Ar, H⟩ => r_iaE (p := oOf A1 + k * 3) rfl sl94 rfl rfl (by omega) (by omega) th46 rfl) (d_val rfl rfl rfl (fun w ⟨Ar, H⟩ => r_fa rfl fo195_0 rfl) (d_val rfl rfl rfl (fun w ⟨Ar, H⟩ => r_ld rfl ty24 rfl (H.elRt 0 rfl hx14 (q := 0) rfl rfl)) (d_1 rfl (d_1 rfl ?_))))
    have th47 := H.thRt 1 rfl hx30
    refine d_val rfl rfl rfl (fun w ⟨Ar, H⟩ => r_iaE (p := oOf A6 + k * 3) rfl sl94 rfl rfl (by omega) (by omega) th47 rfl) (d_val rfl rfl rfl (fun w ⟨Ar, H⟩ => r_fa rfl fo195_0 rfl) (d_val rfl rfl rfl (fun w ⟨Ar, H⟩ => r_ld rfl ty24 rfl (H.elRt 1 rfl hx30 (q := 0) rfl rfl)) (d_main rfl (sc (sameInts_ok (.slice A20 se17.length c21) (.slice A36 se33.length c37) se17 se33) H (lX (fun F hA hR => tw_set (hR _ (List.mem_of_getElem? (i := 0) rfl)) hx14) (lX (fun F hA hR => tw_set (hR _ (List.mem_of_getElem? (i := 1) rfl)) hx30) l0)) rfl rfl (e_fn kn33 rfl rfl) ?_))))
    rintro _ _ w ⟨rfl, rfl⟩ H
    refine d_back ⟨_, H⟩ (d_val rfl rfl rfl (fun w ⟨Ar, H⟩ => r_notP rfl rfl) (d_1 rfl (d_1 rfl ?_)))
    refine d_dec (d := 42) rfl (fun h48 => ?_) (fun h48 => ?_)
    ·refine d_1 rfl (d_1 rfl (d_1 rfl (d_1 rfl (d_1 rfl (d_1 rfl (d_1 rfl (d_1 rfl (d_1 rfl (d_1 rfl (d_mno rfl ⟨_, H⟩ rfl rfl (d_1 rfl (d_1 rfl (d_nil (q_then (c_yes rfl (c_seq (c_reg (s_1 rfl (s_nil (q_then (c_ret (q_blockR (q_thenR (q_thenR (q_blockR (q_thenR (q_ret1 rfl rfl ?_)))))))))))))))))))))))))))
     have e : ¬ a.map snapP = b.map snapP := fun e => by obtain ⟨g1, g2, g3⟩ := snap_ext.1 (map_one hx14 hx30 e); first | exact absurd g1 h48 | exact absurd g2 h48 | exact absurd g3 h48
     replace H : Hd _ _ _ [] [rsl kSnap (.slice A1 a.length c2) a, rsl kSnap (.slice A6 b.length c7) b] := H
     exact fin ⟨by rw [decide_eq_false e] <;> rfl, rfl⟩ H
    ·refine d_1 rfl (d_1 rfl ?_)
     have th49 := H.thRt 0 rfl hx14
     refine d_val rfl rfl rfl (fun w ⟨Ar, H⟩ => r_iaE (p := oOf A1 + k * 3) rfl sl94 rfl rfl (by omega) (by omega) th49 rfl) (d_val rfl rfl rfl (fun w ⟨Ar, H⟩ => r_fa rfl fo195_2 rfl) (d_val rfl rfl rfl (fun w ⟨Ar, H⟩ => r_ld rfl ty35 rfl (H.elRt 0 rfl hx14 (q := 2) rfl rfl)) (d_1 rfl (d_1 rfl ?_))))
     have th50 := H.thRt 1 rfl hx30
     refine d_val rfl rfl rfl (fun w ⟨Ar, H⟩ => r_iaE (p := oOf A6 + k * 3) rfl sl94 rfl rfl (by omega) (by omega) th50 rfl) (d_val rfl rfl rfl (fun w ⟨Ar, H⟩ => r_fa rfl fo195_2 rfl) (d_val rfl rfl rfl (fun w ⟨Ar, H⟩ => r_ld rfl ty35 rfl (H.elRt 1 rfl hx30 (q := 2) rfl rfl)) (d_main rfl (sc (samePairs_ok (.slice A22 pr19.length c23) (.slice A38 pr35.length c39) pr19 pr35) H (lX (fun F hA hR => tw_pairs (hR _ (List.mem_of_getElem? (i := 0) rfl)) hx14) (lX (fun F hA hR => tw_pairs (hR _ (List.mem_of_getElem? (i := 1) rfl)) hx30) l0)) rfl rfl (e_fn kn25 rfl rfl) ?_))))
     rintro _ _ w ⟨rfl, rfl⟩ H
     refine d_back ⟨_, H⟩ (d_val rfl rfl rfl (fun w ⟨Ar, H⟩ => r_notP rfl rfl) (d_1 rfl (d_nil (q_then ?_))))
     refine c_dec rfl (fun h51 => ?_) (fun h51 => ?_)
     ·refine c_seq (c_reg (s_1 rfl (s_nil (q_then (c_ret (q_blockR (q_thenR (q_thenR (q_blockR (q_thenR (q_ret1 rfl rfl ?_)))))))))))
      have e : ¬ a.map snapP = b.map snapP := fun e => by obtain ⟨g1, g2, g3⟩ := snap_ext.1 (map_one hx14 hx30 e); first | exact absurd g1 h51 | exact absurd g2 h51 | exact absurd g3 h51
      replace H : Hd _ _ _ [] [rsl kSnap (.slice A1 a.length c2) a, rsl kSnap (.slice A6 b.length c7) b] := H
      exact fin ⟨by rw [decide_eq_false e] <;> rfl, rfl⟩ H
     ·refine c_skip (q_blockN (q_then (c_reg (s_1 rfl (s_val rfl rfl (r_add (z := ((k + 1 : Nat) : Int)) rfl rfl rfl (by rw [w64 (by omega) (by omega)]; omega)) (s_1 rfl (s_nil ?_)))))))
      have e3 : snapP (⟨a15, .slice A20 se17.length c21, se17, .slice A22 pr19.length c23, pr19⟩ : Two Int) = snapP (⟨a31, .slice A36 se33.length c37, se33, .slice A38 pr35.length c39, pr35⟩ : Two Int) := snap_ext.2 ⟨by first | assumption | exact Classical.not_not.1 (by assumption), by first | assumption | exact Classical.not_not.1 (by assumption), by first | assumption | exact Classical.not_not.1 (by assumption)⟩
      exact q_round (s := k) (k + 1) ⟨rfl, rfl, rfl, trivial⟩ ⟨H, by (try dsimp only); omega, hle, map_more hx14 hx30 e3 ht⟩ (by (try dsimp only); omega)
  ·refine c_exit (q_thenE (q_thenE (q_blockE (q_then (c_seq (c_reg (s_1 rfl (s_nil (q_then (c_ret (q_ret1 rfl rfl ?_)))))))))))
   have e : a.map snapP = b.map snapP := by rw [← take_all (xs := a) (k := k) (by omega), ← take_all (xs := b) (k := k) (by omega)]; exact ht
   exact fin ⟨by rw [decide_eq_true e] <;> rfl, rfl⟩ H

section
variable {P : Program} {ops : Array Oper} {Q : Exit → Act → World → Prop} {rest : List Oper} {n : Nat} {l : Env} {w0 w : World} {F0 : Foot} {o : Oper} {As Rs : List SP} {x y : Operand} {t ti : TypeId}
theorem run_appZ {e size bytes : Nat} {ty : TypeId} {z : Value} {m : Nat} (hs : slOf P t = some (e, size, bytes)) (hz : zrOf P e = some z) (hzs : z.cells.size = size) (hsp : 0 < size) (hb0 : 0 < bytes) (hti : P.underlying ti = some (.int .i64)) (hm : 0 < m) (hb : m * bytes ≤ 140737488355328) :
  ∃ A c w' C, (Builtin.append_ #[t, ti] ty #[.slice none 0 0, .int .i64 (m : Int)]).run P w = .ok (.slice (some A) m c) w' ∧ A = ⟨w.heap.size, 0, none⟩ ∧ m ≤ c ∧ c ≤ 9223372036854775807 ∧ w' = w.drew.alloc (.cells C e) ∧ C.size = c * size := by
 obtain ⟨hu, i, hi, rfl, rfl⟩ := slOf_spec hs
 obtain ⟨i', hi', hz'⟩ := Option.bind_eq_some_iff.1 hz
 rw [hi] at hi'
 cases hi'
 have hsmall : m ≤ 140737488355328 := Nat.le_trans (Nat.le_mul_of_pos_right _ hb0) hb
 have hw : IntKind.i64.wrap (m : Int) = (m : Int) := w64 (by omega) (by omega)
 have hng : ¬ ((m : Int) < 0) := by omega
 have hb2 : ¬ ((m : Int) * (i.bytes : Int) > 2 ^ 48) := by
  have : ((m * i.bytes : Nat) : Int) ≤ 140737488355328 := by omega
  rw [Int.natCast_mul] at this
  omega
 have hfit : ¬ 281474976710656 < Builtin.nextslicecap m 0 * i.bytes := by
  have := growslice_fits (need := m) (old := 0) (bytes := i.bytes) (by omega) hb
  omega
 have hge := grownCap_ge w m 0 e
 have hle : grownCap w m 0 e ≤ 9223372036854775807 := by
  have := grownCap_le_maxLen w m 0 e (by simp only [maxLen]; omega)
  simpa [maxLen] using this
 have hms : ¬ (m * i.size = 0) := by have := Nat.mul_pos hm hsp; omega
 have hb3 : ¬ (281474976710656 < (m : Int) * (i.bytes : Int)) := by omega
 have hm0 : ¬ (m = 0) := by omega
 have hbz : ¬ i.bytes = 0 := by omega
 have hbig' : ¬ (9223372036854775807 < (m : Int)) := by omega
 refine ⟨⟨w.heap.size, 0, none⟩, grownCap w m 0 e, w.drew.alloc (.cells (Builtin.zeroCells z.cells m ++ Builtin.zeroCells z.cells (grownCap w m 0 e - m)) e), Builtin.zeroCells z.cells m ++ Builtin.zeroCells z.cells (grownCap w m 0 e - m), ?_, rfl, hge, hle, rfl, ?_⟩
 ·simp [Builtin.append_, run_underlying hu, run_underlying hti, sizeOf, zeroValue, typeInfo, hi, hz', hw, hng, hb3, asInt, asIntOf, hms, hm0, hfit, hbz, hbig', newRow, grownCap, Question.forced, Builtin.firstCells]
 ·simp only [Array.size_append, size_zeroCells, hzs, ← Nat.add_mul]
  congr 1
  omega
theorem s_appZ {α : Type} (d : Kd α) {e bytes : Nat} {z : Value} {m : Nat} (hg : gd ops l o = some true) (hd : dok n o.dst = true) (ho : o.op = .call { callee := .builtin .append, args := #[x, y], argTypes := #[t, ti] }) (hs : slOf P t = some (e, d.sz, bytes)) (hz : zrOf P e = some z) (hzs : z.cells.size = d.sz) (hb0 : 0 < bytes) (hti : P.underlying ti = some (.int .i64))
  (hx : ev l x = some (.slice none 0 0)) (hy : ev l y = some (.int .i64 (m : Int))) (hm : 0 < m) (hb : m * bytes ≤ 140737488355328) (H : Hd w0 F0 w As Rs)
  (h : ∀ A c w', m ≤ c → Hd w0 F0 w' (osl d (.slice A 0 c) [] :: As) Rs → WL P ops Q rest n (upO l o.dst (.slice A m c)) w') : WL P ops Q (o :: rest) n l w := by
 obtain ⟨A, c, w', C, hrun, rfl, h1, h2, rfl, hC⟩ := run_appZ (P := P) (w := w) (ty := o.type) hs hz hzs d.pos hb0 hti hm hb
 refine s_val hg hd (v := .slice (some ⟨w.heap.size, 0, none⟩) m c) (fun a ha => ?_) (h _ _ _ h1 (H.new (F' := fun k => k = w.heap.size) ?_ ⟨_, 0, c, rfl, rfl, [], fun k => k = w.heap.size, none_, fun _ q => q, fun _ q => q.elim, fun _ _ q => q, ⟨Nat.zero_le _, h2, by simp, .inr ⟨w.heap.size, C, e, rfl, rfl, heap_alloc_new w.drew _, hC, by simp⟩⟩, rfl⟩ ?_))
 ·simp [execOp, ho, resolve, ha.eval hx, ha.eval hy, invoke, builtin, hrun]
 ·exact (Upd.drewN none_ w 1).trans (Upd.alloc none_ w.drew _) fun _ _ q => q
 ·intro k hk
  subst hk
  simp
end
section
variable {w0 w : World} {F0 : Foot} {As Rs : List SP} {t sb mb : Nat} {st : Stg} {kvs : List StE} {k : Int × Int} {v : Value} {us : List (Value × List Pair)}
theorem setK_setK {κ : Type} [DecidableEq κ] {k : κ} {u v : Value} : ∀ kvs : List (κ × Value), setK k v (setK k u kvs) = setK k v kvs
 | [] => by simp [setK]
 | p :: r => by
  by_cases h : p.1 = k
  ·simp [setK, h]
  ·simp [setK, h, setK_setK r]
theorem Hd.stgOpen (k : Int × Int) (H : Hd w0 F0 w (stgI t sb st :: As) Rs) : ∃ mb kvs v us, kvs.map stE = st ∧ NodK (kvs.map stV) ∧ stW k kvs = (v, us) ∧ (lookK k (kvs.map stV)).getD nilS = v ∧ us.map (·.2) = sgOf st k.1 k.2 ∧
  Hd w0 F0 w (blk sb [.map (some mb)] t :: mapK key2 mb (kvs.map stV) :: osl (kHd kPair) v us :: bigS stO (stK k kvs) :: As) Rs := by
 obtain ⟨mb, kvs, he, hn, H1⟩ := H.stgA
 have H2 := (show Hd w0 F0 w (bigS stO kvs :: blk sb [.map (some mb)] t :: mapK key2 mb (kvs.map stV) :: As) Rs from H1.perm (((List.Perm.swap _ _ _).cons _).trans (List.Perm.swap _ _ _))).stgO k hn
 refine ⟨mb, kvs, (stW k kvs).1, (stW k kvs).2, he, hn, rfl, stW_look kvs, by rw [stW_of, he], ?_⟩
 exact H2.perm (List.perm_append_comm (l₁ := [osl (kHd kPair) (stW k kvs).1 (stW k kvs).2, bigS stO (stK k kvs)]) (l₂ := [blk sb [.map (some mb)] t, mapK key2 mb (kvs.map stV)]) |>.append_right As)
theorem Hd.stgShut (he : kvs.map stE = st) (hn : NodK (kvs.map stV)) (hw : stW k kvs = (v, us)) (H : Hd w0 F0 w (blk sb [.map (some mb)] t :: mapK key2 mb (kvs.map stV) :: osl (kHd kPair) v us :: bigS stO (stK k kvs) :: As) Rs) : Hd w0 F0 w (stgI t sb st :: As) Rs := by
 have H1 : Hd w0 F0 w (osl (kHd kPair) (stW k kvs).1 (stW k kvs).2 :: bigS stO (stK k kvs) :: blk sb [.map (some mb)] t :: mapK key2 mb (kvs.map stV) :: As) Rs := by
  rw [hw]
  exact H.perm ((List.perm_append_comm (l₁ := [blk sb [.map (some mb)] t, mapK key2 mb (kvs.map stV)]) (l₂ := [osl (kHd kPair) v us, bigS stO (stK k kvs)])).append_right As)
 exact Hd.stgC he ((Hd.stgI0 hn H1).perm ((List.Perm.swap _ _ _).trans ((List.Perm.swap _ _ _).cons _)))
theorem Hd.stgPut {x : List Pair} {v' : Value} {us' : List (Value × List Pair)} (he : kvs.map stE = st) (hn : NodK (kvs.map stV)) (ho : us.map (·.2) = sgOf st k.1 k.2) (hu : us'.map (·.2) = us.map (·.2) ++ [x])
  (H : Hd w0 F0 w (blk sb [.map (some mb)] t :: mapK key2 mb (setK k v' (kvs.map stV)) :: osl (kHd kPair) v' us' :: bigS stO (stK k kvs) :: As) Rs) : Hd w0 F0 w (stgI t sb (sgAdd st k.1 k.2 x) :: As) Rs := by
 have H1 := Hd.stgI_ hn (H.perm ((List.perm_append_comm (l₁ := [blk sb [.map (some mb)] t, mapK key2 mb (setK k v' (kvs.map stV))]) (l₂ := [osl (kHd kPair) v' us', bigS stO (stK k kvs)])).append_right As))
 refine Hd.stgC (kvs := setE k (v', us') kvs) ?_ ((?_ : Hd w0 F0 w (bigS stO (setE k (v', us') kvs) :: blk sb [.map (some mb)] t :: mapK key2 mb ((setE k (v', us') kvs).map stV) :: As) Rs).perm ((List.Perm.swap _ _ _).trans ((List.Perm.swap _ _ _).cons _)))
 ·rw [setE_E, he]
  show sgSet st k (us'.map (·.2)) = _
  rw [hu, ho, sgSet_add]
 ·rw [setE_V]
  exact H1
theorem stK_V (k : Int × Int) (kvs : List StE) : delK k (kvs.map stV) = (stK k kvs).map stV := by
 unfold delK stK
 rw [List.filter_map]
 rfl
theorem Hd.stgX (k : Int × Int) (hn : NodK (kvs.map stV)) (H : Hd w0 F0 w (bigS stO kvs :: As) Rs) : Hd w0 F0 w (bigS stO (stK k kvs) :: As) Rs := (H.stgO k hn).drop
def offS (a : Int) (kvs : List StE) : List StE := kvs.filter fun e => decide (e.1.1 ≠ a)
theorem off_E (a : Int) (kvs : List StE) : (offS a kvs).map stE = sgDrop (kvs.map stE) a := by
 unfold offS sgDrop
 rw [List.filter_map]
 rfl
theorem off_del {a : Int} {kvs : List StE} {k : Int × Int} (hk : k.1 = a) : offS a (stK k kvs) = offS a kvs := by
 unfold offS stK
 rw [List.filter_filter]
 refine List.filter_congr fun e _ => ?_
 by_cases h : e.1.1 = a
 ·simp [h]
 ·have : e.1 ≠ k := fun h2 => h (by rw [h2, hk])
  simp [h, this]
theorem off_all {a : Int} {kvs : List StE} (h : ∀ e ∈ kvs, e.1.1 ≠ a) : offS a kvs = kvs := List.filter_eq_self.2 fun e he => decide_eq_true (h e he)
def unS (kvs : List StE) (ps : List (Nat × (Int × Int))) : Nat := (kvs.filter fun e => decide (e.1 ∉ ps.map (fun q => q.2))).length
theorem un_next {kvs kvs2 : List StE} {ps : List (Nat × (Int × Int))} {p : (Int × Int) × Value} {s : Nat} (hp : p ∈ kvs.map stV) (hn : p.1 ∉ ps.map (fun q => q.2)) (h2 : kvs2 = kvs ∨ kvs2 = stK p.1 kvs) : unS kvs2 (ps ++ [(s, p.1)]) < unS kvs ps := by
 have hsub : kvs2.Sublist kvs := by
  rcases h2 with rfl | rfl
  ·exact List.Sublist.refl _
  ·exact List.filter_sublist
 have h1 : unS kvs2 (ps ++ [(s, p.1)]) ≤ unS kvs (ps ++ [(s, p.1)]) := (hsub.filter _).length_le
 have h3 : unS kvs (ps ++ [(s, p.1)]) < unS kvs ps := by
  obtain ⟨e, he, rfl⟩ := List.mem_map.1 hp
  unfold unS
  have e1 : (kvs.filter fun e' => decide (e'.1 ∉ (ps ++ [(s, (stV e).1)]).map (fun q => q.2))) = ((kvs.filter fun e' => decide (e'.1 ∉ ps.map (fun q => q.2))).filter fun e' => decide (e'.1 ≠ e.1)) := by
   rw [List.filter_filter]
   refine List.filter_congr fun x _ => ?_
   rw [← Bool.decide_and]
   exact decide_eq_decide.2 (by rw [List.map_append, List.mem_append, not_or, and_comm]; simp [stV])
  rw [e1]
  refine List.length_filter_lt_length_iff_exists.2 ⟨e, List.mem_filter.2 ⟨he, decide_eq_true hn⟩, by simp⟩
 omega
def seenS (a : Int) (kvs : List StE) (ps : List (Nat × (Int × Int))) : Prop := ∀ e ∈ kvs, e.1 ∈ ps.map (fun q => q.2) → e.1.1 ≠ a
theorem seen_keep {a : Int} {kvs : List StE} {ps : List (Nat × (Int × Int))} {k : Int × Int} {s : Nat} (h : seenS a kvs ps) (hk : k.1 ≠ a) : seenS a kvs (ps ++ [(s, k)]) := by
 intro e he hm
 rw [List.map_append, List.mem_append] at hm
 rcases hm with hm | hm
 ·exact h e he hm
 ·rw [show e.1 = k by simpa using hm]; exact hk
theorem seen_del {a : Int} {kvs : List StE} {ps : List (Nat × (Int × Int))} {k : Int × Int} {s : Nat} (h : seenS a kvs ps) : seenS a (stK k kvs) (ps ++ [(s, k)]) := by
 intro e he hm
 obtain ⟨he1, he2⟩ := List.mem_filter.1 he
 rw [List.map_append, List.mem_append] at hm
 rcases hm with hm | hm
 ·exact h e he1 hm
 ·exact absurd (by simpa using hm) (of_decide_eq_true he2)
theorem seen_end {a : Int} {kvs : List StE} {ps : List (Nat × (Int × Int))} (h : seenS a kvs ps) (hall : ∀ p ∈ kvs.map stV, p.1 ∈ ps.map (fun q => q.2)) : offS a kvs = kvs := off_all fun e he => h e he (hall (stV e) (List.mem_map.2 ⟨e, he, rfl⟩))
end

set_option maxHeartbeats 4000000 in
theorem grow0_ok (m : Nat) (hm : m ≤ 1000000) :
    Cn Tryz.prog 216 [.slice none 0 0, .int .i64 ((m : Nat) : Int)] [] [] (fun v Bs => Bs = [osl kPair v []]) := by
 intro w0 F0 H
 refine enter Tryz.func216 rfl rfl (Nat.le_of_ble_eq_true rfl) (c_seq (c_reg (s_1 rfl (s_nil (q_then (c_seq (c_seq (c_reg (s_1 rfl (s_val rfl rfl (r_lt rfl rfl rfl) (s_nil (q_then ?_))))))))))))
 refine c_dec rfl (fun h1 => ?_) (fun h1 => ?_)
 ·exfalso; omega
 ·refine c_skip (q_then (c_seq (c_seq (c_reg (s_k 2 rfl (s_val rfl rfl (r_capL rfl un35 rfl) (s_1 rfl (s_val rfl rfl (r_lenL rfl un35 rfl) (s_val rfl rfl (r_sub (z := 0) rfl rfl rfl rfl) (s_val rfl rfl (r_sub (z := (m : Int)) rfl rfl rfl ((congrArg IntKind.i64.wrap (Int.sub_zero _)).trans (w64 (by omega) (by omega)))) (s_1 rfl (s_nil (q_then (c_seq (c_reg (s_1 rfl (s_val rfl rfl (r_gt rfl rfl rfl) (s_nil (q_then ?_)))))))))))))))))))
  refine c_dec rfl (fun h2 => ?_) (fun h2 => ?_)
  ·refine c_reg (s_k 2 rfl (s_val rfl rfl (r_capL rfl un35 rfl) (s_val rfl rfl (r_cutP rfl sl35 rfl rfl (by omega) (by omega) rfl) (s_1 rfl (s_appZ kPair rfl rfl rfl sl35 zr106 rfl (by decide) un3 rfl rfl (by omega) (by omega) H (fun A3 c4 w hc5 H => (s_1 rfl (s_val rfl rfl (r_lenL rfl un35 rfl) (s_val rfl rfl (r_cutP rfl sl35 rfl rfl (by omega) (by omega) rfl) (s_1 rfl (s_nil (q_then ?_))))))))))))
   replace H : Hd _ _ _ [osl kPair (.slice A3 0 c4) []] [] := H
   exact c_seq (c_reg (s_k 2 rfl (s_nil (q_then (c_ret (q_ret1 rfl rfl (fin rfl H)))))))
  ·refine c_skip (q_then (c_seq (c_reg (s_k 2 rfl (s_nil (q_then (c_ret (q_ret1 rfl rfl ?_))))))))
   replace H := H.newnil kPair
   replace H : Hd _ _ _ [osl kPair (.slice none 0 0) []] [] := H
   exact fin rfl H
set_option maxHeartbeats 4000000 in
theorem concat_ok (vus : Value) (us : List (Value × List Pair)) (hb : (flat2 us).length ≤ 1000000) (hul : us.length ≤ 1000000) :
    Cn Tryz.prog 179 [vus] [] [rsl (kHd kPair) vus us] (fun v Bs => Bs = [osl kPair v (flat2 us)]) := by
 intro w0 F0 H
 obtain ⟨A1, c2, rfl, hc3, hm4, hp5⟩ := H.fR 0 rfl
 refine enter Tryz.func179 rfl rfl (Nat.le_of_ble_eq_true rfl) (c_seq (c_reg (s_1 rfl (s_nil (q_then ?_)))))
 replace H : Hd _ _ _ [] [rsl (kHd kPair) (.slice A1 us.length c2) us] := H
 refine c_seq (c_reg (s_1 rfl (s_nil (q_then (c_seq (c_seq (c_reg (s_1 rfl (s_val rfl rfl (r_lenL rfl un22 rfl) (s_1 rfl (s_nil (q_then (c_block (c_loop (σ := Nat) (fun i => [(0, .slice A1 us.length c2), (2, .slice none 0 0), (3, .int .i64 (((flat2 (us.take i)).length : Nat) : Int)), (9, .slice A1 us.length c2), (10, .int .i64 ((us.length : Nat) : Int)), (11, .int .i64 ((i : Nat) : Int))]) (fun i w => (Hd w0 F0 w [] [rsl (kHd kPair) (.slice A1 us.length c2) us]) ∧ (i ≤ us.length)) (fun i => us.length - i) 0 ⟨rfl, rfl, rfl, rfl, rfl, rfl, trivial⟩ ⟨H, Nat.zero_le _⟩ ?_))))))))))))))
 rintro i w ⟨H, hi⟩
 have hfl := flat2_le us i
 refine c_seq (c_reg (s_val rfl rfl (r_lt rfl rfl rfl) (s_nil (q_then (c_seq ?_)))))
 refine c_dec rfl (fun h6 => ?_) (fun h6 => ?_)
 ·refine c_skip (q_then (c_seq (c_block (c_seq (c_reg ?_)))))
  obtain ⟨⟨u9, x7⟩, hx8⟩ : ∃ z9, us[i]? = some z9 := ⟨_, List.getElem?_eq_getElem (show i < us.length by omega)⟩
  obtain ⟨A10, c11, rfl, hc12, hm13⟩ := H.nestR 0 rfl hx8
  have th14 := H.thRd 0 rfl hx8
  refine s_val rfl rfl (r_iaE (p := oOf A1 + i * 1) rfl sl22 rfl rfl (by omega) (by omega) th14 rfl) (s_val rfl rfl (r_ld rfl ty35 rfl (H.elRd 0 rfl hx8 rfl)) (s_1 rfl (s_nil (q_then (c_seq ?_)))))
  have hf0 := flat2_le us (i + 1)
  rw [flat2_step hx8, List.length_append] at hf0
  refine c_reg (s_k 2 rfl (s_val rfl rfl (r_lenL rfl un35 rfl) (s_val rfl rfl (r_add (z := (((flat2 (us.take i)).length + x7.length : Nat) : Int)) rfl rfl rfl (by rw [w64 (by omega) (by omega)]; omega)) (s_1 rfl (s_nil (q_then (c_seq (c_reg (s_1 rfl (s_val rfl rfl (r_lt rfl rfl rfl) (s_nil (q_then ?_))))))))))))
  refine c_dec rfl (fun h15 => ?_) (fun h15 => ?_)
  ·exfalso; omega
  ·refine c_skip (q_blockN (q_then (c_reg (s_val rfl rfl (r_add (z := ((i + 1 : Nat) : Int)) rfl rfl rfl (by rw [w64 (by omega) (by omega)]; omega)) (s_1 rfl (s_nil ?_))))))
   have hf1 := flat2_step hx8
   have hf2 : (flat2 (us.take (i + 1))).length = (flat2 (us.take i)).length + x7.length := by rw [hf1, List.length_append]
   exact q_round (s := i) (i + 1) ⟨rfl, rfl, (by (try dsimp only); rw [hf2]; first | rfl | (congr 2; omega)), rfl, rfl, rfl, trivial⟩ ⟨H, by (try dsimp only); omega⟩ (by (try dsimp only); omega)
 ·refine c_exit (q_thenE (q_thenE (q_blockE (q_then (c_seq ?_)))))
  have hfl2 := flat2_le us i
  refine c_reg (s_1 rfl (sc (grow0_ok ((flat2 (us.take i)).length) (by first | assumption | omega)) H l0 rfl rfl (e_fn kn216 rfl rfl) ?_))
  rintro v16 _ w rfl H
  replace H := H.h1 (A := osl kPair v16 [])
  refine s_1 rfl (s_nil (q_then (c_seq (c_seq (c_reg (s_1 rfl (s_val rfl rfl (r_lenL rfl un22 rfl) (s_1 rfl (s_nil (q_then (c_block ?_)))))))))))
  replace H := H.h1 (A := osl kPair v16 (flat2 (us.take 0)))
  refine c_loop (σ := Nat × Value) (fun (j, q) => [(2, .slice none 0 0), (6, q), (25, .slice A1 us.length c2), (26, .int .i64 ((us.length : Nat) : Int)), (27, .int .i64 ((j : Nat) : Int))]) (fun (j, q) w => (Hd w0 F0 w [osl kPair q (flat2 (us.take j))] [rsl (kHd kPair) (.slice A1 us.length c2) us]) ∧ (j ≤ us.length)) (fun (j, q) => us.length - j) (0, v16) ⟨rfl, rfl, rfl, rfl, rfl, trivial⟩ ⟨H, Nat.zero_le _⟩ ?_
  rintro ⟨j, q⟩ w ⟨H, hj⟩
  have hfl := flat2_le us j
  refine c_seq (c_reg (s_val rfl rfl (r_lt rfl rfl rfl) (s_nil (q_then (c_seq ?_)))))
  refine c_dec rfl (fun h17 => ?_) (fun h17 => ?_)
  ·refine c_skip (q_then (c_seq (c_block (c_seq (c_reg ?_)))))
   obtain ⟨⟨u20, x18⟩, hx19⟩ : ∃ z9, us[j]? = some z9 := ⟨_, List.getElem?_eq_getElem (show j < us.length by omega)⟩
   obtain ⟨A21, c22, rfl, hc23, hm24⟩ := H.nestR 0 rfl hx19
   have th25 := H.thRd 0 rfl hx19
   refine s_val rfl rfl (r_iaE (p := oOf A1 + j * 1) rfl sl22 rfl rfl (by omega) (by omega) th25 rfl) (s_val rfl rfl (r_ld rfl ty35 rfl (H.elRd 0 rfl hx19 rfl)) (s_1 rfl (s_nil (q_then ?_))))
   have hf0 := flat2_le us (j + 1)
   rw [flat2_step hx19, List.length_append] at hf0
   refine c_reg (s_k 2 rfl (s_appF (xs := flat2 (us.take j)) (ys := x18) rfl rfl rfl sl35 zr106 rfl (by decide) rfl rfl H (by omega) (fun F hA hR => nest_rsl (hR _ (List.mem_of_getElem? (i := 0) rfl)) hx19) (fun v26 w H => (s_1 rfl (s_nil (q_blockN (q_then ?_)))))))
   replace H : Hd _ _ _ [osl kPair v26 ((flat2 (us.take j)) ++ x18)] [rsl (kHd kPair) (.slice A1 us.length c2) us] := H
   refine c_reg (s_val rfl rfl (r_add (z := ((j + 1 : Nat) : Int)) rfl rfl rfl (by rw [w64 (by omega) (by omega)]; omega)) (s_1 rfl (s_nil ?_)))
   replace H : Hd w0 F0 w [osl kPair v26 (flat2 (us.take (j + 1)))] [rsl (kHd kPair) (.slice A1 us.length c2) us] := by rw [flat2_step hx19]; exact H
   exact q_round (s := (j, undef)) (j + 1, v26) ⟨rfl, rfl, rfl, rfl, rfl, trivial⟩ ⟨H, by (try dsimp only); omega⟩ (by (try dsimp only); omega)
  ·refine c_exit (q_thenE (q_thenE (q_blockE (q_then (c_seq (c_reg (s_k 2 rfl (s_nil (q_then (c_ret (q_ret1 rfl rfl ?_)))))))))))
   replace H : Hd w0 F0 w [osl kPair q (flat2 us)] [rsl (kHd kPair) (.slice A1 us.length c2) us] := by rw [List.take_of_length_le (show us.length ≤ j by omega)] at H; exact H
   exact fin rfl H
set_option maxHeartbeats 4000000 in
theorem join_ok (vus : Value) (us : List (Value × List Pair)) (hb : (flat2 us).length ≤ 1000000) (hul : us.length ≤ 1000000) :
    Cn Tryz.prog 127 [vus] [] [rsl (kHd kPair) vus us] (fun v Bs => Bs = [osl kPair v (flat2 us)]) := by
 intro w0 F0 H
 obtain ⟨A1, c2, rfl, hc3, hm4, hp5⟩ := H.fR 0 rfl
 refine enter Tryz.func127 rfl rfl (Nat.le_of_ble_eq_true rfl) (c_seq (c_reg (s_1 rfl (s_nil (q_then ?_)))))
 replace H : Hd _ _ _ [] [rsl (kHd kPair) (.slice A1 us.length c2) us] := H
 refine c_seq (c_reg (s_1 rfl (sc (concat_ok (.slice A1 us.length c2) us (by first | assumption | omega) (by first | assumption | omega)) H (lR 0 rfl l0) rfl rfl (e_fn kn179 rfl rfl) ?_)))
 rintro v6 _ w rfl H
 replace H := H.h1 (A := osl kPair v6 (flat2 us))
 exact s_1 rfl (s_nil (q_then (c_ret (q_ret1 rfl rfl (fin rfl H)))))

end Go.Proofs.YthgehekecfpikaaGreatDoor.X
