/- SnapOf: texts R3, XRef2, R4, R5, J1, J2, R6, R7, R8, G1, joined by a program of ours; what nothing names is left out. -/
import Derived.Test.YtlpgdkbokakniaaGreatDoorSnapOfQ4
import Derived.Test.YtlpgdkbokakniaaGreatDoorRows
import Derived.LaidSub
import Derived.Lib.LaidTab
import Derived.Stop.LaidErr
set_option linter.unusedVariables false
set_option linter.unusedSimpArgs false
namespace Go.Proofs.YtlpgdkbokakniaaGreatDoor.X
open Go
set_option maxHeartbeats 4000000 in
theorem rDoes_ok (m : Nat) (sv : Value) (g : Nat → Val) (key : ByteArray) (vv : Value) (k : Nat) (tv : Value) (told : List Pair) (full : List ByteArray) (va : Value) (v : List Val) (i : Ins) (n : Int) (hto : told.length ≤ 40) (hok : (∀ x ∈ v, OkV x) ∧ ∀ j, OkV (g j)) (hi : goodI i n) (hN : v.length = (kindsS i.op).size) (hk : k ≤ full.length) :
    Cn Tryz.prog 134 [.pointer (some ⟨m, 0, none⟩), .agg #[.int .i64 i.op, .int .i64 i.a, .string i.s], va] [blk m (machC sv g key vv ((k : Nat) : Int) tv) 154, osl kPair tv told] [rsl kVal va v, rsl kStr vv full] (fun r Bs => ∃ u tv2, r = .tuple #[u, .int .i64 (refM dg key g full k told i v).why] ∧ Bs = [blk m (machC sv (refM dg key g full k told i v).g key vv (((refM dg key g full k told i v).k : Nat) : Int) tv2) 154, osl kPair tv2 (refM dg key g full k told i v).told, osl kVal u (refM dg key g full k told i v).out]) := by
 intro w0 F0 H
 obtain ⟨A1, c2, rfl, hc3, hm4, hp5⟩ := H.fR 0 rfl
 obtain ⟨A6, c7, rfl, hc8, hm9, hp10⟩ := H.fR 1 rfl
 refine enter (args := [.pointer (some ⟨m, 0, none⟩), .agg #[.int .i64 i.op, .int .i64 i.a, .string i.s], .slice A1 v.length c2]) Tryz.func134 rfl rfl (Nat.le_of_ble_eq_true rfl) (c_seq (c_reg (s_box rfl rfl rfl rfl H (fun b11 w H => (s_k 2 rfl (s_nil (q_then ?_)))))))
 replace H : Hd _ _ _ [blk b11 [.int .i64 i.op, .int .i64 i.a, .string i.s] 29, blk m (machC sv g key (.slice A6 full.length c7) ((k : Nat) : Int) tv) 154, osl kPair tv told] [rsl kVal (.slice A1 v.length c2) v, rsl kStr (.slice A6 full.length c7) full] := H
 refine c_seq (c_seq (c_reg (s_val rfl rfl (r_fa rfl fo29_0 rfl) (s_val rfl rfl (r_ld rfl ty3 rfl (H.cellI 0 rfl rfl)) (s_nil (q_then (c_block (c_seq (c_reg (s_val rfl rfl (r_eq rfl rfl rfl) (s_1 rfl (s_nil (q_then ?_)))))))))))))
 refine c_dec (p := i.op = 1) rfl (fun h12 => ?_) (fun h12 => ?_)
 ·have hks : (kindsS i.op).size = 0 := by rw [h12]; rfl
  refine c_seq (c_reg (s_val rfl rfl (r_fa rfl fo29_1 rfl) (s_val rfl rfl (r_ld rfl ty3 rfl (H.cellI 0 rfl rfl)) (sc (rInt_ok i.a) H l0 rfl rfl (e_fn kn142 rfl rfl) ?_))))
  rintro _ _ w ⟨rfl, rfl⟩ H
  refine s_bsl (parts := [(0, .tmp 14)]) (vs := [.agg #[.bool false, .int .i64 i.a, .string ⟨#[]⟩]]) (cs := [.bool false, .int .i64 i.a, .string ⟨#[]⟩]) rfl rfl rfl sl102 zr104 rfl (by decide) (by decide) rfl rfl H (fun b13 w H => (s_k 2 rfl (s_nil (q_then ?_))))
  replace H := H.h1 (A := blk b13 [.bool false, .int .i64 i.a, .string ⟨#[]⟩] 104)
  refine c_ret (q_blockR (q_thenR (q_ret2 rfl rfl rfl ?_)))
  replace H : Hd w0 F0 w [osl kVal (.slice (some ⟨b13, 0, none⟩) 1 1) [(⟨false, i.a, ⟨#[]⟩⟩ : Val)], blk b11 [.int .i64 i.op, .int .i64 i.a, .string i.s] 29, blk m (machC sv g key (.slice A6 full.length c7) ((k : Nat) : Int) tv) 154, osl kPair tv told] [rsl kVal (.slice A1 v.length c2) v, rsl kStr (.slice A6 full.length c7) full] := H.turn (fun F h => blk_osl h rfl (by decide) rfl)
  replace H := H.p3
  replace H := H.p3
  replace H := H.k3
  have e : refM dg key g full k told i v = (⟨[(⟨false, i.a, ⟨#[]⟩⟩ : Val)], 0, g, k, told⟩ : Ref) := by
    rw [rf_1 h12] <;> rfl
  replace H : Hd _ _ _ [blk m (machC sv g key (.slice A6 full.length c7) ((k : Nat) : Int) tv) 154, osl kPair tv told, osl kVal (.slice (some ⟨b13, 0, none⟩) 1 1) [(⟨false, i.a, ⟨#[]⟩⟩ : Val)]] [rsl kVal (.slice A1 v.length c2) v, rsl kStr (.slice A6 full.length c7) full] := H
  exact fin ⟨_, _, by rw [e] <;> rfl, by rw [e] <;> rfl⟩ H
 ·refine c_seq (c_reg (s_val rfl rfl (r_eq rfl rfl rfl) (s_1 rfl (s_nil (q_then ?_)))))
  refine c_dec (p := i.op = 2) rfl (fun h14 => ?_) (fun h14 => ?_)
  ·have hks : (kindsS i.op).size = 0 := by rw [h14]; rfl
   refine c_seq (c_reg (s_val rfl rfl (r_fa rfl fo29_2 rfl) (s_val rfl rfl (r_ld rfl ty9 rfl (H.cellI 0 rfl rfl)) (sc (rBytes_ok i.s) H l0 rfl rfl (e_fn kn143 rfl rfl) ?_))))
   rintro _ _ w ⟨rfl, rfl⟩ H
   refine s_bsl (parts := [(0, .tmp 20)]) (vs := [.agg #[.bool true, .int .i64 0, .string i.s]]) (cs := [.bool true, .int .i64 0, .string i.s]) rfl rfl rfl sl102 zr104 rfl (by decide) (by decide) rfl rfl H (fun b15 w H => (s_k 2 rfl (s_nil (q_then ?_))))
   replace H := H.h1 (A := blk b15 [.bool true, .int .i64 0, .string i.s] 104)
   refine c_ret (q_blockR (q_thenR (q_ret2 rfl rfl rfl ?_)))
   replace H : Hd w0 F0 w [osl kVal (.slice (some ⟨b15, 0, none⟩) 1 1) [(⟨true, 0, i.s⟩ : Val)], blk b11 [.int .i64 i.op, .int .i64 i.a, .string i.s] 29, blk m (machC sv g key (.slice A6 full.length c7) ((k : Nat) : Int) tv) 154, osl kPair tv told] [rsl kVal (.slice A1 v.length c2) v, rsl kStr (.slice A6 full.length c7) full] := H.turn (fun F h => blk_osl h rfl (by decide) rfl)
   replace H := H.p3
   replace H := H.p3
   replace H := H.k3
   have e : refM dg key g full k told i v = (⟨[(⟨true, 0, i.s⟩ : Val)], 0, g, k, told⟩ : Ref) := by
     rw [rf_2 h14] <;> rfl
   replace H : Hd _ _ _ [blk m (machC sv g key (.slice A6 full.length c7) ((k : Nat) : Int) tv) 154, osl kPair tv told, osl kVal (.slice (some ⟨b15, 0, none⟩) 1 1) [(⟨true, 0, i.s⟩ : Val)]] [rsl kVal (.slice A1 v.length c2) v, rsl kStr (.slice A6 full.length c7) full] := H
   exact fin ⟨_, _, by rw [e] <;> rfl, by rw [e] <;> rfl⟩ H
  ·refine c_seq (c_reg (s_val rfl rfl (r_eq rfl rfl rfl) (s_1 rfl (s_nil (q_then ?_)))))
   refine c_dec (p := i.op = 3) rfl (fun h16 => ?_) (fun h16 => ?_)
   ·have hks : (kindsS i.op).size = 1 := by rw [h16]; rfl
    refine c_seq ?_
    obtain ⟨x17, hx18⟩ : ∃ z9, v[0]? = some z9 := ⟨_, List.getElem?_eq_getElem (show 0 < v.length by omega)⟩
    have okx17 := hok.1 _ (at_mem hx18)
    have szx17 := okx17.2
    have inx17 := okx17.1
    refine c_ord (.e 0 (.e 1 (.e 2 (.e 3 (.e 4 (.e 5 (.m 6 (.e 7 (.e 8 .z))))))))) (fun w => ∃ Ar, Hd w0 F0 w (blk b11 [.int .i64 i.op, .int .i64 i.a, .string i.s] 29 :: blk m (machC sv g key (.slice A6 full.length c7) ((k : Nat) : Int) tv) 154 :: osl kPair tv told :: Ar) [rsl kVal (.slice A1 v.length c2) v, rsl kStr (.slice A6 full.length c7) full]) mo (by kernel_rfl) (fun w H => ⟨_, H⟩) H (fun w H => (d_1 rfl ?_))
    have th19 := H.thR 0 rfl hx18
    refine d_val rfl rfl rfl (fun w ⟨Ar, H⟩ => r_iaE (p := oOf A1 + 0 * 3) rfl sl102 rfl rfl (by omega) (by omega) th19 (by omega)) (d_val rfl rfl rfl (fun w ⟨Ar, H⟩ => r_ldA (cs := [.bool x17.t, .int .i64 x17.n, .string x17.b]) rfl ty104 rfl rfl (H.elsR 0 rfl hx18 rfl)) (d_1 rfl ?_))
    have th20 := H.thR 0 rfl hx18
    refine d_val rfl rfl rfl (fun w ⟨Ar, H⟩ => r_iaE (p := oOf A1 + 0 * 3) rfl sl102 rfl rfl (by omega) (by omega) th20 (by omega)) (d_val rfl rfl rfl (fun w ⟨Ar, H⟩ => r_ldA (cs := [.bool x17.t, .int .i64 x17.n, .string x17.b]) rfl ty104 rfl rfl (H.elsR 0 rfl hx18 rfl)) (d_main rfl (s_bsl (parts := [(0, .tmp 26), (1, .tmp 29)]) (vs := [.agg #[.bool x17.t, .int .i64 x17.n, .string x17.b], .agg #[.bool x17.t, .int .i64 x17.n, .string x17.b]]) (cs := [.bool x17.t, .int .i64 x17.n, .string x17.b, .bool x17.t, .int .i64 x17.n, .string x17.b]) rfl rfl rfl sl102 zr104 rfl (by decide) (by decide) rfl rfl H (fun b21 w H => ?_))))
    replace H := H.p3
    replace H := H.p3
    replace H := H.p3
    replace H : Hd _ _ _ [blk b11 [.int .i64 i.op, .int .i64 i.a, .string i.s] 29, blk m (machC sv g key (.slice A6 full.length c7) ((k : Nat) : Int) tv) 154, osl kPair tv told, blk b21 [.bool x17.t, .int .i64 x17.n, .string x17.b, .bool x17.t, .int .i64 x17.n, .string x17.b] 104] [rsl kVal (.slice A1 v.length c2) v, rsl kStr (.slice A6 full.length c7) full] := H
    refine d_back ⟨_, H⟩ (d_1 rfl (d_1 rfl (d_nil (q_then (c_ret (q_blockR (q_thenR (q_ret2 rfl rfl rfl ?_))))))))
    replace H := H.p3
    replace H : Hd w0 F0 w [osl kVal (.slice (some ⟨b21, 0, none⟩) 2 2) [x17, x17], blk b11 [.int .i64 i.op, .int .i64 i.a, .string i.s] 29, blk m (machC sv g key (.slice A6 full.length c7) ((k : Nat) : Int) tv) 154, osl kPair tv told] [rsl kVal (.slice A1 v.length c2) v, rsl kStr (.slice A6 full.length c7) full] := H.turn (fun F h => blk_osl h rfl (by decide) rfl)
    replace H := H.p3
    replace H := H.p3
    replace H := H.k3
    have e : refM dg key g full k told i v = (⟨[x17, x17], 0, g, k, told⟩ : Ref) := by
      rw [rf_3 h16, getD_at hx18] <;> rfl
    replace H : Hd _ _ _ [blk m (machC sv g key (.slice A6 full.length c7) ((k : Nat) : Int) tv) 154, osl kPair tv told, osl kVal (.slice (some ⟨b21, 0, none⟩) 2 2) [x17, x17]] [rsl kVal (.slice A1 v.length c2) v, rsl kStr (.slice A6 full.length c7) full] := H
    exact fin ⟨_, _, by rw [e] <;> rfl, by rw [e] <;> rfl⟩ H
   ·refine c_seq (c_reg (s_val rfl rfl (r_eq rfl rfl rfl) (s_1 rfl (s_nil (q_then ?_)))))
    refine c_dec (p := i.op = 5) rfl (fun h22 => ?_) (fun h22 => ?_)
    ·have hks : (kindsS i.op).size = 2 := by rw [h22]; rfl
     refine c_seq ?_
     obtain ⟨x23, hx24⟩ : ∃ z9, v[0]? = some z9 := ⟨_, List.getElem?_eq_getElem (show 0 < v.length by omega)⟩
     have okx23 := hok.1 _ (at_mem hx24)
     have szx23 := okx23.2
     have inx23 := okx23.1
     obtain ⟨x25, hx26⟩ : ∃ z9, v[1]? = some z9 := ⟨_, List.getElem?_eq_getElem (show 1 < v.length by omega)⟩
     have okx25 := hok.1 _ (at_mem hx26)
     have szx25 := okx25.2
     have inx25 := okx25.1
     refine c_ord (.e 0 (.e 1 (.e 2 (.e 3 (.e 4 (.e 5 (.m 6 (.e 7 (.e 8 .z))))))))) (fun w => ∃ Ar, Hd w0 F0 w (blk b11 [.int .i64 i.op, .int .i64 i.a, .string i.s] 29 :: blk m (machC sv g key (.slice A6 full.length c7) ((k : Nat) : Int) tv) 154 :: osl kPair tv told :: Ar) [rsl kVal (.slice A1 v.length c2) v, rsl kStr (.slice A6 full.length c7) full]) mo (by kernel_rfl) (fun w H => ⟨_, H⟩) H (fun w H => (d_1 rfl ?_))
     have th27 := H.thR 0 rfl hx26
     refine d_val rfl rfl rfl (fun w ⟨Ar, H⟩ => r_iaE (p := oOf A1 + 1 * 3) rfl sl102 rfl rfl (by omega) (by omega) th27 (by omega)) (d_val rfl rfl rfl (fun w ⟨Ar, H⟩ => r_ldA (cs := [.bool x25.t, .int .i64 x25.n, .string x25.b]) rfl ty104 rfl rfl (H.elsR 0 rfl hx26 rfl)) (d_1 rfl ?_))
     have th28 := H.thR 0 rfl hx24
     refine d_val rfl rfl rfl (fun w ⟨Ar, H⟩ => r_iaE (p := oOf A1 + 0 * 3) rfl sl102 rfl rfl (by omega) (by omega) th28 (by omega)) (d_val rfl rfl rfl (fun w ⟨Ar, H⟩ => r_ldA (cs := [.bool x23.t, .int .i64 x23.n, .string x23.b]) rfl ty104 rfl rfl (H.elsR 0 rfl hx24 rfl)) (d_main rfl (s_bsl (parts := [(0, .tmp 35), (1, .tmp 38)]) (vs := [.agg #[.bool x25.t, .int .i64 x25.n, .string x25.b], .agg #[.bool x23.t, .int .i64 x23.n, .string x23.b]]) (cs := [.bool x25.t, .int .i64 x25.n, .string x25.b, .bool x23.t, .int .i64 x23.n, .string x23.b]) rfl rfl rfl sl102 zr104 rfl (by decide) (by decide) rfl rfl H (fun b29 w H => ?_))))
     replace H := H.p3
     replace H := H.p3
     replace H := H.p3
     replace H : Hd _ _ _ [blk b11 [.int .i64 i.op, .int .i64 i.a, .string i.s] 29, blk m (machC sv g key (.slice A6 full.length c7) ((k : Nat) : Int) tv) 154, osl kPair tv told, blk b29 [.bool x25.t, .int .i64 x25.n, .string x25.b, .bool x23.t, .int .i64 x23.n, .string x23.b] 104] [rsl kVal (.slice A1 v.length c2) v, rsl kStr (.slice A6 full.length c7) full] := H
     refine d_back ⟨_, H⟩ (d_1 rfl (d_1 rfl (d_nil (q_then (c_ret (q_blockR (q_thenR (q_ret2 rfl rfl rfl ?_))))))))
     replace H := H.p3
     replace H : Hd w0 F0 w [osl kVal (.slice (some ⟨b29, 0, none⟩) 2 2) [x25, x23], blk b11 [.int .i64 i.op, .int .i64 i.a, .string i.s] 29, blk m (machC sv g key (.slice A6 full.length c7) ((k : Nat) : Int) tv) 154, osl kPair tv told] [rsl kVal (.slice A1 v.length c2) v, rsl kStr (.slice A6 full.length c7) full] := H.turn (fun F h => blk_osl h rfl (by decide) rfl)
     replace H := H.p3
     replace H := H.p3
     replace H := H.k3
     have e : refM dg key g full k told i v = (⟨[x25, x23], 0, g, k, told⟩ : Ref) := by
       rw [rf_5 h22, getD_at hx24, getD_at hx26] <;> rfl
     replace H : Hd _ _ _ [blk m (machC sv g key (.slice A6 full.length c7) ((k : Nat) : Int) tv) 154, osl kPair tv told, osl kVal (.slice (some ⟨b29, 0, none⟩) 2 2) [x25, x23]] [rsl kVal (.slice A1 v.length c2) v, rsl kStr (.slice A6 full.length c7) full] := H
     exact fin ⟨_, _, by rw [e] <;> rfl, by rw [e] <;> rfl⟩ H
    ·refine c_seq (c_reg (s_val rfl rfl (r_eq rfl rfl rfl) (s_1 rfl (s_nil (q_then ?_)))))
     refine c_dec (p := i.op = 6) rfl (fun h30 => ?_) (fun h30 => ?_)
     ·have hks : (kindsS i.op).size = 0 := by rw [h30]; rfl
      refine c_seq (c_reg (s_1 rfl (s_val rfl rfl (r_nilP rfl rfl) (s_val rfl rfl (r_fa rfl fo154_2 rfl) (s_val rfl rfl (r_ld rfl ty9 rfl (H.cellI 1 rfl rfl)) (sc (rBytes_ok key) H l0 rfl rfl (e_fn kn143 rfl rfl) ?_))))))
      rintro _ _ w ⟨rfl, rfl⟩ H
      refine s_bsl (parts := [(0, .tmp 46)]) (vs := [.agg #[.bool true, .int .i64 0, .string key]]) (cs := [.bool true, .int .i64 0, .string key]) rfl rfl rfl sl102 zr104 rfl (by decide) (by decide) rfl rfl H (fun b31 w H => (s_k 2 rfl (s_nil (q_then ?_))))
      replace H := H.h1 (A := blk b31 [.bool true, .int .i64 0, .string key] 104)
      refine c_ret (q_blockR (q_thenR (q_ret2 rfl rfl rfl ?_)))
      replace H : Hd w0 F0 w [osl kVal (.slice (some ⟨b31, 0, none⟩) 1 1) [(⟨true, 0, key⟩ : Val)], blk b11 [.int .i64 i.op, .int .i64 i.a, .string i.s] 29, blk m (machC sv g key (.slice A6 full.length c7) ((k : Nat) : Int) tv) 154, osl kPair tv told] [rsl kVal (.slice A1 v.length c2) v, rsl kStr (.slice A6 full.length c7) full] := H.turn (fun F h => blk_osl h rfl (by decide) rfl)
      replace H := H.p3
      replace H := H.p3
      replace H := H.k3
      have e : refM dg key g full k told i v = (⟨[(⟨true, 0, key⟩ : Val)], 0, g, k, told⟩ : Ref) := by
        rw [rf_6 h30] <;> rfl
      replace H : Hd _ _ _ [blk m (machC sv g key (.slice A6 full.length c7) ((k : Nat) : Int) tv) 154, osl kPair tv told, osl kVal (.slice (some ⟨b31, 0, none⟩) 1 1) [(⟨true, 0, key⟩ : Val)]] [rsl kVal (.slice A1 v.length c2) v, rsl kStr (.slice A6 full.length c7) full] := H
      exact fin ⟨_, _, by rw [e] <;> rfl, by rw [e] <;> rfl⟩ H
     ·refine c_seq (c_reg (s_val rfl rfl (r_eq rfl rfl rfl) (s_1 rfl (s_nil (q_then ?_)))))
      refine c_dec (p := i.op = 7) rfl (fun h32 => ?_) (fun h32 => ?_)
      ·have hks : (kindsS i.op).size = 0 := by rw [h32]; rfl
       refine c_seq (c_seq (c_draw mo (by kernel_rfl) H (u_1 rfl (u_val rfl rfl (fun w H => r_nilP rfl rfl) (u_val rfl rfl (fun w H => r_fa rfl fo154_4 rfl) (u_val rfl rfl (fun w H => r_ld rfl ty3 rfl (H.cellI 1 rfl rfl)) (u_1 rfl (u_val rfl rfl (fun w H => r_nilP rfl rfl) (u_val rfl rfl (fun w H => r_fa rfl fo154_3 rfl) (u_val rfl rfl (fun w H => r_ld rfl ty75 rfl (H.cellI 1 rfl rfl)) (u_val rfl rfl (fun w H => r_lenL rfl un75 rfl) (u_val rfl rfl (fun w H => r_ge rfl rfl rfl) (u_end (fun w H => (q_then ?_)))))))))))))))
       refine c_dec (p := ((full.length : Nat) : Int) ≤ ((k : Nat) : Int)) rfl (fun h33 => ?_) (fun h33 => ?_)
       ·refine c_seq (c_reg (sc (rInt_ok 0) H l0 rfl rfl (e_fn kn142 rfl rfl) ?_))
        rintro _ _ w ⟨rfl, rfl⟩ H
        refine s_bsl (parts := [(0, .tmp 60)]) (vs := [.agg #[.bool false, .int .i64 0, .string ⟨#[]⟩]]) (cs := [.bool false, .int .i64 0, .string ⟨#[]⟩]) rfl rfl rfl sl102 zr104 rfl (by decide) (by decide) rfl rfl H (fun b34 w H => (s_k 2 rfl (s_nil (q_then ?_))))
        replace H := H.h1 (A := blk b34 [.bool false, .int .i64 0, .string ⟨#[]⟩] 104)
        refine c_ret (q_thenR (q_blockR (q_thenR (q_ret2 rfl rfl rfl ?_))))
        replace H : Hd w0 F0 w [osl kVal (.slice (some ⟨b34, 0, none⟩) 1 1) [(⟨false, 0, ⟨#[]⟩⟩ : Val)], blk b11 [.int .i64 i.op, .int .i64 i.a, .string i.s] 29, blk m (machC sv g key (.slice A6 full.length c7) ((k : Nat) : Int) tv) 154, osl kPair tv told] [rsl kVal (.slice A1 v.length c2) v, rsl kStr (.slice A6 full.length c7) full] := H.turn (fun F h => blk_osl h rfl (by decide) rfl)
        replace H := H.p3
        replace H := H.p3
        replace H := H.k3
        have e : refM dg key g full k told i v = (⟨[(⟨false, 0, ⟨#[]⟩⟩ : Val)], 0, g, k, told⟩ : Ref) := by
          exact rf_7n h32 (by omega)
        replace H : Hd _ _ _ [blk m (machC sv g key (.slice A6 full.length c7) ((k : Nat) : Int) tv) 154, osl kPair tv told, osl kVal (.slice (some ⟨b34, 0, none⟩) 1 1) [(⟨false, 0, ⟨#[]⟩⟩ : Val)]] [rsl kVal (.slice A1 v.length c2) v, rsl kStr (.slice A6 full.length c7) full] := H
        exact fin ⟨_, _, by rw [e] <;> rfl, by rw [e] <;> rfl⟩ H
       ·refine c_skip (q_then (c_seq (c_reg (s_1 rfl (s_val rfl rfl (r_nilP rfl rfl) (s_val rfl rfl (r_fa rfl fo154_4 rfl) (s_val rfl rfl (r_ld rfl ty3 rfl (H.cellI 1 rfl rfl)) (s_val rfl rfl (r_add (z := ((k + 1 : Nat) : Int)) rfl rfl rfl (by rw [w64 (by omega) (by omega)]; omega)) (s_val rfl rfl (r_nilP rfl rfl) (s_val rfl rfl (r_fa rfl fo154_4 rfl) ?_))))))))))
        replace H := H.p1
        refine s_st rfl rfl rfl ty3 rfl rfl H rfl (Nat.le_of_ble_eq_true rfl) (fun u hu => by simp [Value.cells] at hu; subst hu; rfl) (fun w H => ?_)
        replace H := H.h1 (A := blk m (machC sv g key (.slice A6 full.length c7) ((k + 1 : Nat) : Int) tv) 154)
        refine s_nil (q_then (c_seq (c_ord (.e 0 (.e 1 (.e 2 (.e 3 (.e 4 (.e 5 (.e 6 (.e 7 (.e 8 (.e 9 (.e 10 (.m 11 (.m 12 (.m 13 (.e 14 (.e 15 .z)))))))))))))))) (fun w => ∃ Ar, Hd w0 F0 w (blk m (machC sv g key (.slice A6 full.length c7) ((k + 1 : Nat) : Int) tv) 154 :: blk b11 [.int .i64 i.op, .int .i64 i.a, .string i.s] 29 :: osl kPair tv told :: Ar) [rsl kVal (.slice A1 v.length c2) v, rsl kStr (.slice A6 full.length c7) full]) mo (by kernel_rfl) (fun w H => ⟨_, H⟩) H (fun w H => (d_1 rfl (d_val rfl rfl rfl (fun w ⟨Ar, H⟩ => r_nilP rfl rfl) (d_val rfl rfl rfl (fun w ⟨Ar, H⟩ => r_fa rfl fo154_3 rfl) (d_val rfl rfl rfl (fun w ⟨Ar, H⟩ => r_ld rfl ty75 rfl (H.cellI 0 rfl rfl)) (d_1 rfl (d_val rfl rfl rfl (fun w ⟨Ar, H⟩ => r_nilP rfl rfl) (d_val rfl rfl rfl (fun w ⟨Ar, H⟩ => r_fa rfl fo154_4 rfl) (d_val rfl rfl rfl (fun w ⟨Ar, H⟩ => r_ld rfl ty3 rfl (H.cellI 0 rfl rfl)) (d_val rfl rfl rfl (fun w ⟨Ar, H⟩ => r_sub (z := ((k : Nat) : Int)) rfl rfl rfl (by rw [w64 (by omega) (by omega)]; omega)) ?_)))))))))))))
        obtain ⟨x35, hx36⟩ : ∃ z9, full[k]? = some z9 := ⟨_, List.getElem?_eq_getElem (show k < full.length by omega)⟩
        have th37 := H.thR 1 rfl hx36
        refine d_val rfl rfl rfl (fun w ⟨Ar, H⟩ => r_iaE (p := oOf A6 + k * 1) rfl sl75 rfl rfl (by omega) (by omega) th37 rfl) (d_val rfl rfl rfl (fun w ⟨Ar, H⟩ => r_ld rfl ty9 rfl (H.elR 1 rfl hx36 (q := 0) rfl rfl)) (d_main rfl (sc (rBytes_ok x35) H l0 rfl rfl (e_fn kn143 rfl rfl) ?_)))
        rintro _ _ w ⟨rfl, rfl⟩ H
        refine d_back ⟨_, H⟩ (d_main rfl (sc (rInt_ok 1) H l0 rfl rfl (e_fn kn142 rfl rfl) ?_))
        rintro _ _ w ⟨rfl, rfl⟩ H
        refine d_back ⟨_, H⟩ (d_main rfl (s_bsl (parts := [(0, .tmp 80), (1, .tmp 81)]) (vs := [.agg #[.bool true, .int .i64 0, .string x35], .agg #[.bool false, .int .i64 1, .string ⟨#[]⟩]]) (cs := [.bool true, .int .i64 0, .string x35, .bool false, .int .i64 1, .string ⟨#[]⟩]) rfl rfl rfl sl102 zr104 rfl (by decide) (by decide) rfl rfl H (fun b38 w H => ?_)))
        replace H := H.p3
        replace H := H.p3
        replace H := H.p3
        replace H : Hd _ _ _ [blk m (machC sv g key (.slice A6 full.length c7) ((k + 1 : Nat) : Int) tv) 154, blk b11 [.int .i64 i.op, .int .i64 i.a, .string i.s] 29, osl kPair tv told, blk b38 [.bool true, .int .i64 0, .string x35, .bool false, .int .i64 1, .string ⟨#[]⟩] 104] [rsl kVal (.slice A1 v.length c2) v, rsl kStr (.slice A6 full.length c7) full] := H
        refine d_back ⟨_, H⟩ (d_1 rfl (d_1 rfl (d_nil (q_then (c_ret (q_blockR (q_thenR (q_ret2 rfl rfl rfl ?_))))))))
        replace H := H.p3
        replace H : Hd w0 F0 w [osl kVal (.slice (some ⟨b38, 0, none⟩) 2 2) [(⟨true, 0, x35⟩ : Val), (⟨false, 1, ⟨#[]⟩⟩ : Val)], blk m (machC sv g key (.slice A6 full.length c7) ((k + 1 : Nat) : Int) tv) 154, blk b11 [.int .i64 i.op, .int .i64 i.a, .string i.s] 29, osl kPair tv told] [rsl kVal (.slice A1 v.length c2) v, rsl kStr (.slice A6 full.length c7) full] := H.turn (fun F h => blk_osl h rfl (by decide) rfl)
        replace H := H.p3
        replace H := H.p2
        replace H := H.k3
        have e : refM dg key g full k told i v = (⟨[(⟨true, 0, x35⟩ : Val), (⟨false, 1, ⟨#[]⟩⟩ : Val)], 0, g, k + 1, told⟩ : Ref) := by
          exact rf_7s h32 hx36
        replace H : Hd _ _ _ [blk m (machC sv g key (.slice A6 full.length c7) ((k + 1 : Nat) : Int) tv) 154, osl kPair tv told, osl kVal (.slice (some ⟨b38, 0, none⟩) 2 2) [(⟨true, 0, x35⟩ : Val), (⟨false, 1, ⟨#[]⟩⟩ : Val)]] [rsl kVal (.slice A1 v.length c2) v, rsl kStr (.slice A6 full.length c7) full] := H
        exact fin ⟨_, _, by rw [e] <;> rfl, by rw [e] <;> rfl⟩ H
      ·refine c_seq (c_reg (s_val rfl rfl (r_eq rfl rfl rfl) (s_1 rfl (s_nil (q_then ?_)))))
       refine c_dec (p := i.op = 8) rfl (fun h39 => ?_) (fun h39 => ?_)
       ·have hks : (kindsS i.op).size = 2 := by rw [h39]; rfl
        refine c_seq ?_
        obtain ⟨x40, hx41⟩ : ∃ z9, v[0]? = some z9 := ⟨_, List.getElem?_eq_getElem (show 0 < v.length by omega)⟩
        have okx40 := hok.1 _ (at_mem hx41)
        have szx40 := okx40.2
        have inx40 := okx40.1
        obtain ⟨x42, hx43⟩ : ∃ z9, v[1]? = some z9 := ⟨_, List.getElem?_eq_getElem (show 1 < v.length by omega)⟩
        have okx42 := hok.1 _ (at_mem hx43)
        have szx42 := okx42.2
        have inx42 := okx42.1
        refine c_ord (.e 0 (.e 1 (.e 2 (.e 3 (.e 4 (.e 5 (.e 6 (.e 7 (.e 8 (.m 9 (.m 10 (.e 11 (.e 12 .z))))))))))))) (fun w => ∃ Ar, Hd w0 F0 w (blk b11 [.int .i64 i.op, .int .i64 i.a, .string i.s] 29 :: blk m (machC sv g key (.slice A6 full.length c7) ((k : Nat) : Int) tv) 154 :: osl kPair tv told :: Ar) [rsl kVal (.slice A1 v.length c2) v, rsl kStr (.slice A6 full.length c7) full]) mo (by kernel_rfl) (fun w H => ⟨_, H⟩) H (fun w H => (d_1 rfl ?_))
        have th44 := H.thR 0 rfl hx41
        refine d_val rfl rfl rfl (fun w ⟨Ar, H⟩ => r_iaE (p := oOf A1 + 0 * 3) rfl sl102 rfl rfl (by omega) (by omega) th44 (by omega)) (d_val rfl rfl rfl (fun w ⟨Ar, H⟩ => r_fa rfl fo104_1 rfl) (d_val rfl rfl rfl (fun w ⟨Ar, H⟩ => r_ld rfl ty2 rfl (H.elR 0 rfl hx41 (q := 1) rfl rfl)) (d_1 rfl ?_)))
        have th45 := H.thR 0 rfl hx43
        refine d_val rfl rfl rfl (fun w ⟨Ar, H⟩ => r_iaE (p := oOf A1 + 1 * 3) rfl sl102 rfl rfl (by omega) (by omega) th45 (by omega)) (d_val rfl rfl rfl (fun w ⟨Ar, H⟩ => r_fa rfl fo104_1 rfl) (d_val rfl rfl rfl (fun w ⟨Ar, H⟩ => r_ld rfl ty2 rfl (H.elR 0 rfl hx43 (q := 1) rfl rfl)) (d_val rfl rfl rfl (fun w ⟨Ar, H⟩ => r_add (z := IntKind.i64.wrap (x40.n + x42.n)) rfl rfl rfl rfl) (d_main rfl (sc (rInt_ok (IntKind.i64.wrap (x40.n + x42.n))) H l0 rfl rfl (e_fn kn142 rfl rfl) ?_)))))
        rintro _ _ w ⟨rfl, rfl⟩ H
        refine d_back ⟨_, H⟩ (d_main rfl (s_bsl (parts := [(0, .tmp 94)]) (vs := [.agg #[.bool false, .int .i64 (IntKind.i64.wrap (x40.n + x42.n)), .string ⟨#[]⟩]]) (cs := [.bool false, .int .i64 (IntKind.i64.wrap (x40.n + x42.n)), .string ⟨#[]⟩]) rfl rfl rfl sl102 zr104 rfl (by decide) (by decide) rfl rfl H (fun b46 w H => ?_)))
        replace H := H.p3
        replace H := H.p3
        replace H := H.p3
        replace H : Hd _ _ _ [blk b11 [.int .i64 i.op, .int .i64 i.a, .string i.s] 29, blk m (machC sv g key (.slice A6 full.length c7) ((k : Nat) : Int) tv) 154, osl kPair tv told, blk b46 [.bool false, .int .i64 (IntKind.i64.wrap (x40.n + x42.n)), .string ⟨#[]⟩] 104] [rsl kVal (.slice A1 v.length c2) v, rsl kStr (.slice A6 full.length c7) full] := H
        refine d_back ⟨_, H⟩ (d_1 rfl (d_1 rfl (d_nil (q_then (c_ret (q_blockR (q_thenR (q_ret2 rfl rfl rfl ?_))))))))
        replace H := H.p3
        replace H : Hd w0 F0 w [osl kVal (.slice (some ⟨b46, 0, none⟩) 1 1) [(⟨false, IntKind.i64.wrap (x40.n + x42.n), ⟨#[]⟩⟩ : Val)], blk b11 [.int .i64 i.op, .int .i64 i.a, .string i.s] 29, blk m (machC sv g key (.slice A6 full.length c7) ((k : Nat) : Int) tv) 154, osl kPair tv told] [rsl kVal (.slice A1 v.length c2) v, rsl kStr (.slice A6 full.length c7) full] := H.turn (fun F h => blk_osl h rfl (by decide) rfl)
        replace H := H.p3
        replace H := H.p3
        replace H := H.k3
        have e : refM dg key g full k told i v = (⟨[(⟨false, IntKind.i64.wrap (x40.n + x42.n), ⟨#[]⟩⟩ : Val)], 0, g, k, told⟩ : Ref) := by
          rw [rf_8 (by omega), h39, getD_at hx41, getD_at hx43] <;> rfl
        replace H : Hd _ _ _ [blk m (machC sv g key (.slice A6 full.length c7) ((k : Nat) : Int) tv) 154, osl kPair tv told, osl kVal (.slice (some ⟨b46, 0, none⟩) 1 1) [(⟨false, IntKind.i64.wrap (x40.n + x42.n), ⟨#[]⟩⟩ : Val)]] [rsl kVal (.slice A1 v.length c2) v, rsl kStr (.slice A6 full.length c7) full] := H
        exact fin ⟨_, _, by rw [e] <;> rfl, by rw [e] <;> rfl⟩ H
       ·refine c_seq (c_reg (s_val rfl rfl (r_eq rfl rfl rfl) (s_1 rfl (s_nil (q_then ?_)))))
        refine c_dec (p := i.op = 9) rfl (fun h47 => ?_) (fun h47 => ?_)
        ·have hks : (kindsS i.op).size = 2 := by rw [h47]; rfl
         refine c_seq ?_
         obtain ⟨x48, hx49⟩ : ∃ z9, v[0]? = some z9 := ⟨_, List.getElem?_eq_getElem (show 0 < v.length by omega)⟩
         have okx48 := hok.1 _ (at_mem hx49)
         have szx48 := okx48.2
         have inx48 := okx48.1
         obtain ⟨x50, hx51⟩ : ∃ z9, v[1]? = some z9 := ⟨_, List.getElem?_eq_getElem (show 1 < v.length by omega)⟩
         have okx50 := hok.1 _ (at_mem hx51)
         have szx50 := okx50.2
         have inx50 := okx50.1
         refine c_ord (.e 0 (.e 1 (.e 2 (.e 3 (.e 4 (.e 5 (.e 6 (.e 7 (.e 8 (.m 9 (.m 10 (.e 11 (.e 12 .z))))))))))))) (fun w => ∃ Ar, Hd w0 F0 w (blk b11 [.int .i64 i.op, .int .i64 i.a, .string i.s] 29 :: blk m (machC sv g key (.slice A6 full.length c7) ((k : Nat) : Int) tv) 154 :: osl kPair tv told :: Ar) [rsl kVal (.slice A1 v.length c2) v, rsl kStr (.slice A6 full.length c7) full]) mo (by kernel_rfl) (fun w H => ⟨_, H⟩) H (fun w H => (d_1 rfl ?_))
         have th52 := H.thR 0 rfl hx49
         refine d_val rfl rfl rfl (fun w ⟨Ar, H⟩ => r_iaE (p := oOf A1 + 0 * 3) rfl sl102 rfl rfl (by omega) (by omega) th52 (by omega)) (d_val rfl rfl rfl (fun w ⟨Ar, H⟩ => r_fa rfl fo104_1 rfl) (d_val rfl rfl rfl (fun w ⟨Ar, H⟩ => r_ld rfl ty2 rfl (H.elR 0 rfl hx49 (q := 1) rfl rfl)) (d_1 rfl ?_)))
         have th53 := H.thR 0 rfl hx51
         refine d_val rfl rfl rfl (fun w ⟨Ar, H⟩ => r_iaE (p := oOf A1 + 1 * 3) rfl sl102 rfl rfl (by omega) (by omega) th53 (by omega)) (d_val rfl rfl rfl (fun w ⟨Ar, H⟩ => r_fa rfl fo104_1 rfl) (d_val rfl rfl rfl (fun w ⟨Ar, H⟩ => r_ld rfl ty2 rfl (H.elR 0 rfl hx51 (q := 1) rfl rfl)) (d_val rfl rfl rfl (fun w ⟨Ar, H⟩ => r_sub (z := IntKind.i64.wrap (x48.n - x50.n)) rfl rfl rfl rfl) (d_main rfl (sc (rInt_ok (IntKind.i64.wrap (x48.n - x50.n))) H l0 rfl rfl (e_fn kn142 rfl rfl) ?_)))))
         rintro _ _ w ⟨rfl, rfl⟩ H
         refine d_back ⟨_, H⟩ (d_main rfl (s_bsl (parts := [(0, .tmp 107)]) (vs := [.agg #[.bool false, .int .i64 (IntKind.i64.wrap (x48.n - x50.n)), .string ⟨#[]⟩]]) (cs := [.bool false, .int .i64 (IntKind.i64.wrap (x48.n - x50.n)), .string ⟨#[]⟩]) rfl rfl rfl sl102 zr104 rfl (by decide) (by decide) rfl rfl H (fun b54 w H => ?_)))
         replace H := H.p3
         replace H := H.p3
         replace H := H.p3
         replace H : Hd _ _ _ [blk b11 [.int .i64 i.op, .int .i64 i.a, .string i.s] 29, blk m (machC sv g key (.slice A6 full.length c7) ((k : Nat) : Int) tv) 154, osl kPair tv told, blk b54 [.bool false, .int .i64 (IntKind.i64.wrap (x48.n - x50.n)), .string ⟨#[]⟩] 104] [rsl kVal (.slice A1 v.length c2) v, rsl kStr (.slice A6 full.length c7) full] := H
         refine d_back ⟨_, H⟩ (d_1 rfl (d_1 rfl (d_nil (q_then (c_ret (q_blockR (q_thenR (q_ret2 rfl rfl rfl ?_))))))))
         replace H := H.p3
         replace H : Hd w0 F0 w [osl kVal (.slice (some ⟨b54, 0, none⟩) 1 1) [(⟨false, IntKind.i64.wrap (x48.n - x50.n), ⟨#[]⟩⟩ : Val)], blk b11 [.int .i64 i.op, .int .i64 i.a, .string i.s] 29, blk m (machC sv g key (.slice A6 full.length c7) ((k : Nat) : Int) tv) 154, osl kPair tv told] [rsl kVal (.slice A1 v.length c2) v, rsl kStr (.slice A6 full.length c7) full] := H.turn (fun F h => blk_osl h rfl (by decide) rfl)
         replace H := H.p3
         replace H := H.p3
         replace H := H.k3
         have e : refM dg key g full k told i v = (⟨[(⟨false, IntKind.i64.wrap (x48.n - x50.n), ⟨#[]⟩⟩ : Val)], 0, g, k, told⟩ : Ref) := by
           rw [rf_8 (by omega), h47, getD_at hx49, getD_at hx51] <;> rfl
         replace H : Hd _ _ _ [blk m (machC sv g key (.slice A6 full.length c7) ((k : Nat) : Int) tv) 154, osl kPair tv told, osl kVal (.slice (some ⟨b54, 0, none⟩) 1 1) [(⟨false, IntKind.i64.wrap (x48.n - x50.n), ⟨#[]⟩⟩ : Val)]] [rsl kVal (.slice A1 v.length c2) v, rsl kStr (.slice A6 full.length c7) full] := H
         exact fin ⟨_, _, by rw [e] <;> rfl, by rw [e] <;> rfl⟩ H
        ·refine c_seq (c_reg (s_val rfl rfl (r_eq rfl rfl rfl) (s_1 rfl (s_nil (q_then ?_)))))
         refine c_dec (p := i.op = 10) rfl (fun h55 => ?_) (fun h55 => ?_)
         ·have hks : (kindsS i.op).size = 2 := by rw [h55]; rfl
          refine c_seq ?_
          obtain ⟨x56, hx57⟩ : ∃ z9, v[0]? = some z9 := ⟨_, List.getElem?_eq_getElem (show 0 < v.length by omega)⟩
          have okx56 := hok.1 _ (at_mem hx57)
          have szx56 := okx56.2
          have inx56 := okx56.1
          obtain ⟨x58, hx59⟩ : ∃ z9, v[1]? = some z9 := ⟨_, List.getElem?_eq_getElem (show 1 < v.length by omega)⟩
          have okx58 := hok.1 _ (at_mem hx59)
          have szx58 := okx58.2
          have inx58 := okx58.1
          refine c_ord (.e 0 (.e 1 (.e 2 (.e 3 (.e 4 (.e 5 (.e 6 (.e 7 (.e 8 (.m 9 (.m 10 (.e 11 (.e 12 .z))))))))))))) (fun w => ∃ Ar, Hd w0 F0 w (blk b11 [.int .i64 i.op, .int .i64 i.a, .string i.s] 29 :: blk m (machC sv g key (.slice A6 full.length c7) ((k : Nat) : Int) tv) 154 :: osl kPair tv told :: Ar) [rsl kVal (.slice A1 v.length c2) v, rsl kStr (.slice A6 full.length c7) full]) mo (by kernel_rfl) (fun w H => ⟨_, H⟩) H (fun w H => (d_1 rfl ?_))
          have th60 := H.thR 0 rfl hx57
          refine d_val rfl rfl rfl (fun w ⟨Ar, H⟩ => r_iaE (p := oOf A1 + 0 * 3) rfl sl102 rfl rfl (by omega) (by omega) th60 (by omega)) (d_val rfl rfl rfl (fun w ⟨Ar, H⟩ => r_fa rfl fo104_1 rfl) (d_val rfl rfl rfl (fun w ⟨Ar, H⟩ => r_ld rfl ty2 rfl (H.elR 0 rfl hx57 (q := 1) rfl rfl)) (d_1 rfl ?_)))
          have th61 := H.thR 0 rfl hx59
          refine d_val rfl rfl rfl (fun w ⟨Ar, H⟩ => r_iaE (p := oOf A1 + 1 * 3) rfl sl102 rfl rfl (by omega) (by omega) th61 (by omega)) (d_val rfl rfl rfl (fun w ⟨Ar, H⟩ => r_fa rfl fo104_1 rfl) (d_val rfl rfl rfl (fun w ⟨Ar, H⟩ => r_ld rfl ty2 rfl (H.elR 0 rfl hx59 (q := 1) rfl rfl)) (d_val rfl rfl rfl (fun w ⟨Ar, H⟩ => r_mul (z := IntKind.i64.wrap (x56.n * x58.n)) rfl rfl rfl rfl) (d_main rfl (sc (rInt_ok (IntKind.i64.wrap (x56.n * x58.n))) H l0 rfl rfl (e_fn kn142 rfl rfl) ?_)))))
          rintro _ _ w ⟨rfl, rfl⟩ H
          refine d_back ⟨_, H⟩ (d_main rfl (s_bsl (parts := [(0, .tmp 120)]) (vs := [.agg #[.bool false, .int .i64 (IntKind.i64.wrap (x56.n * x58.n)), .string ⟨#[]⟩]]) (cs := [.bool false, .int .i64 (IntKind.i64.wrap (x56.n * x58.n)), .string ⟨#[]⟩]) rfl rfl rfl sl102 zr104 rfl (by decide) (by decide) rfl rfl H (fun b62 w H => ?_)))
          replace H := H.p3
          replace H := H.p3
          replace H := H.p3
          replace H : Hd _ _ _ [blk b11 [.int .i64 i.op, .int .i64 i.a, .string i.s] 29, blk m (machC sv g key (.slice A6 full.length c7) ((k : Nat) : Int) tv) 154, osl kPair tv told, blk b62 [.bool false, .int .i64 (IntKind.i64.wrap (x56.n * x58.n)), .string ⟨#[]⟩] 104] [rsl kVal (.slice A1 v.length c2) v, rsl kStr (.slice A6 full.length c7) full] := H
          refine d_back ⟨_, H⟩ (d_1 rfl (d_1 rfl (d_nil (q_then (c_ret (q_blockR (q_thenR (q_ret2 rfl rfl rfl ?_))))))))
          replace H := H.p3
          replace H : Hd w0 F0 w [osl kVal (.slice (some ⟨b62, 0, none⟩) 1 1) [(⟨false, IntKind.i64.wrap (x56.n * x58.n), ⟨#[]⟩⟩ : Val)], blk b11 [.int .i64 i.op, .int .i64 i.a, .string i.s] 29, blk m (machC sv g key (.slice A6 full.length c7) ((k : Nat) : Int) tv) 154, osl kPair tv told] [rsl kVal (.slice A1 v.length c2) v, rsl kStr (.slice A6 full.length c7) full] := H.turn (fun F h => blk_osl h rfl (by decide) rfl)
          replace H := H.p3
          replace H := H.p3
          replace H := H.k3
          have e : refM dg key g full k told i v = (⟨[(⟨false, IntKind.i64.wrap (x56.n * x58.n), ⟨#[]⟩⟩ : Val)], 0, g, k, told⟩ : Ref) := by
            rw [rf_8 (by omega), h55, getD_at hx57, getD_at hx59] <;> rfl
          replace H : Hd _ _ _ [blk m (machC sv g key (.slice A6 full.length c7) ((k : Nat) : Int) tv) 154, osl kPair tv told, osl kVal (.slice (some ⟨b62, 0, none⟩) 1 1) [(⟨false, IntKind.i64.wrap (x56.n * x58.n), ⟨#[]⟩⟩ : Val)]] [rsl kVal (.slice A1 v.length c2) v, rsl kStr (.slice A6 full.length c7) full] := H
          exact fin ⟨_, _, by rw [e] <;> rfl, by rw [e] <;> rfl⟩ H
         ·refine c_seq (c_reg (s_val rfl rfl (r_eq rfl rfl rfl) (s_1 rfl (s_nil (q_then ?_)))))
          refine c_dec (p := i.op = 11) rfl (fun h63 => ?_) (fun h63 => ?_)
          ·have hks : (kindsS i.op).size = 2 := by rw [h63]; rfl
           refine c_seq ?_
           obtain ⟨x64, hx65⟩ : ∃ z9, v[0]? = some z9 := ⟨_, List.getElem?_eq_getElem (show 0 < v.length by omega)⟩
           have okx64 := hok.1 _ (at_mem hx65)
           have szx64 := okx64.2
           have inx64 := okx64.1
           obtain ⟨x66, hx67⟩ : ∃ z9, v[1]? = some z9 := ⟨_, List.getElem?_eq_getElem (show 1 < v.length by omega)⟩
           have okx66 := hok.1 _ (at_mem hx67)
           have szx66 := okx66.2
           have inx66 := okx66.1
           refine c_ord (.e 0 (.e 1 (.e 2 (.e 3 (.e 4 (.e 5 (.e 6 (.e 7 (.e 8 (.m 9 (.m 10 (.e 11 (.e 12 .z))))))))))))) (fun w => ∃ Ar, Hd w0 F0 w (blk b11 [.int .i64 i.op, .int .i64 i.a, .string i.s] 29 :: blk m (machC sv g key (.slice A6 full.length c7) ((k : Nat) : Int) tv) 154 :: osl kPair tv told :: Ar) [rsl kVal (.slice A1 v.length c2) v, rsl kStr (.slice A6 full.length c7) full]) mo (by kernel_rfl) (fun w H => ⟨_, H⟩) H (fun w H => (d_1 rfl ?_))
           have th68 := H.thR 0 rfl hx65
           refine d_val rfl rfl rfl (fun w ⟨Ar, H⟩ => r_iaE (p := oOf A1 + 0 * 3) rfl sl102 rfl rfl (by omega) (by omega) th68 (by omega)) (d_val rfl rfl rfl (fun w ⟨Ar, H⟩ => r_fa rfl fo104_1 rfl) (d_val rfl rfl rfl (fun w ⟨Ar, H⟩ => r_ld rfl ty2 rfl (H.elR 0 rfl hx65 (q := 1) rfl rfl)) (d_1 rfl ?_)))
           have th69 := H.thR 0 rfl hx67
           refine d_val rfl rfl rfl (fun w ⟨Ar, H⟩ => r_iaE (p := oOf A1 + 1 * 3) rfl sl102 rfl rfl (by omega) (by omega) th69 (by omega)) (d_val rfl rfl rfl (fun w ⟨Ar, H⟩ => r_fa rfl fo104_1 rfl) (d_val rfl rfl rfl (fun w ⟨Ar, H⟩ => r_ld rfl ty2 rfl (H.elR 0 rfl hx67 (q := 1) rfl rfl)) (d_val rfl rfl rfl (fun w ⟨Ar, H⟩ => r_lt rfl rfl rfl) (d_main rfl (sc (rFlag_ok (decide (x64.n < x66.n))) H l0 rfl rfl (e_fn kn144 rfl rfl) ?_)))))
           rintro _ _ w ⟨rfl, rfl⟩ H
           refine d_back ⟨_, H⟩ (d_main rfl (s_bsl (parts := [(0, .tmp 133)]) (vs := [.agg #[.bool false, .int .i64 (if (decide (x64.n < x66.n)) = true then 1 else 0), .string ⟨#[]⟩]]) (cs := [.bool false, .int .i64 (if (decide (x64.n < x66.n)) = true then 1 else 0), .string ⟨#[]⟩]) rfl rfl rfl sl102 zr104 rfl (by decide) (by decide) rfl rfl H (fun b70 w H => ?_)))
           replace H := H.p3
           replace H := H.p3
           replace H := H.p3
           replace H : Hd _ _ _ [blk b11 [.int .i64 i.op, .int .i64 i.a, .string i.s] 29, blk m (machC sv g key (.slice A6 full.length c7) ((k : Nat) : Int) tv) 154, osl kPair tv told, blk b70 [.bool false, .int .i64 (if (decide (x64.n < x66.n)) = true then 1 else 0), .string ⟨#[]⟩] 104] [rsl kVal (.slice A1 v.length c2) v, rsl kStr (.slice A6 full.length c7) full] := H
           refine d_back ⟨_, H⟩ (d_1 rfl (d_1 rfl (d_nil (q_then (c_ret (q_blockR (q_thenR (q_ret2 rfl rfl rfl ?_))))))))
           replace H := H.p3
           replace H : Hd w0 F0 w [osl kVal (.slice (some ⟨b70, 0, none⟩) 1 1) [(⟨false, if (decide (x64.n < x66.n)) = true then 1 else 0, ⟨#[]⟩⟩ : Val)], blk b11 [.int .i64 i.op, .int .i64 i.a, .string i.s] 29, blk m (machC sv g key (.slice A6 full.length c7) ((k : Nat) : Int) tv) 154, osl kPair tv told] [rsl kVal (.slice A1 v.length c2) v, rsl kStr (.slice A6 full.length c7) full] := H.turn (fun F h => blk_osl h rfl (by decide) rfl)
           replace H := H.p3
           replace H := H.p3
           replace H := H.k3
           have e : refM dg key g full k told i v = (⟨[(⟨false, if (decide (x64.n < x66.n)) = true then 1 else 0, ⟨#[]⟩⟩ : Val)], 0, g, k, told⟩ : Ref) := by
             rw [rf_8 (by omega), h63, getD_at hx65, getD_at hx67]; simp [numM, vint]
           replace H : Hd _ _ _ [blk m (machC sv g key (.slice A6 full.length c7) ((k : Nat) : Int) tv) 154, osl kPair tv told, osl kVal (.slice (some ⟨b70, 0, none⟩) 1 1) [(⟨false, if (decide (x64.n < x66.n)) = true then 1 else 0, ⟨#[]⟩⟩ : Val)]] [rsl kVal (.slice A1 v.length c2) v, rsl kStr (.slice A6 full.length c7) full] := H
           exact fin ⟨_, _, by rw [e] <;> rfl, by rw [e] <;> rfl⟩ H
          ·refine c_seq (c_reg (s_val rfl rfl (r_eq rfl rfl rfl) (s_1 rfl (s_nil (q_then ?_)))))
           refine c_dec (p := i.op = 12) rfl (fun h71 => ?_) (fun h71 => ?_)
           ·have hks : (kindsS i.op).size = 2 := by rw [h71]; rfl
            refine c_seq ?_
            obtain ⟨x72, hx73⟩ : ∃ z9, v[0]? = some z9 := ⟨_, List.getElem?_eq_getElem (show 0 < v.length by omega)⟩
            have okx72 := hok.1 _ (at_mem hx73)
            have szx72 := okx72.2
            have inx72 := okx72.1
            obtain ⟨x74, hx75⟩ : ∃ z9, v[1]? = some z9 := ⟨_, List.getElem?_eq_getElem (show 1 < v.length by omega)⟩
            have okx74 := hok.1 _ (at_mem hx75)
            have szx74 := okx74.2
            have inx74 := okx74.1
            refine c_ord (.e 0 (.e 1 (.e 2 (.e 3 (.e 4 (.e 5 (.m 6 (.m 7 (.m 8 (.e 9 (.e 10 .z))))))))))) (fun w => ∃ Ar, Hd w0 F0 w (blk b11 [.int .i64 i.op, .int .i64 i.a, .string i.s] 29 :: blk m (machC sv g key (.slice A6 full.length c7) ((k : Nat) : Int) tv) 154 :: osl kPair tv told :: Ar) [rsl kVal (.slice A1 v.length c2) v, rsl kStr (.slice A6 full.length c7) full]) mo (by kernel_rfl) (fun w H => ⟨_, H⟩) H (fun w H => (d_1 rfl ?_))
            have th76 := H.thR 0 rfl hx73
            refine d_val rfl rfl rfl (fun w ⟨Ar, H⟩ => r_iaE (p := oOf A1 + 0 * 3) rfl sl102 rfl rfl (by omega) (by omega) th76 (by omega)) (d_val rfl rfl rfl (fun w ⟨Ar, H⟩ => r_ldA (cs := [.bool x72.t, .int .i64 x72.n, .string x72.b]) rfl ty104 rfl rfl (H.elsR 0 rfl hx73 rfl)) (d_1 rfl ?_))
            have th77 := H.thR 0 rfl hx75
            refine d_val rfl rfl rfl (fun w ⟨Ar, H⟩ => r_iaE (p := oOf A1 + 1 * 3) rfl sl102 rfl rfl (by omega) (by omega) th77 (by omega)) (d_val rfl rfl rfl (fun w ⟨Ar, H⟩ => r_ldA (cs := [.bool x74.t, .int .i64 x74.n, .string x74.b]) rfl ty104 rfl rfl (H.elsR 0 rfl hx75 rfl)) (d_main rfl (sc (rSameV_ok x72 x74) H l0 rfl rfl (e_fn kn145 rfl rfl) ?_)))
            rintro _ _ w ⟨rfl, rfl⟩ H
            refine d_back ⟨_, H⟩ (d_main rfl (sc (rFlag_ok (sameV x72 x74)) H l0 rfl rfl (e_fn kn144 rfl rfl) ?_))
            rintro _ _ w ⟨rfl, rfl⟩ H
            refine d_back ⟨_, H⟩ (d_main rfl (s_bsl (parts := [(0, .tmp 144)]) (vs := [.agg #[.bool false, .int .i64 (if (sameV x72 x74) = true then 1 else 0), .string ⟨#[]⟩]]) (cs := [.bool false, .int .i64 (if (sameV x72 x74) = true then 1 else 0), .string ⟨#[]⟩]) rfl rfl rfl sl102 zr104 rfl (by decide) (by decide) rfl rfl H (fun b78 w H => ?_)))
            replace H := H.p3
            replace H := H.p3
            replace H := H.p3
            replace H : Hd _ _ _ [blk b11 [.int .i64 i.op, .int .i64 i.a, .string i.s] 29, blk m (machC sv g key (.slice A6 full.length c7) ((k : Nat) : Int) tv) 154, osl kPair tv told, blk b78 [.bool false, .int .i64 (if (sameV x72 x74) = true then 1 else 0), .string ⟨#[]⟩] 104] [rsl kVal (.slice A1 v.length c2) v, rsl kStr (.slice A6 full.length c7) full] := H
            refine d_back ⟨_, H⟩ (d_1 rfl (d_1 rfl (d_nil (q_then (c_ret (q_blockR (q_thenR (q_ret2 rfl rfl rfl ?_))))))))
            replace H := H.p3
            replace H : Hd w0 F0 w [osl kVal (.slice (some ⟨b78, 0, none⟩) 1 1) [(⟨false, if (sameV x72 x74) = true then 1 else 0, ⟨#[]⟩⟩ : Val)], blk b11 [.int .i64 i.op, .int .i64 i.a, .string i.s] 29, blk m (machC sv g key (.slice A6 full.length c7) ((k : Nat) : Int) tv) 154, osl kPair tv told] [rsl kVal (.slice A1 v.length c2) v, rsl kStr (.slice A6 full.length c7) full] := H.turn (fun F h => blk_osl h rfl (by decide) rfl)
            replace H := H.p3
            replace H := H.p3
            replace H := H.k3
            have e : refM dg key g full k told i v = (⟨[(⟨false, if (sameV x72 x74) = true then 1 else 0, ⟨#[]⟩⟩ : Val)], 0, g, k, told⟩ : Ref) := by
              rw [rf_12 h71, getD_at hx73, getD_at hx75] <;> rfl
            replace H : Hd _ _ _ [blk m (machC sv g key (.slice A6 full.length c7) ((k : Nat) : Int) tv) 154, osl kPair tv told, osl kVal (.slice (some ⟨b78, 0, none⟩) 1 1) [(⟨false, if (sameV x72 x74) = true then 1 else 0, ⟨#[]⟩⟩ : Val)]] [rsl kVal (.slice A1 v.length c2) v, rsl kStr (.slice A6 full.length c7) full] := H
            exact fin ⟨_, _, by rw [e] <;> rfl, by rw [e] <;> rfl⟩ H
           ·refine c_seq (c_reg (s_val rfl rfl (r_eq rfl rfl rfl) (s_1 rfl (s_nil (q_then ?_)))))
            refine c_dec (p := i.op = 13) rfl (fun h79 => ?_) (fun h79 => ?_)
            ·have hks : (kindsS i.op).size = 2 := by rw [h79]; rfl
             refine c_seq ?_
             obtain ⟨x80, hx81⟩ : ∃ z9, v[0]? = some z9 := ⟨_, List.getElem?_eq_getElem (show 0 < v.length by omega)⟩
             have okx80 := hok.1 _ (at_mem hx81)
             have szx80 := okx80.2
             have inx80 := okx80.1
             obtain ⟨x82, hx83⟩ : ∃ z9, v[1]? = some z9 := ⟨_, List.getElem?_eq_getElem (show 1 < v.length by omega)⟩
             have okx82 := hok.1 _ (at_mem hx83)
             have szx82 := okx82.2
             have inx82 := okx82.1
             refine c_ord (.e 0 (.e 1 (.e 2 (.e 3 (.e 4 (.e 5 (.e 6 (.e 7 (.e 8 (.m 9 (.m 10 (.e 11 (.e 12 .z))))))))))))) (fun w => ∃ Ar, Hd w0 F0 w (blk b11 [.int .i64 i.op, .int .i64 i.a, .string i.s] 29 :: blk m (machC sv g key (.slice A6 full.length c7) ((k : Nat) : Int) tv) 154 :: osl kPair tv told :: Ar) [rsl kVal (.slice A1 v.length c2) v, rsl kStr (.slice A6 full.length c7) full]) mo (by kernel_rfl) (fun w H => ⟨_, H⟩) H (fun w H => (d_1 rfl ?_))
             have th84 := H.thR 0 rfl hx81
             refine d_val rfl rfl rfl (fun w ⟨Ar, H⟩ => r_iaE (p := oOf A1 + 0 * 3) rfl sl102 rfl rfl (by omega) (by omega) th84 (by omega)) (d_val rfl rfl rfl (fun w ⟨Ar, H⟩ => r_fa rfl fo104_2 rfl) (d_val rfl rfl rfl (fun w ⟨Ar, H⟩ => r_ld rfl ty9 rfl (H.elR 0 rfl hx81 (q := 2) rfl rfl)) (d_1 rfl ?_)))
             have th85 := H.thR 0 rfl hx83
             refine d_val rfl rfl rfl (fun w ⟨Ar, H⟩ => r_iaE (p := oOf A1 + 1 * 3) rfl sl102 rfl rfl (by omega) (by omega) th85 (by omega)) (d_val rfl rfl rfl (fun w ⟨Ar, H⟩ => r_fa rfl fo104_2 rfl) (d_val rfl rfl rfl (fun w ⟨Ar, H⟩ => r_ld rfl ty9 rfl (H.elR 0 rfl hx83 (q := 2) rfl rfl)) (d_val rfl rfl rfl (fun w ⟨Ar, H⟩ => r_addS rfl rfl rfl (by omega)) (d_main rfl (sc (rBytes_ok (x80.b ++ x82.b)) H l0 rfl rfl (e_fn kn143 rfl rfl) ?_)))))
             rintro _ _ w ⟨rfl, rfl⟩ H
             refine d_back ⟨_, H⟩ (d_main rfl (s_bsl (parts := [(0, .tmp 157)]) (vs := [.agg #[.bool true, .int .i64 0, .string (x80.b ++ x82.b)]]) (cs := [.bool true, .int .i64 0, .string (x80.b ++ x82.b)]) rfl rfl rfl sl102 zr104 rfl (by decide) (by decide) rfl rfl H (fun b86 w H => ?_)))
             replace H := H.p3
             replace H := H.p3
             replace H := H.p3
             replace H : Hd _ _ _ [blk b11 [.int .i64 i.op, .int .i64 i.a, .string i.s] 29, blk m (machC sv g key (.slice A6 full.length c7) ((k : Nat) : Int) tv) 154, osl kPair tv told, blk b86 [.bool true, .int .i64 0, .string (x80.b ++ x82.b)] 104] [rsl kVal (.slice A1 v.length c2) v, rsl kStr (.slice A6 full.length c7) full] := H
             refine d_back ⟨_, H⟩ (d_1 rfl (d_1 rfl (d_nil (q_then (c_ret (q_blockR (q_thenR (q_ret2 rfl rfl rfl ?_))))))))
             replace H := H.p3
             replace H : Hd w0 F0 w [osl kVal (.slice (some ⟨b86, 0, none⟩) 1 1) [(⟨true, 0, (x80.b ++ x82.b)⟩ : Val)], blk b11 [.int .i64 i.op, .int .i64 i.a, .string i.s] 29, blk m (machC sv g key (.slice A6 full.length c7) ((k : Nat) : Int) tv) 154, osl kPair tv told] [rsl kVal (.slice A1 v.length c2) v, rsl kStr (.slice A6 full.length c7) full] := H.turn (fun F h => blk_osl h rfl (by decide) rfl)
             replace H := H.p3
             replace H := H.p3
             replace H := H.k3
             have e : refM dg key g full k told i v = (⟨[(⟨true, 0, (x80.b ++ x82.b)⟩ : Val)], 0, g, k, told⟩ : Ref) := by
               rw [rf_13 h79, getD_at hx81, getD_at hx83] <;> rfl
             replace H : Hd _ _ _ [blk m (machC sv g key (.slice A6 full.length c7) ((k : Nat) : Int) tv) 154, osl kPair tv told, osl kVal (.slice (some ⟨b86, 0, none⟩) 1 1) [(⟨true, 0, (x80.b ++ x82.b)⟩ : Val)]] [rsl kVal (.slice A1 v.length c2) v, rsl kStr (.slice A6 full.length c7) full] := H
             exact fin ⟨_, _, by rw [e] <;> rfl, by rw [e] <;> rfl⟩ H
            ·refine c_seq (c_reg (s_val rfl rfl (r_eq rfl rfl rfl) (s_1 rfl (s_nil (q_then ?_)))))
             refine c_dec (p := i.op = 14) rfl (fun h87 => ?_) (fun h87 => ?_)
             ·have hks : (kindsS i.op).size = 1 := by rw [h87]; rfl
              refine c_seq ?_
              obtain ⟨x88, hx89⟩ : ∃ z9, v[0]? = some z9 := ⟨_, List.getElem?_eq_getElem (show 0 < v.length by omega)⟩
              have okx88 := hok.1 _ (at_mem hx89)
              have szx88 := okx88.2
              have inx88 := okx88.1
              refine c_reg (s_1 rfl ?_)
              have th90 := H.thR 0 rfl hx89
              refine s_val rfl rfl (r_iaE (p := oOf A1 + 0 * 3) rfl sl102 rfl rfl (by omega) (by omega) th90 (by omega)) (s_val rfl rfl (r_fa rfl fo104_2 rfl) (s_val rfl rfl (r_ld rfl ty9 rfl (H.elR 0 rfl hx89 (q := 2) rfl rfl)) (s_val rfl rfl (r_lenS rfl un9 rfl) (sc (rInt_ok ((x88.b.size : Nat) : Int)) H l0 rfl rfl (e_fn kn142 rfl rfl) ?_))))
              rintro _ _ w ⟨rfl, rfl⟩ H
              refine s_bsl (parts := [(0, .tmp 166)]) (vs := [.agg #[.bool false, .int .i64 ((x88.b.size : Nat) : Int), .string ⟨#[]⟩]]) (cs := [.bool false, .int .i64 ((x88.b.size : Nat) : Int), .string ⟨#[]⟩]) rfl rfl rfl sl102 zr104 rfl (by decide) (by decide) rfl rfl H (fun b91 w H => (s_k 2 rfl (s_nil (q_then ?_))))
              replace H := H.h1 (A := blk b91 [.bool false, .int .i64 ((x88.b.size : Nat) : Int), .string ⟨#[]⟩] 104)
              refine c_ret (q_blockR (q_thenR (q_ret2 rfl rfl rfl ?_)))
              replace H : Hd w0 F0 w [osl kVal (.slice (some ⟨b91, 0, none⟩) 1 1) [(⟨false, ((x88.b.size : Nat) : Int), ⟨#[]⟩⟩ : Val)], blk b11 [.int .i64 i.op, .int .i64 i.a, .string i.s] 29, blk m (machC sv g key (.slice A6 full.length c7) ((k : Nat) : Int) tv) 154, osl kPair tv told] [rsl kVal (.slice A1 v.length c2) v, rsl kStr (.slice A6 full.length c7) full] := H.turn (fun F h => blk_osl h rfl (by decide) rfl)
              replace H := H.p3
              replace H := H.p3
              replace H := H.k3
              have e : refM dg key g full k told i v = (⟨[(⟨false, ((x88.b.size : Nat) : Int), ⟨#[]⟩⟩ : Val)], 0, g, k, told⟩ : Ref) := by
                rw [rf_14 h87, getD_at hx89] <;> rfl
              replace H : Hd _ _ _ [blk m (machC sv g key (.slice A6 full.length c7) ((k : Nat) : Int) tv) 154, osl kPair tv told, osl kVal (.slice (some ⟨b91, 0, none⟩) 1 1) [(⟨false, ((x88.b.size : Nat) : Int), ⟨#[]⟩⟩ : Val)]] [rsl kVal (.slice A1 v.length c2) v, rsl kStr (.slice A6 full.length c7) full] := H
              exact fin ⟨_, _, by rw [e] <;> rfl, by rw [e] <;> rfl⟩ H
             ·refine c_seq (c_reg (s_val rfl rfl (r_eq rfl rfl rfl) (s_1 rfl (s_nil (q_then ?_)))))
              refine c_dec (p := i.op = 15) rfl (fun h92 => ?_) (fun h92 => ?_)
              ·have hks : (kindsS i.op).size = 2 := by rw [h92]; rfl
               refine c_seq ?_
               obtain ⟨x93, hx94⟩ : ∃ z9, v[0]? = some z9 := ⟨_, List.getElem?_eq_getElem (show 0 < v.length by omega)⟩
               have okx93 := hok.1 _ (at_mem hx94)
               have szx93 := okx93.2
               have inx93 := okx93.1
               obtain ⟨x95, hx96⟩ : ∃ z9, v[1]? = some z9 := ⟨_, List.getElem?_eq_getElem (show 1 < v.length by omega)⟩
               have okx95 := hok.1 _ (at_mem hx96)
               have szx95 := okx95.2
               have inx95 := okx95.1
               refine c_ord (.e 0 (.e 1 (.e 2 (.e 3 (.e 4 (.e 5 (.e 6 (.e 7 (.m 8 (.m 9 (.m 10 (.e 11 (.e 12 .z))))))))))))) (fun w => ∃ Ar, Hd w0 F0 w (blk b11 [.int .i64 i.op, .int .i64 i.a, .string i.s] 29 :: blk m (machC sv g key (.slice A6 full.length c7) ((k : Nat) : Int) tv) 154 :: osl kPair tv told :: Ar) [rsl kVal (.slice A1 v.length c2) v, rsl kStr (.slice A6 full.length c7) full]) mo (by kernel_rfl) (fun w H => ⟨_, H⟩) H (fun w H => (d_1 rfl ?_))
               have th97 := H.thR 0 rfl hx94
               refine d_val rfl rfl rfl (fun w ⟨Ar, H⟩ => r_iaE (p := oOf A1 + 0 * 3) rfl sl102 rfl rfl (by omega) (by omega) th97 (by omega)) (d_val rfl rfl rfl (fun w ⟨Ar, H⟩ => r_fa rfl fo104_2 rfl) (d_val rfl rfl rfl (fun w ⟨Ar, H⟩ => r_ld rfl ty9 rfl (H.elR 0 rfl hx94 (q := 2) rfl rfl)) (d_1 rfl ?_)))
               have th98 := H.thR 0 rfl hx96
               refine d_val rfl rfl rfl (fun w ⟨Ar, H⟩ => r_iaE (p := oOf A1 + 1 * 3) rfl sl102 rfl rfl (by omega) (by omega) th98 (by omega)) (d_val rfl rfl rfl (fun w ⟨Ar, H⟩ => r_fa rfl fo104_1 rfl) (d_val rfl rfl rfl (fun w ⟨Ar, H⟩ => r_ld rfl ty2 rfl (H.elR 0 rfl hx96 (q := 1) rfl rfl)) (d_main rfl (sc (rAt_ok x93.b x95.n) H l0 rfl rfl (e_fn kn146 rfl rfl) ?_))))
               rintro _ _ w ⟨rfl, rfl⟩ H
               refine d_back ⟨_, H⟩ (d_main rfl (sc (rInt_ok (atS x93.b x95.n)) H l0 rfl rfl (e_fn kn142 rfl rfl) ?_))
               rintro _ _ w ⟨rfl, rfl⟩ H
               refine d_back ⟨_, H⟩ (d_main rfl (s_bsl (parts := [(0, .tmp 179)]) (vs := [.agg #[.bool false, .int .i64 (atS x93.b x95.n), .string ⟨#[]⟩]]) (cs := [.bool false, .int .i64 (atS x93.b x95.n), .string ⟨#[]⟩]) rfl rfl rfl sl102 zr104 rfl (by decide) (by decide) rfl rfl H (fun b99 w H => ?_)))
               replace H := H.p3
               replace H := H.p3
               replace H := H.p3
               replace H : Hd _ _ _ [blk b11 [.int .i64 i.op, .int .i64 i.a, .string i.s] 29, blk m (machC sv g key (.slice A6 full.length c7) ((k : Nat) : Int) tv) 154, osl kPair tv told, blk b99 [.bool false, .int .i64 (atS x93.b x95.n), .string ⟨#[]⟩] 104] [rsl kVal (.slice A1 v.length c2) v, rsl kStr (.slice A6 full.length c7) full] := H
               refine d_back ⟨_, H⟩ (d_1 rfl (d_1 rfl (d_nil (q_then (c_ret (q_blockR (q_thenR (q_ret2 rfl rfl rfl ?_))))))))
               replace H := H.p3
               replace H : Hd w0 F0 w [osl kVal (.slice (some ⟨b99, 0, none⟩) 1 1) [(⟨false, atS x93.b x95.n, ⟨#[]⟩⟩ : Val)], blk b11 [.int .i64 i.op, .int .i64 i.a, .string i.s] 29, blk m (machC sv g key (.slice A6 full.length c7) ((k : Nat) : Int) tv) 154, osl kPair tv told] [rsl kVal (.slice A1 v.length c2) v, rsl kStr (.slice A6 full.length c7) full] := H.turn (fun F h => blk_osl h rfl (by decide) rfl)
               replace H := H.p3
               replace H := H.p3
               replace H := H.k3
               have e : refM dg key g full k told i v = (⟨[(⟨false, atS x93.b x95.n, ⟨#[]⟩⟩ : Val)], 0, g, k, told⟩ : Ref) := by
                 rw [rf_15 h92, getD_at hx94, getD_at hx96] <;> rfl
               replace H : Hd _ _ _ [blk m (machC sv g key (.slice A6 full.length c7) ((k : Nat) : Int) tv) 154, osl kPair tv told, osl kVal (.slice (some ⟨b99, 0, none⟩) 1 1) [(⟨false, atS x93.b x95.n, ⟨#[]⟩⟩ : Val)]] [rsl kVal (.slice A1 v.length c2) v, rsl kStr (.slice A6 full.length c7) full] := H
               exact fin ⟨_, _, by rw [e] <;> rfl, by rw [e] <;> rfl⟩ H
              ·refine c_seq (c_reg (s_val rfl rfl (r_eq rfl rfl rfl) (s_1 rfl (s_nil (q_then ?_)))))
               refine c_dec (p := i.op = 16) rfl (fun h100 => ?_) (fun h100 => ?_)
               ·have hks : (kindsS i.op).size = 3 := by rw [h100]; rfl
                refine c_seq ?_
                obtain ⟨x101, hx102⟩ : ∃ z9, v[0]? = some z9 := ⟨_, List.getElem?_eq_getElem (show 0 < v.length by omega)⟩
                have okx101 := hok.1 _ (at_mem hx102)
                have szx101 := okx101.2
                have inx101 := okx101.1
                obtain ⟨x103, hx104⟩ : ∃ z9, v[1]? = some z9 := ⟨_, List.getElem?_eq_getElem (show 1 < v.length by omega)⟩
                have okx103 := hok.1 _ (at_mem hx104)
                have szx103 := okx103.2
                have inx103 := okx103.1
                obtain ⟨x105, hx106⟩ : ∃ z9, v[2]? = some z9 := ⟨_, List.getElem?_eq_getElem (show 2 < v.length by omega)⟩
                have okx105 := hok.1 _ (at_mem hx106)
                have szx105 := okx105.2
                have inx105 := okx105.1
                refine c_ord (.e 0 (.e 1 (.e 2 (.e 3 (.e 4 (.e 5 (.e 6 (.e 7 (.e 8 (.e 9 (.e 10 (.e 11 (.m 12 (.m 13 (.m 14 (.e 15 (.e 16 .z))))))))))))))))) (fun w => ∃ Ar, Hd w0 F0 w (blk b11 [.int .i64 i.op, .int .i64 i.a, .string i.s] 29 :: blk m (machC sv g key (.slice A6 full.length c7) ((k : Nat) : Int) tv) 154 :: osl kPair tv told :: Ar) [rsl kVal (.slice A1 v.length c2) v, rsl kStr (.slice A6 full.length c7) full]) mo (by kernel_rfl) (fun w H => ⟨_, H⟩) H (fun w H => (d_1 rfl ?_))
                have th107 := H.thR 0 rfl hx102
                refine d_val rfl rfl rfl (fun w ⟨Ar, H⟩ => r_iaE (p := oOf A1 + 0 * 3) rfl sl102 rfl rfl (by omega) (by omega) th107 (by omega)) (d_val rfl rfl rfl (fun w ⟨Ar, H⟩ => r_fa rfl fo104_2 rfl) (d_val rfl rfl rfl (fun w ⟨Ar, H⟩ => r_ld rfl ty9 rfl (H.elR 0 rfl hx102 (q := 2) rfl rfl)) (d_1 rfl ?_)))
                have th108 := H.thR 0 rfl hx104
                refine d_val rfl rfl rfl (fun w ⟨Ar, H⟩ => r_iaE (p := oOf A1 + 1 * 3) rfl sl102 rfl rfl (by omega) (by omega) th108 (by omega)) (d_val rfl rfl rfl (fun w ⟨Ar, H⟩ => r_fa rfl fo104_1 rfl) (d_val rfl rfl rfl (fun w ⟨Ar, H⟩ => r_ld rfl ty2 rfl (H.elR 0 rfl hx104 (q := 1) rfl rfl)) (d_1 rfl ?_)))
                have th109 := H.thR 0 rfl hx106
                refine d_val rfl rfl rfl (fun w ⟨Ar, H⟩ => r_iaE (p := oOf A1 + 2 * 3) rfl sl102 rfl rfl (by omega) (by omega) th109 (by omega)) (d_val rfl rfl rfl (fun w ⟨Ar, H⟩ => r_fa rfl fo104_1 rfl) (d_val rfl rfl rfl (fun w ⟨Ar, H⟩ => r_ld rfl ty2 rfl (H.elR 0 rfl hx106 (q := 1) rfl rfl)) (d_main rfl (sc (rCut_ok x101.b x103.n x105.n) H l0 rfl rfl (e_fn kn147 rfl rfl) ?_))))
                rintro _ _ w ⟨rfl, rfl⟩ H
                refine d_back ⟨_, H⟩ (d_main rfl (sc (rBytes_ok (cutS x101.b x103.n x105.n)) H l0 rfl rfl (e_fn kn143 rfl rfl) ?_))
                rintro _ _ w ⟨rfl, rfl⟩ H
                refine d_back ⟨_, H⟩ (d_main rfl (s_bsl (parts := [(0, .tmp 196)]) (vs := [.agg #[.bool true, .int .i64 0, .string (cutS x101.b x103.n x105.n)]]) (cs := [.bool true, .int .i64 0, .string (cutS x101.b x103.n x105.n)]) rfl rfl rfl sl102 zr104 rfl (by decide) (by decide) rfl rfl H (fun b110 w H => ?_)))
                replace H := H.p3
                replace H := H.p3
                replace H := H.p3
                replace H : Hd _ _ _ [blk b11 [.int .i64 i.op, .int .i64 i.a, .string i.s] 29, blk m (machC sv g key (.slice A6 full.length c7) ((k : Nat) : Int) tv) 154, osl kPair tv told, blk b110 [.bool true, .int .i64 0, .string (cutS x101.b x103.n x105.n)] 104] [rsl kVal (.slice A1 v.length c2) v, rsl kStr (.slice A6 full.length c7) full] := H
                refine d_back ⟨_, H⟩ (d_1 rfl (d_1 rfl (d_nil (q_then (c_ret (q_blockR (q_thenR (q_ret2 rfl rfl rfl ?_))))))))
                replace H := H.p3
                replace H : Hd w0 F0 w [osl kVal (.slice (some ⟨b110, 0, none⟩) 1 1) [(⟨true, 0, (cutS x101.b x103.n x105.n)⟩ : Val)], blk b11 [.int .i64 i.op, .int .i64 i.a, .string i.s] 29, blk m (machC sv g key (.slice A6 full.length c7) ((k : Nat) : Int) tv) 154, osl kPair tv told] [rsl kVal (.slice A1 v.length c2) v, rsl kStr (.slice A6 full.length c7) full] := H.turn (fun F h => blk_osl h rfl (by decide) rfl)
                replace H := H.p3
                replace H := H.p3
                replace H := H.k3
                have e : refM dg key g full k told i v = (⟨[(⟨true, 0, (cutS x101.b x103.n x105.n)⟩ : Val)], 0, g, k, told⟩ : Ref) := by
                  rw [rf_16 h100, getD_at hx102, getD_at hx104, getD_at hx106] <;> rfl
                replace H : Hd _ _ _ [blk m (machC sv g key (.slice A6 full.length c7) ((k : Nat) : Int) tv) 154, osl kPair tv told, osl kVal (.slice (some ⟨b110, 0, none⟩) 1 1) [(⟨true, 0, (cutS x101.b x103.n x105.n)⟩ : Val)]] [rsl kVal (.slice A1 v.length c2) v, rsl kStr (.slice A6 full.length c7) full] := H
                exact fin ⟨_, _, by rw [e] <;> rfl, by rw [e] <;> rfl⟩ H
               ·refine c_seq (c_reg (s_val rfl rfl (r_eq rfl rfl rfl) (s_1 rfl (s_nil (q_then ?_)))))
                refine c_dec (p := i.op = 17) rfl (fun h111 => ?_) (fun h111 => ?_)
                ·have hks : (kindsS i.op).size = 1 := by rw [h111]; rfl
                 refine c_seq ?_
                 obtain ⟨x112, hx113⟩ : ∃ z9, v[0]? = some z9 := ⟨_, List.getElem?_eq_getElem (show 0 < v.length by omega)⟩
                 have okx112 := hok.1 _ (at_mem hx113)
                 have szx112 := okx112.2
                 have inx112 := okx112.1
                 refine c_reg (s_1 rfl ?_)
                 have th114 := H.thR 0 rfl hx113
                 refine s_val rfl rfl (r_iaE (p := oOf A1 + 0 * 3) rfl sl102 rfl rfl (by omega) (by omega) th114 (by omega)) (s_val rfl rfl (r_fa rfl fo104_1 rfl) (s_val rfl rfl (r_ld rfl ty2 rfl (H.elR 0 rfl hx113 (q := 1) rfl rfl)) (sc (rDigits_ok x112.n (by assumption)) H l0 rfl rfl (e_fn kn148 rfl rfl) ?_)))
                 rintro _ _ w ⟨rfl, rfl⟩ H
                 refine sc (rBytes_ok (dg.dig x112.n)) H l0 rfl rfl (e_fn kn143 rfl rfl) ?_
                 rintro _ _ w ⟨rfl, rfl⟩ H
                 refine s_bsl (parts := [(0, .tmp 205)]) (vs := [.agg #[.bool true, .int .i64 0, .string (dg.dig x112.n)]]) (cs := [.bool true, .int .i64 0, .string (dg.dig x112.n)]) rfl rfl rfl sl102 zr104 rfl (by decide) (by decide) rfl rfl H (fun b115 w H => (s_k 2 rfl (s_nil (q_then ?_))))
                 replace H := H.h1 (A := blk b115 [.bool true, .int .i64 0, .string (dg.dig x112.n)] 104)
                 refine c_ret (q_blockR (q_thenR (q_ret2 rfl rfl rfl ?_)))
                 replace H : Hd w0 F0 w [osl kVal (.slice (some ⟨b115, 0, none⟩) 1 1) [(⟨true, 0, (dg.dig x112.n)⟩ : Val)], blk b11 [.int .i64 i.op, .int .i64 i.a, .string i.s] 29, blk m (machC sv g key (.slice A6 full.length c7) ((k : Nat) : Int) tv) 154, osl kPair tv told] [rsl kVal (.slice A1 v.length c2) v, rsl kStr (.slice A6 full.length c7) full] := H.turn (fun F h => blk_osl h rfl (by decide) rfl)
                 replace H := H.p3
                 replace H := H.p3
                 replace H := H.k3
                 have e : refM dg key g full k told i v = (⟨[(⟨true, 0, (dg.dig x112.n)⟩ : Val)], 0, g, k, told⟩ : Ref) := by
                   rw [rf_17 h111, getD_at hx113] <;> rfl
                 replace H : Hd _ _ _ [blk m (machC sv g key (.slice A6 full.length c7) ((k : Nat) : Int) tv) 154, osl kPair tv told, osl kVal (.slice (some ⟨b115, 0, none⟩) 1 1) [(⟨true, 0, (dg.dig x112.n)⟩ : Val)]] [rsl kVal (.slice A1 v.length c2) v, rsl kStr (.slice A6 full.length c7) full] := H
                 exact fin ⟨_, _, by rw [e] <;> rfl, by rw [e] <;> rfl⟩ H
                ·refine c_seq (c_reg (s_val rfl rfl (r_eq rfl rfl rfl) (s_1 rfl (s_nil (q_then ?_)))))
                 refine c_dec (p := i.op = 18) rfl (fun h116 => ?_) (fun h116 => ?_)
                 ·have hks : (kindsS i.op).size = 1 := by rw [h116]; rfl
                  refine c_seq ?_
                  obtain ⟨x117, hx118⟩ : ∃ z9, v[0]? = some z9 := ⟨_, List.getElem?_eq_getElem (show 0 < v.length by omega)⟩
                  have okx117 := hok.1 _ (at_mem hx118)
                  have szx117 := okx117.2
                  have inx117 := okx117.1
                  refine c_reg (s_1 rfl ?_)
                  have th119 := H.thR 0 rfl hx118
                  refine s_val rfl rfl (r_iaE (p := oOf A1 + 0 * 3) rfl sl102 rfl rfl (by omega) (by omega) th119 (by omega)) (s_val rfl rfl (r_fa rfl fo104_2 rfl) (s_val rfl rfl (r_ld rfl ty9 rfl (H.elR 0 rfl hx118 (q := 2) rfl rfl)) (sc (rNumber_ok x117.b (by first | omega | decide)) H l0 rfl rfl (e_fn kn149 rfl rfl) ?_)))
                  rintro _ _ w ⟨rfl, rfl⟩ H
                  refine sc (rInt_ok (dg.num x117.b)) H l0 rfl rfl (e_fn kn142 rfl rfl) ?_
                  rintro _ _ w ⟨rfl, rfl⟩ H
                  refine s_bsl (parts := [(0, .tmp 214)]) (vs := [.agg #[.bool false, .int .i64 (dg.num x117.b), .string ⟨#[]⟩]]) (cs := [.bool false, .int .i64 (dg.num x117.b), .string ⟨#[]⟩]) rfl rfl rfl sl102 zr104 rfl (by decide) (by decide) rfl rfl H (fun b120 w H => (s_k 2 rfl (s_nil (q_then ?_))))
                  replace H := H.h1 (A := blk b120 [.bool false, .int .i64 (dg.num x117.b), .string ⟨#[]⟩] 104)
                  refine c_ret (q_blockR (q_thenR (q_ret2 rfl rfl rfl ?_)))
                  replace H : Hd w0 F0 w [osl kVal (.slice (some ⟨b120, 0, none⟩) 1 1) [(⟨false, dg.num x117.b, ⟨#[]⟩⟩ : Val)], blk b11 [.int .i64 i.op, .int .i64 i.a, .string i.s] 29, blk m (machC sv g key (.slice A6 full.length c7) ((k : Nat) : Int) tv) 154, osl kPair tv told] [rsl kVal (.slice A1 v.length c2) v, rsl kStr (.slice A6 full.length c7) full] := H.turn (fun F h => blk_osl h rfl (by decide) rfl)
                  replace H := H.p3
                  replace H := H.p3
                  replace H := H.k3
                  have e : refM dg key g full k told i v = (⟨[(⟨false, dg.num x117.b, ⟨#[]⟩⟩ : Val)], 0, g, k, told⟩ : Ref) := by
                    rw [rf_18 h116, getD_at hx118] <;> rfl
                  replace H : Hd _ _ _ [blk m (machC sv g key (.slice A6 full.length c7) ((k : Nat) : Int) tv) 154, osl kPair tv told, osl kVal (.slice (some ⟨b120, 0, none⟩) 1 1) [(⟨false, dg.num x117.b, ⟨#[]⟩⟩ : Val)]] [rsl kVal (.slice A1 v.length c2) v, rsl kStr (.slice A6 full.length c7) full] := H
                  exact fin ⟨_, _, by rw [e] <;> rfl, by rw [e] <;> rfl⟩ H
                 ·refine c_seq (c_reg (s_val rfl rfl (r_eq rfl rfl rfl) (s_1 rfl (s_nil (q_then ?_)))))
                  refine c_dec (p := i.op = 21) rfl (fun h121 => ?_) (fun h121 => ?_)
                  ·have hks : (kindsS i.op).size = 0 := by rw [h121]; rfl
                   refine c_seq ?_
                   have hia := hi.2.2.2.2.2.1 (by omega)
                   obtain ⟨gk, hgk⟩ : ∃ z, z = g (i.a).toNat := ⟨_, rfl⟩
                   refine c_ord (.e 0 (.e 1 (.e 2 (.e 3 (.e 4 (.e 5 (.e 6 (.m 7 (.e 8 (.e 9 .z)))))))))) (fun w => ∃ Ar, Hd w0 F0 w (blk b11 [.int .i64 i.op, .int .i64 i.a, .string i.s] 29 :: blk m (machC sv g key (.slice A6 full.length c7) ((k : Nat) : Int) tv) 154 :: osl kPair tv told :: Ar) [rsl kVal (.slice A1 v.length c2) v, rsl kStr (.slice A6 full.length c7) full]) mo (by kernel_rfl) (fun w H => ⟨_, H⟩) H (fun w H => (d_1 rfl (d_val rfl rfl rfl (fun w ⟨Ar, H⟩ => r_fa rfl fo29_1 rfl) (d_val rfl rfl rfl (fun w ⟨Ar, H⟩ => r_ld rfl ty3 rfl (H.cellI 0 rfl rfl)) (d_val rfl rfl rfl (fun w ⟨Ar, H⟩ => r_nilP rfl rfl) (d_val rfl rfl rfl (fun w ⟨Ar, H⟩ => r_fa rfl fo154_1 rfl) (d_val rfl rfl rfl (fun w ⟨Ar, H⟩ => r_iaB (p := 1 + (i.a).toNat * 3) rfl un105 is104 rfl rfl (by omega) (by omega) (by omega)) (d_val rfl rfl rfl (fun w ⟨Ar, H⟩ => r_ldA (cs := [.bool gk.t, .int .i64 gk.n, .string gk.b]) rfl ty104 rfl rfl (H.cellsI 1 rfl (by rw [hgk]; exact machC_reg (by omega)))) ?_))))))))
                   refine d_main rfl (s_bsl (parts := [(0, .tmp 224)]) (vs := [.agg #[.bool gk.t, .int .i64 gk.n, .string gk.b]]) (cs := [.bool gk.t, .int .i64 gk.n, .string gk.b]) rfl rfl rfl sl102 zr104 rfl (by decide) (by decide) rfl rfl H (fun b122 w H => ?_))
                   replace H := H.p3
                   replace H := H.p3
                   replace H := H.p3
                   replace H : Hd _ _ _ [blk b11 [.int .i64 i.op, .int .i64 i.a, .string i.s] 29, blk m (machC sv g key (.slice A6 full.length c7) ((k : Nat) : Int) tv) 154, osl kPair tv told, blk b122 [.bool gk.t, .int .i64 gk.n, .string gk.b] 104] [rsl kVal (.slice A1 v.length c2) v, rsl kStr (.slice A6 full.length c7) full] := H
                   refine d_back ⟨_, H⟩ (d_1 rfl (d_1 rfl (d_nil (q_then (c_ret (q_blockR (q_thenR (q_ret2 rfl rfl rfl ?_))))))))
                   replace H := H.p3
                   replace H : Hd w0 F0 w [osl kVal (.slice (some ⟨b122, 0, none⟩) 1 1) [gk], blk b11 [.int .i64 i.op, .int .i64 i.a, .string i.s] 29, blk m (machC sv g key (.slice A6 full.length c7) ((k : Nat) : Int) tv) 154, osl kPair tv told] [rsl kVal (.slice A1 v.length c2) v, rsl kStr (.slice A6 full.length c7) full] := H.turn (fun F h => blk_osl h rfl (by decide) rfl)
                   replace H := H.p3
                   replace H := H.p3
                   replace H := H.k3
                   have e : refM dg key g full k told i v = (⟨[gk], 0, g, k, told⟩ : Ref) := by
                     rw [rf_21 h121, hgk]
                   replace H : Hd _ _ _ [blk m (machC sv g key (.slice A6 full.length c7) ((k : Nat) : Int) tv) 154, osl kPair tv told, osl kVal (.slice (some ⟨b122, 0, none⟩) 1 1) [gk]] [rsl kVal (.slice A1 v.length c2) v, rsl kStr (.slice A6 full.length c7) full] := H
                   exact fin ⟨_, _, by rw [e] <;> rfl, by rw [e] <;> rfl⟩ H
                  ·refine c_seq (c_reg (s_val rfl rfl (r_eq rfl rfl rfl) (s_1 rfl (s_nil (q_then ?_)))))
                   refine c_dec (p := i.op = 22) rfl (fun h123 => ?_) (fun h123 => ?_)
                   ·have hks : (kindsS i.op).size = 1 := by rw [h123]; rfl
                    have hia := hi.2.2.2.2.2.1 (by omega)
                    obtain ⟨x124, hx125⟩ : ∃ z9, v[0]? = some z9 := ⟨_, List.getElem?_eq_getElem (show 0 < v.length by omega)⟩
                    have okx124 := hok.1 _ (at_mem hx125)
                    have szx124 := okx124.2
                    have inx124 := okx124.1
                    replace H := H.p2
                    replace H := H.p1
                    refine c_ord (.e 0 (.e 1 (.e 2 (.e 3 (.e 4 (.e 5 (.e 6 (.e 7 (.e 8 (.m 9 .z)))))))))) (fun w => ∃ Ar, Hd w0 F0 w (blk b11 [.int .i64 i.op, .int .i64 i.a, .string i.s] 29 :: osl kPair tv told :: Ar) [rsl kVal (.slice A1 v.length c2) v, rsl kStr (.slice A6 full.length c7) full]) mo (by kernel_rfl) (fun w H => ⟨_, H⟩) H (fun w H => (d_1 rfl (d_val rfl rfl rfl (fun w ⟨Ar, H⟩ => r_fa rfl fo29_1 rfl) (d_val rfl rfl rfl (fun w ⟨Ar, H⟩ => r_ld rfl ty3 rfl (H.cellI 0 rfl rfl)) (d_1 rfl ?_)))))
                    have th126 := H.thR 0 rfl hx125
                    refine d_val rfl rfl rfl (fun w ⟨Ar, H⟩ => r_iaE (p := oOf A1 + 0 * 3) rfl sl102 rfl rfl (by omega) (by omega) th126 (by omega)) (d_val rfl rfl rfl (fun w ⟨Ar, H⟩ => r_ldA (cs := [.bool x124.t, .int .i64 x124.n, .string x124.b]) rfl ty104 rfl rfl (H.elsR 0 rfl hx125 rfl)) (d_val rfl rfl rfl (fun w ⟨Ar, H⟩ => r_nilP rfl rfl) (d_val rfl rfl rfl (fun w ⟨Ar, H⟩ => r_fa rfl fo154_1 rfl) (d_val rfl rfl rfl (fun w ⟨Ar, H⟩ => r_iaB (p := 1 + (i.a).toNat * 3) rfl un105 is104 rfl rfl (by omega) (by omega) (by omega)) (d_main rfl ?_)))))
                    replace H := H.p2
                    refine s_st rfl rfl rfl ty104 rfl rfl H rfl (by show 1 + (i.a).toNat * 3 + 3 ≤ 29; omega) (fun u hu => by simp [Value.cells] at hu; rcases hu with rfl | rfl | rfl <;> rfl) (fun w H => ?_)
                    replace H : Hd w0 F0 w [blk m (machC sv (setG g i.a.toNat x124) key (.slice A6 full.length c7) ((k : Nat) : Int) tv) 154, blk b11 [.int .i64 i.op, .int .i64 i.a, .string i.s] 29, osl kPair tv told] [rsl kVal (.slice A1 v.length c2) v, rsl kStr (.slice A6 full.length c7) full] := by rw [← machC_set (show i.a.toNat < 8 by omega) x124]; exact H
                    replace H := H.p2
                    replace H := H.p2
                    refine d_back ⟨_, H⟩ (d_nil (q_blockN (q_then (c_seq (c_reg (s_k 2 rfl (s_nil (q_then (c_ret (q_ret2 rfl rfl rfl ?_))))))))))
                    replace H := H.p1
                    replace H := H.p2
                    replace H := H.k2
                    replace H := H.newnil kVal
                    replace H := H.p2
                    replace H := H.p2
                    replace H : Hd _ _ _ [blk m (machC sv (setG g i.a.toNat x124) key (.slice A6 full.length c7) ((k : Nat) : Int) tv) 154, osl kPair tv told, osl kVal (.slice none 0 0) []] [rsl kVal (.slice A1 v.length c2) v, rsl kStr (.slice A6 full.length c7) full] := H
                    have e : refM dg key g full k told i v = (⟨[], 0, setG g i.a.toNat x124, k, told⟩ : Ref) := by
                      rw [rf_22 h123, getD_at hx125] <;> rfl
                    replace H : Hd _ _ _ [blk m (machC sv (setG g i.a.toNat x124) key (.slice A6 full.length c7) ((k : Nat) : Int) tv) 154, osl kPair tv told, osl kVal (.slice none 0 0) []] [rsl kVal (.slice A1 v.length c2) v, rsl kStr (.slice A6 full.length c7) full] := H
                    exact fin ⟨_, _, by rw [e] <;> rfl, by rw [e] <;> rfl⟩ H
                   ·refine c_seq (c_reg (s_val rfl rfl (r_eq rfl rfl rfl) (s_1 rfl (s_nil (q_then ?_)))))
                    refine c_dec (p := i.op = 23) rfl (fun h127 => ?_) (fun h127 => ?_)
                    ·have hks : (kindsS i.op).size = 2 := by rw [h127]; rfl
                     refine c_seq (c_seq ?_)
                     obtain ⟨x128, hx129⟩ : ∃ z9, v[0]? = some z9 := ⟨_, List.getElem?_eq_getElem (show 0 < v.length by omega)⟩
                     have okx128 := hok.1 _ (at_mem hx129)
                     have szx128 := okx128.2
                     have inx128 := okx128.1
                     obtain ⟨x130, hx131⟩ : ∃ z9, v[1]? = some z9 := ⟨_, List.getElem?_eq_getElem (show 1 < v.length by omega)⟩
                     have okx130 := hok.1 _ (at_mem hx131)
                     have szx130 := okx130.2
                     have inx130 := okx130.1
                     refine c_reg (s_1 rfl ?_)
                     have th132 := H.thR 0 rfl hx129
                     refine s_val rfl rfl (r_iaE (p := oOf A1 + 0 * 3) rfl sl102 rfl rfl (by omega) (by omega) th132 (by omega)) (s_val rfl rfl (r_fa rfl fo104_2 rfl) (s_val rfl rfl (r_ld rfl ty9 rfl (H.elR 0 rfl hx129 (q := 2) rfl rfl)) (s_val rfl rfl (r_lenS rfl un9 rfl) (s_val rfl rfl (r_gt rfl rfl rfl) (s_nil (q_then ?_))))))
                     refine c_dec (p := (16 : Int) < ((x128.b.size : Nat) : Int)) rfl (fun h133 => ?_) (fun h133 => ?_)
                     ·refine c_seq (c_reg (s_k 2 rfl (s_nil (q_then (c_ret (q_thenR (q_blockR (q_thenR (q_ret2 rfl rfl rfl ?_)))))))))
                      replace H := H.p2
                      replace H := H.p2
                      replace H := H.k2
                      replace H := H.newnil kVal
                      replace H := H.p2
                      replace H := H.p2
                      replace H : Hd _ _ _ [blk m (machC sv g key (.slice A6 full.length c7) ((k : Nat) : Int) tv) 154, osl kPair tv told, osl kVal (.slice none 0 0) []] [rsl kVal (.slice A1 v.length c2) v, rsl kStr (.slice A6 full.length c7) full] := H
                      have e : refM dg key g full k told i v = (⟨[], 4, g, k, told⟩ : Ref) := by
                        rw [rf_23 h127, getD_at hx129, getD_at hx131]
                        rw [emit_big h133]
                      replace H : Hd _ _ _ [blk m (machC sv g key (.slice A6 full.length c7) ((k : Nat) : Int) tv) 154, osl kPair tv told, osl kVal (.slice none 0 0) []] [rsl kVal (.slice A1 v.length c2) v, rsl kStr (.slice A6 full.length c7) full] := H
                      exact fin ⟨_, _, by rw [e] <;> rfl, by rw [e] <;> rfl⟩ H
                     ·refine c_skip (q_then (c_seq (c_seq (c_reg (s_1 rfl (s_val rfl rfl (r_nilP rfl rfl) (s_val rfl rfl (r_fa rfl fo154_5 rfl) (s_val rfl rfl (r_ld rfl ty23 rfl (H.cellI 1 rfl rfl)) ?_))))))))
                      obtain ⟨A134, c135, rfl, hc136, hm137, hp138⟩ := H.fA 2 rfl
                      refine s_val rfl rfl (r_lenL rfl un23 rfl) (s_val rfl rfl (r_ge rfl rfl rfl) (s_nil (q_then ?_)))
                      replace H := H.h3 (A := blk b11 [.int .i64 i.op, .int .i64 i.a, .string i.s] 29) (B := blk m (machC sv g key (.slice A6 full.length c7) ((k : Nat) : Int) (.slice A134 told.length c135)) 154) (C := osl kPair (.slice A134 told.length c135) told)
                      refine c_dec (p := (40 : Int) ≤ ((told.length : Nat) : Int)) rfl (fun h139 => ?_) (fun h139 => ?_)
                      ·refine c_seq (c_reg (s_k 2 rfl (s_nil (q_then (c_ret (q_thenR (q_blockR (q_thenR (q_ret2 rfl rfl rfl ?_)))))))))
                       replace H := H.p2
                       replace H := H.p2
                       replace H := H.k2
                       replace H := H.newnil kVal
                       replace H := H.p2
                       replace H := H.p2
                       replace H : Hd _ _ _ [blk m (machC sv g key (.slice A6 full.length c7) ((k : Nat) : Int) (.slice A134 told.length c135)) 154, osl kPair (.slice A134 told.length c135) told, osl kVal (.slice none 0 0) []] [rsl kVal (.slice A1 v.length c2) v, rsl kStr (.slice A6 full.length c7) full] := H
                       have e : refM dg key g full k told i v = (⟨[], 5, g, k, told⟩ : Ref) := by
                         rw [rf_23 h127, getD_at hx129, getD_at hx131]
                         rw [emit_many h133 (by omega)]
                       replace H : Hd _ _ _ [blk m (machC sv g key (.slice A6 full.length c7) ((k : Nat) : Int) (.slice A134 told.length c135)) 154, osl kPair (.slice A134 told.length c135) told, osl kVal (.slice none 0 0) []] [rsl kVal (.slice A1 v.length c2) v, rsl kStr (.slice A6 full.length c7) full] := H
                       exact fin ⟨_, _, by rw [e] <;> rfl, by rw [e] <;> rfl⟩ H
                      ·refine c_skip (q_then (c_ord (.e 0 (.e 1 (.e 2 (.e 3 (.e 5 (.e 6 (.e 7 (.e 8 (.e 9 (.e 10 (.e 11 (.e 12 (.e 13 (.b 4 14 (.m 14 (.m 15 (.e 16 (.e 17 (.m 18 .z))))) (.m 4 (.m 15 (.e 16 (.e 17 (.m 18 .z))))))))))))))))))) (fun w => ∃ Ar, Hd w0 F0 w (blk b11 [.int .i64 i.op, .int .i64 i.a, .string i.s] 29 :: Ar) [rsl kVal (.slice A1 v.length c2) v, rsl kStr (.slice A6 full.length c7) full]) mo (by kernel_rfl) (fun w H => ⟨_, H⟩) H (fun w H => (d_1 rfl (d_1 rfl (d_val rfl rfl rfl (fun w ⟨Ar, H⟩ => r_nilP rfl rfl) (d_val rfl rfl rfl (fun w ⟨Ar, H⟩ => r_fa rfl fo154_5 rfl) (d_1 rfl ?_))))))))
                       have th140 := H.thR 0 rfl hx129
                       refine d_val rfl rfl rfl (fun w ⟨Ar, H⟩ => r_iaE (p := oOf A1 + 0 * 3) rfl sl102 rfl rfl (by omega) (by omega) th140 (by omega)) (d_val rfl rfl rfl (fun w ⟨Ar, H⟩ => r_fa rfl fo104_2 rfl) (d_val rfl rfl rfl (fun w ⟨Ar, H⟩ => r_ld rfl ty9 rfl (H.elR 0 rfl hx129 (q := 2) rfl rfl)) (d_1 rfl ?_)))
                       have th141 := H.thR 0 rfl hx131
                       refine d_val rfl rfl rfl (fun w ⟨Ar, H⟩ => r_iaE (p := oOf A1 + 1 * 3) rfl sl102 rfl rfl (by omega) (by omega) th141 (by omega)) (d_val rfl rfl rfl (fun w ⟨Ar, H⟩ => r_fa rfl fo104_2 rfl) (d_val rfl rfl rfl (fun w ⟨Ar, H⟩ => r_ld rfl ty9 rfl (H.elR 0 rfl hx131 (q := 2) rfl rfl)) (d_val rfl rfl rfl (fun w ⟨Ar, H⟩ => r_bd (parts := [(0, .tmp 259), (1, .tmp 263)]) (vs := [.string x128.b, .string x130.b]) (cs := [.string x128.b, .string x130.b]) rfl bd56 rfl rfl) ?_)))
                       refine d_both rfl rfl ?_ ?_
                       ·refine s_val rfl rfl (r_ld rfl ty23 rfl (H.cellI 1 rfl rfl)) (d_back ⟨_, H⟩ (d_main rfl (s_bsl (parts := [(0, .tmp 264)]) (vs := [.agg #[.string x128.b, .string x130.b]]) (cs := [.string x128.b, .string x130.b]) rfl rfl rfl sl23 zr56 rfl (by decide) (by decide) rfl rfl H (fun b142 w H => ?_))))
                        replace H := H.p1
                        replace H := H.h3 (A := blk b11 [.int .i64 i.op, .int .i64 i.a, .string i.s] 29) (B := blk b142 [.string x128.b, .string x130.b] 56) (C := blk m (machC sv g key (.slice A6 full.length c7) ((k : Nat) : Int) (.slice A134 told.length c135)) 154)
                        refine d_back ⟨_, H⟩ (d_main rfl ?_)
                        replace H := H.p3
                        refine s_appF (xs := told) (ys := [(⟨x128.b, x130.b⟩ : Pair)]) rfl rfl rfl sl23 zr56 rfl (by decide) rfl rfl H (by first | omega | (simp only [List.length_cons, List.length_nil]; omega)) (fun F hA hR => blk_rsl (hA _ (List.mem_of_getElem? (i := 1) rfl)) rfl (by decide) (RepsR.flat_eq.2 rfl)) (fun v143 w H => ?_)
                        replace H := H.p1
                        replace H := H.h2 (A := blk b11 [.int .i64 i.op, .int .i64 i.a, .string i.s] 29) (B := osl kPair v143 (told ++ [(⟨x128.b, x130.b⟩ : Pair)]))
                        refine d_back ⟨_, H⟩ (d_val rfl rfl rfl (fun w ⟨Ar, H⟩ => r_nilP rfl rfl) (d_val rfl rfl rfl (fun w ⟨Ar, H⟩ => r_fa rfl fo154_5 rfl) (d_main rfl ?_)))
                        obtain ⟨A144, c145, rfl, hc146, hm147, hp148⟩ := H.fA 1 rfl
                        replace H := H.p3
                        refine s_st rfl rfl rfl ty23 rfl rfl H rfl (Nat.le_of_ble_eq_true rfl) (fun u hu => by simp [Value.cells] at hu; subst hu; rfl) (fun w H => ?_)
                        replace H := H.h3 (A := blk m (machC sv g key (.slice A6 full.length c7) ((k : Nat) : Int) (.slice A144 ((told ++ [(⟨x128.b, x130.b⟩ : Pair)]).length) c145)) 154) (B := blk b11 [.int .i64 i.op, .int .i64 i.a, .string i.s] 29) (C := osl kPair (.slice A144 ((told ++ [(⟨x128.b, x130.b⟩ : Pair)]).length) c145) (told ++ [(⟨x128.b, x130.b⟩ : Pair)]))
                        replace H := H.p1
                        refine d_back ⟨_, H⟩ (d_nil (q_blockN (q_then (c_seq (c_reg (s_k 2 rfl (s_nil (q_then (c_ret (q_ret2 rfl rfl rfl ?_))))))))))
                        replace H := H.p2
                        replace H := H.p2
                        replace H := H.k2
                        replace H := H.newnil kVal
                        replace H := H.p2
                        replace H := H.p2
                        replace H : Hd _ _ _ [blk m (machC sv g key (.slice A6 full.length c7) ((k : Nat) : Int) (.slice A144 ((told ++ [(⟨x128.b, x130.b⟩ : Pair)]).length) c145)) 154, osl kPair (.slice A144 ((told ++ [(⟨x128.b, x130.b⟩ : Pair)]).length) c145) (told ++ [(⟨x128.b, x130.b⟩ : Pair)]), osl kVal (.slice none 0 0) []] [rsl kVal (.slice A1 v.length c2) v, rsl kStr (.slice A6 full.length c7) full] := H
                        have e : refM dg key g full k told i v = (⟨[], 0, g, k, told ++ [(⟨x128.b, x130.b⟩ : Pair)]⟩ : Ref) := by
                          rw [rf_23 h127, getD_at hx129, getD_at hx131]
                          rw [emit_fine h133 (by omega)]
                        replace H : Hd _ _ _ [blk m (machC sv g key (.slice A6 full.length c7) ((k : Nat) : Int) (.slice A144 ((told ++ [(⟨x128.b, x130.b⟩ : Pair)]).length) c145)) 154, osl kPair (.slice A144 ((told ++ [(⟨x128.b, x130.b⟩ : Pair)]).length) c145) (told ++ [(⟨x128.b, x130.b⟩ : Pair)]), osl kVal (.slice none 0 0) []] [rsl kVal (.slice A1 v.length c2) v, rsl kStr (.slice A6 full.length c7) full] := H
                        exact fin ⟨_, _, by rw [e] <;> rfl, by rw [e] <;> rfl⟩ H
                       ·refine s_bsl (parts := [(0, .tmp 264)]) (vs := [.agg #[.string x128.b, .string x130.b]]) (cs := [.string x128.b, .string x130.b]) rfl rfl rfl sl23 zr56 rfl (by decide) (by decide) rfl rfl H (fun b149 w H => ?_)
                        replace H := H.p1
                        replace H := H.h3 (A := blk b11 [.int .i64 i.op, .int .i64 i.a, .string i.s] 29) (B := blk b149 [.string x128.b, .string x130.b] 56) (C := blk m (machC sv g key (.slice A6 full.length c7) ((k : Nat) : Int) (.slice A134 told.length c135)) 154)
                        refine d_back ⟨_, H⟩ (d_main rfl (s_val rfl rfl (r_ld rfl ty23 rfl (H.cellI 2 rfl rfl)) (d_back ⟨_, H⟩ (d_main rfl ?_))))
                        replace H := H.p3
                        refine s_appF (xs := told) (ys := [(⟨x128.b, x130.b⟩ : Pair)]) rfl rfl rfl sl23 zr56 rfl (by decide) rfl rfl H (by first | omega | (simp only [List.length_cons, List.length_nil]; omega)) (fun F hA hR => blk_rsl (hA _ (List.mem_of_getElem? (i := 1) rfl)) rfl (by decide) (RepsR.flat_eq.2 rfl)) (fun v150 w H => ?_)
                        replace H := H.p1
                        replace H := H.h2 (A := blk b11 [.int .i64 i.op, .int .i64 i.a, .string i.s] 29) (B := osl kPair v150 (told ++ [(⟨x128.b, x130.b⟩ : Pair)]))
                        refine d_back ⟨_, H⟩ (d_val rfl rfl rfl (fun w ⟨Ar, H⟩ => r_nilP rfl rfl) (d_val rfl rfl rfl (fun w ⟨Ar, H⟩ => r_fa rfl fo154_5 rfl) (d_main rfl ?_)))
                        obtain ⟨A151, c152, rfl, hc153, hm154, hp155⟩ := H.fA 1 rfl
                        replace H := H.p3
                        refine s_st rfl rfl rfl ty23 rfl rfl H rfl (Nat.le_of_ble_eq_true rfl) (fun u hu => by simp [Value.cells] at hu; subst hu; rfl) (fun w H => ?_)
                        replace H := H.h3 (A := blk m (machC sv g key (.slice A6 full.length c7) ((k : Nat) : Int) (.slice A151 ((told ++ [(⟨x128.b, x130.b⟩ : Pair)]).length) c152)) 154) (B := blk b11 [.int .i64 i.op, .int .i64 i.a, .string i.s] 29) (C := osl kPair (.slice A151 ((told ++ [(⟨x128.b, x130.b⟩ : Pair)]).length) c152) (told ++ [(⟨x128.b, x130.b⟩ : Pair)]))
                        replace H := H.p1
                        refine d_back ⟨_, H⟩ (d_nil (q_blockN (q_then (c_seq (c_reg (s_k 2 rfl (s_nil (q_then (c_ret (q_ret2 rfl rfl rfl ?_))))))))))
                        replace H := H.p2
                        replace H := H.p2
                        replace H := H.k2
                        replace H := H.newnil kVal
                        replace H := H.p2
                        replace H := H.p2
                        replace H : Hd _ _ _ [blk m (machC sv g key (.slice A6 full.length c7) ((k : Nat) : Int) (.slice A151 ((told ++ [(⟨x128.b, x130.b⟩ : Pair)]).length) c152)) 154, osl kPair (.slice A151 ((told ++ [(⟨x128.b, x130.b⟩ : Pair)]).length) c152) (told ++ [(⟨x128.b, x130.b⟩ : Pair)]), osl kVal (.slice none 0 0) []] [rsl kVal (.slice A1 v.length c2) v, rsl kStr (.slice A6 full.length c7) full] := H
                        have e : refM dg key g full k told i v = (⟨[], 0, g, k, told ++ [(⟨x128.b, x130.b⟩ : Pair)]⟩ : Ref) := by
                          rw [rf_23 h127, getD_at hx129, getD_at hx131]
                          rw [emit_fine h133 (by omega)]
                        replace H : Hd _ _ _ [blk m (machC sv g key (.slice A6 full.length c7) ((k : Nat) : Int) (.slice A151 ((told ++ [(⟨x128.b, x130.b⟩ : Pair)]).length) c152)) 154, osl kPair (.slice A151 ((told ++ [(⟨x128.b, x130.b⟩ : Pair)]).length) c152) (told ++ [(⟨x128.b, x130.b⟩ : Pair)]), osl kVal (.slice none 0 0) []] [rsl kVal (.slice A1 v.length c2) v, rsl kStr (.slice A6 full.length c7) full] := H
                        exact fin ⟨_, _, by rw [e] <;> rfl, by rw [e] <;> rfl⟩ H
                    ·refine c_skip (q_blockN (q_then (c_seq (c_reg (s_k 2 rfl (s_nil (q_then (c_ret (q_ret2 rfl rfl rfl ?_)))))))))
                     replace H := H.p2
                     replace H := H.p2
                     replace H := H.k2
                     replace H := H.newnil kVal
                     replace H := H.p2
                     replace H := H.p2
                     replace H : Hd _ _ _ [blk m (machC sv g key (.slice A6 full.length c7) ((k : Nat) : Int) tv) 154, osl kPair tv told, osl kVal (.slice none 0 0) []] [rsl kVal (.slice A1 v.length c2) v, rsl kStr (.slice A6 full.length c7) full] := H
                     have e : refM dg key g full k told i v = (⟨[], 0, g, k, told⟩ : Ref) := by
                       exact rf_no (by have := hi.1; have := hi.2.1; omega)
                     replace H : Hd _ _ _ [blk m (machC sv g key (.slice A6 full.length c7) ((k : Nat) : Int) tv) 154, osl kPair tv told, osl kVal (.slice none 0 0) []] [rsl kVal (.slice A1 v.length c2) v, rsl kStr (.slice A6 full.length c7) full] := H
                     exact fin ⟨_, _, by rw [e] <;> rfl, by rw [e] <;> rfl⟩ H
end Go.Proofs.YtlpgdkbokakniaaGreatDoor.X

set_option linter.unusedVariables false
namespace Go.Proofs.YtlpgdkbokakniaaGreatDoor.X
open Go
theorem fitR_eq (c : UInt8) (v : Val) : fitR c v = !((decide ((c.toNat : Int) = 110) && v.t) || (decide ((c.toNat : Int) = 116) && !v.t)) := by
  have h : ∀ d : UInt8, (c == d) = decide ((c.toNat : Int) = (d.toNat : Int)) := by
    intro d
    rw [Bool.eq_iff_iff, beq_iff_eq, decide_eq_true_eq]
    constructor
    · intro e; rw [e]
    · intro e; exact UInt8.toNat_inj.1 (by omega)
  unfold fitR
  rw [h 110, h 116]
  rfl
theorem kinds_len (op : Int) : (kindsR op).size ≤ 3 := by
  unfold kindsR
  repeat (first | (exact Nat.le_of_ble_eq_true rfl) | split)
theorem fitsR_go {ks : List UInt8} {xs : List Val} {i : Nat} {c : UInt8} {x : Val} (hk : ks[i]? = some c) (hx : xs[i]? = some x) (hb : fitR c x = true) : fitsR (ks.drop (i + 1)) (xs.drop (i + 1)) = fitsR (ks.drop i) (xs.drop i) := by
  rw [drop_at hk, drop_at hx]
  simp [fitsR, hb]
theorem fitsR_no {ks : List UInt8} {xs : List Val} {i : Nat} {c : UInt8} {x : Val} (hk : ks[i]? = some c) (hx : xs[i]? = some x) (hb : fitR c x = false) : fitsR (ks.drop i) (xs.drop i) = false := by
  rw [drop_at hk, drop_at hx]
  simp [fitsR, hb]
theorem fitsR_end {ks : List UInt8} {xs : List Val} {i : Nat} (h : xs.length ≤ i) : fitsR (ks.drop i) (xs.drop i) = true := by
  rw [List.drop_eq_nil_of_le h]
  cases ks.drop i <;> rfl
section
variable {D : Dig} {key : ByteArray} {pos : Int} {stk : List Val} {g : Nat → Val} {told : List Pair} {full : List ByteArray} {k : Nat} {i : Ins}
/-- The machine, one instruction further. -/
def stepD (D : Dig) (key : ByteArray) (pos : Int) (stk : List Val) (g : Nat → Val) (told : List Pair) (full : List ByteArray) (k : Nat) (i : Ins) : VM × Int := doesM D key ⟨pos, false, stk, g, told, full.drop k⟩ i
theorem st_under (h : stk.length < (kindsR i.op).size) : (stepD D key pos stk g told full k i).2 = 1 := by
  rw [kinds_size] at h
  have e := needs_under h
  unfold stepD
  rw [does_fail (m := ⟨pos, false, stk, g, told, full.drop k⟩) (by show (needsM i.op stk).1 ≠ 0; rw [e]; exact (show ¬ (1 : Int) = 0 by decide))]
  show (needsM i.op stk).1 = 1
  rw [e]
theorem st_type (h : ¬ stk.length < (kindsR i.op).size) (h2 : fitsR (kindsR i.op).data.toList (stk.drop (stk.length - (kindsR i.op).size)) = false) : (stepD D key pos stk g told full k i).2 = 2 := by
  rw [kinds_size] at h h2
  rw [fits_same] at h2
  have e := needs_type h h2
  unfold stepD
  rw [does_fail (m := ⟨pos, false, stk, g, told, full.drop k⟩) (by show (needsM i.op stk).1 ≠ 0; rw [e]; exact (show ¬ (2 : Int) = 0 by decide))]
  show (needsM i.op stk).1 = 2
  rw [e]
theorem st_act (h : ¬ stk.length < (kindsR i.op).size) (h2 : fitsR (kindsR i.op).data.toList (stk.drop (stk.length - (kindsR i.op).size)) = true) :
    stepD D key pos stk g told full k i = actM D key ⟨pos, false, stk.take (stk.length - (kindsR i.op).size), g, told, full.drop k⟩ i (stk.drop (stk.length - (kindsR i.op).size)) := by
  rw [kinds_size] at h h2 ⊢
  rw [fits_same] at h2
  have e := needs_fine h h2
  unfold stepD
  rw [does_act (m := ⟨pos, false, stk, g, told, full.drop k⟩) (by show ¬ (needsM i.op stk).1 ≠ 0; rw [e]; exact fun h => h rfl)]
  show actM D key ⟨pos, false, (needsM i.op stk).2.1, g, told, full.drop k⟩ i (needsM i.op stk).2.2 = _
  rw [e]
/-- What a step answers, and what it leaves: where to go on (-1: the next one). -/
def StepOk (r : VM × Int) (pos to : Int) (stk : List Val) (g : Nat → Val) (told : List Pair) (full : List ByteArray) (k : Nat) : Prop :=
  r = (⟨if 0 ≤ to then to else pos, false, stk, g, told, full.drop k⟩, 0)
theorem st_jump {rest v : List Val} {n : Int} (hi : goodI i n) (h : stepD D key pos stk g told full k i = actM D key ⟨pos, false, rest, g, told, full.drop k⟩ i v) (hop : i.op = 19 ∨ (i.op = 20 ∧ (v.getD 0 val0).n ≠ 0)) :
    StepOk (stepD D key pos stk g told full k i) pos i.a rest g told full k := by
  unfold StepOk
  rw [h]
  rcases hop with e | ⟨e, hn⟩
  · rw [act_19 e, if_pos (hi.2.2.2.2.1 (.inl e)).1]
  · rw [act_20 e, if_pos hn, if_pos (hi.2.2.2.2.1 (.inr e)).1]
section
variable {rest v : List Val} {n : Int} (hl : rest.length ≤ 16) (hi : goodI i n) (h : stepD D key pos stk g told full k i = actM D key ⟨pos, false, rest, g, told, full.drop k⟩ i v) (h0 : i.op ≠ 0) (h19 : ¬ i.op = 19) (h20 : i.op = 20 → ¬ (v.getD 0 val0).n ≠ 0)
include hl hi h h0 h19 h20
theorem st_why (hw : (refM D key g full k told i v).why ≠ 0) : (stepD D key pos stk g told full k i).2 = (refM D key g full k told i v).why := by
  rw [h]; exact (ref_act (D := D) (key := key) (pos := pos) hl hi h0 h19 h20).1 hw
theorem st_push (hw : ¬ (refM D key g full k told i v).why ≠ 0) :
    stepD D key pos stk g told full k i = (⟨pos, false, (pushM rest (refM D key g full k told i v).out).2, (refM D key g full k told i v).g, (refM D key g full k told i v).told, full.drop (refM D key g full k told i v).k⟩, (pushM rest (refM D key g full k told i v).out).1) := by
  rw [h]; exact (ref_act (D := D) (key := key) (pos := pos) hl hi h0 h19 h20).2 (Classical.not_not.1 hw)
theorem st_big {j : Nat} {x : Val} (hw : ¬ (refM D key g full k told i v).why ≠ 0) (hx : (refM D key g full k told i v).out[j]? = some x) (hb : bigV x = true) : (stepD D key pos stk g told full k i).2 = 4 := by
  rw [st_push hl hi h h0 h19 h20 hw]
  show (pushM rest _).1 = 4
  rw [push_big hx hb]
theorem st_full (hw : ¬ (refM D key g full k told i v).why ≠ 0) (hn : ∀ y ∈ (refM D key g full k told i v).out, bigV y = false) (h16 : 16 < rest.length + (refM D key g full k told i v).out.length) : (stepD D key pos stk g told full k i).2 = 1 := by
  rw [st_push hl hi h h0 h19 h20 hw]
  show (pushM rest _).1 = 1
  rw [push_full hn h16]
theorem st_fine (hw : ¬ (refM D key g full k told i v).why ≠ 0) (hn : ∀ y ∈ (refM D key g full k told i v).out, bigV y = false) (h16 : ¬ 16 < rest.length + (refM D key g full k told i v).out.length) :
    StepOk (stepD D key pos stk g told full k i) pos (-1) (rest ++ (refM D key g full k told i v).out) (refM D key g full k told i v).g (refM D key g full k told i v).told full (refM D key g full k told i v).k := by
  unfold StepOk
  rw [st_push hl hi h h0 h19 h20 hw, push_fine hn h16, if_neg (by decide)]
end
theorem ite_k {c : Prop} [Decidable c] {x y : Ref} {n : Nat} (hx : x.k ≤ n) (hy : y.k ≤ n) : (if c then x else y).k ≤ n := by
  split
  · exact hx
  · exact hy
theorem ref_k {v : List Val} (hk : k ≤ full.length) : (refM D key g full k told i v).k ≤ full.length := by
  by_cases h7 : i.op = 7
  · rcases Nat.lt_or_ge k full.length with h | h
    · rw [rf_7s h7 (List.getElem?_eq_getElem h)]; exact h
    · rw [rf_7n h7 h]; exact hk
  · unfold refM
    dsimp only
    rw [if_neg h7]
    repeat (first | exact hk | refine ite_k hk ?_)
theorem fitsB_nil (xs : List Val) : fitsB [] xs = true := by cases xs <;> rfl
theorem ite_o {c : Prop} [Decidable c] {x y : Ref} {n : Nat} (hx : x.out.length ≤ n) (hy : y.out.length ≤ n) : (if c then x else y).out.length ≤ n := by
  split
  · exact hx
  · exact hy
theorem ref_out (v : List Val) : (refM D key g full k told i v).out.length ≤ 2 := by
  by_cases h7 : i.op = 7
  · rcases Nat.lt_or_ge k full.length with h | h
    · rw [rf_7s h7 (List.getElem?_eq_getElem h)]; exact Nat.le_refl _
    · rw [rf_7n h7 h]; exact Nat.le_of_ble_eq_true rfl
  · unfold refM
    dsimp only
    rw [if_neg h7]
    repeat (first | exact Nat.le_of_ble_eq_true rfl | refine ite_o (Nat.le_of_ble_eq_true rfl) ?_)
end
section
variable {D : Dig} {p : List Ins} {key : ByteArray} {m : VM} {i : Ins}
/-- At a halt the run is over, and tells what was told. -/
theorem play_halt {k : Nat} (h : m.pos < p.length ∧ m.halted = false) (hi : p[m.pos.toNat]? = some i) (h0 : i.op = 0) : playM D p key (k + 1) m = (⟨m.pos + 1, true, m.stk, m.g, m.told, m.vals⟩, 0) := by
  have e : doesM D key {m with pos := m.pos + 1} i = (⟨m.pos + 1, true, m.stk, m.g, m.told, m.vals⟩, 0) := by
    have hz : (kindsS i.op).size = 0 := by rw [h0]; rfl
    have hz2 : (kindsS i.op).data.toList = [] := by rw [h0]; rfl
    have en := needs_fine (op := i.op) (stk := m.stk) (by rw [hz]; omega) (by rw [hz2, fitsB_nil])
    rw [hz, Nat.sub_zero, List.take_length, List.drop_length] at en
    rw [does_act (m := {m with pos := m.pos + 1}) (by show ¬ (needsM i.op m.stk).1 ≠ 0; rw [en]; exact fun h => h rfl), act_0 h0]
    show (({pos := m.pos + 1, halted := true, stk := (needsM i.op m.stk).2.1, g := m.g, told := m.told, vals := m.vals} : VM), (0 : Int)) = _
    rw [en]
  rw [play_go h hi (by rw [e]; exact fun h => h rfl), e]
  exact play_stop _ (fun h => by have := h.2; cases this)
end
theorem step_is {D : Dig} {key : ByteArray} {m : VM} {i : Ins} {full : List ByteArray} {k : Nat} (h : m.halted = false ∧ m.vals = full.drop k) : doesM D key {m with pos := m.pos + 1} i = stepD D key (m.pos + 1) m.stk m.g m.told full k i := by
  obtain ⟨h1, h2⟩ := h
  cases m
  simp only at h1 h2
  subst h1 h2
  rfl
theorem step_does {D : Dig} {key : ByteArray} {m : VM} {i : Ins} {full : List ByteArray} {k k2 : Nat} {to P : Int} {stk : List Val} {g : Nat → Val} {told : List Pair} (h : m.halted = false ∧ m.vals = full.drop k)
    (hs : StepOk (stepD D key (m.pos + 1) m.stk m.g m.told full k i) (m.pos + 1) to stk g told full k2) (hP : (if 0 ≤ to then to else m.pos + 1) = P) : doesM D key {m with pos := m.pos + 1} i = ((⟨P, false, stk, g, told, full.drop k2⟩ : VM), 0) := by
  rw [step_is h, ← hP]; exact hs
theorem key_all {k : ByteArray} {l : List Pair} (h : ∀ y ∈ l, y.key = k) (h2 : otherKey k l = true) : False := by
  obtain ⟨x, hx, h3⟩ := List.any_eq_true.1 h2
  exact (of_decide_eq_true h3) (h x hx)
theorem key_one {k : ByteArray} {l : List Pair} {i : Nat} {x : Pair} (hx : l[i]? = some x) (h : x.key ≠ k) : otherKey k l = true := List.any_eq_true.2 ⟨x, List.mem_of_getElem? hx, decide_eq_true h⟩
end Go.Proofs.YtlpgdkbokakniaaGreatDoor.X

set_option linter.unusedVariables false
set_option linter.unusedSimpArgs false
namespace Go.Proofs.YtlpgdkbokakniaaGreatDoor.X
open Go
set_option maxHeartbeats 4000000 in
theorem rStep_ok (m : Nat) (sv : Value) (g : Nat → Val) (key : ByteArray) (vv : Value) (k : Nat) (tv : Value) (stk : List Val) (told : List Pair) (full : List ByteArray) (i : Ins) (n pos : Int) (hst : stk.length ≤ 16) (hto : told.length ≤ 40) (hok : (∀ x ∈ stk, OkV x) ∧ ∀ j, OkV (g j)) (hi : goodI i n) (h0 : i.op ≠ 0) (hk : k ≤ full.length) :
    Cn Tryz.prog 120 [.pointer (some ⟨m, 0, none⟩), .agg #[.int .i64 i.op, .int .i64 i.a, .string i.s]] [blk m (machC sv g key vv ((k : Nat) : Int) tv) 154, osl kVal sv stk, osl kPair tv told] [rsl kStr vv full] (fun r Bs => ∃ (to : Int) (sv2 tv2 : Value) (stk2 : List Val) (g2 : Nat → Val) (k2 : Nat) (told2 : List Pair), r = .tuple #[.int .i64 (stepD dg key pos stk g told full k i).2, .int .i64 to] ∧ Bs = [blk m (machC sv2 g2 key vv ((k2 : Nat) : Int) tv2) 154, osl kVal sv2 stk2, osl kPair tv2 told2] ∧ k2 ≤ full.length ∧ ((stepD dg key pos stk g told full k i).2 = 0 → StepOk (stepD dg key pos stk g told full k i) pos to stk2 g2 told2 full k2)) := by
 intro w0 F0 H
 obtain ⟨A1, c2, rfl, hc3, hm4, hp5⟩ := H.fA 1 rfl
 refine enter (args := [.pointer (some ⟨m, 0, none⟩), .agg #[.int .i64 i.op, .int .i64 i.a, .string i.s]]) Tryz.func120 rfl rfl (Nat.le_of_ble_eq_true rfl) (c_seq (c_reg (s_box rfl rfl rfl rfl H (fun b6 w H => (s_k 2 rfl (s_nil (q_then ?_)))))))
 replace H : Hd _ _ _ [blk b6 [.int .i64 i.op, .int .i64 i.a, .string i.s] 29, blk m (machC (.slice A1 stk.length c2) g key vv ((k : Nat) : Int) tv) 154, osl kVal (.slice A1 stk.length c2) stk, osl kPair tv told] [rsl kStr vv full] := H
 refine c_seq (c_reg (s_val rfl rfl (r_fa rfl fo29_0 rfl) (s_val rfl rfl (r_ld rfl ty3 rfl (H.cellI 0 rfl rfl)) (sc (rKinds_ok i.op) H l0 rfl rfl (e_fn kn133 rfl rfl) ?_))))
 rintro _ _ w ⟨rfl, rfl⟩ H
 refine s_1 rfl (s_nil (q_then (c_seq ?_)))
 have hkz : (kindsR i.op).size ≤ 3 := kinds_len i.op
 refine c_reg (s_1 rfl (s_val rfl rfl (r_nilP rfl rfl) (s_val rfl rfl (r_fa rfl fo154_0 rfl) (s_val rfl rfl (r_ld rfl ty102 rfl (H.cellI 1 rfl rfl)) (s_val rfl rfl (r_lenL rfl un102 rfl) (s_1 rfl (s_val rfl rfl (r_lenS rfl un9 rfl) (s_val rfl rfl (r_sub (z := ((stk.length : Nat) : Int) - (((kindsR i.op).size : Nat) : Int)) rfl rfl rfl (w64 (by omega) (by omega))) (s_1 rfl (s_nil (q_then (c_seq (c_seq (c_reg (s_1 rfl (s_val rfl rfl (r_lt rfl rfl rfl) (s_nil (q_then ?_))))))))))))))))))
 refine c_dec (p := (((stk.length : Nat) : Int) - (((kindsR i.op).size : Nat) : Int)) < 0) rfl (fun h7 => ?_) (fun h7 => ?_)
 ·refine c_seq (c_reg (s_k 2 rfl (s_nil (q_then (c_ret (q_thenR (q_ret2 rfl rfl rfl ?_)))))))
  replace H := H.p3
  replace H := H.p3
  replace H := H.p3
  replace H := H.k3
  have e := st_under (D := dg) (key := key) (pos := pos) (g := g) (told := told) (full := full) (k := k) (i := i) (stk := stk) (by omega)
  exact fin ⟨-1, _, _, _, _, _, _, by rw [e], rfl, hk, fun h => by rw [e] at h; exact absurd h (by decide)⟩ H
 ·refine c_skip (q_then (c_seq ?_))
  have hlo : ((stk.length : Nat) : Int) - (((kindsR i.op).size : Nat) : Int) = ((stk.length - (kindsR i.op).size : Nat) : Int) := by omega
  rw [hlo]
  have hdl : (stk.drop (stk.length - (kindsR i.op).size)).length = (kindsR i.op).size := by rw [List.length_drop]; omega
  have htl : (stk.take (stk.length - (kindsR i.op).size)).length = stk.length - (kindsR i.op).size := by rw [List.length_take]; omega
  refine c_reg (s_1 rfl (s_val rfl rfl (r_nilP rfl rfl) (s_val rfl rfl (r_fa rfl fo154_0 rfl) (s_val rfl rfl (r_ld rfl ty102 rfl (H.cellI 1 rfl rfl)) (s_1 rfl (s_val rfl rfl (r_cutS rfl sl102 rfl rfl (by omega) (by omega) rfl) ?_))))))
  replace H := H.newnil kVal
  refine s_appF (xs := []) (ys := stk.drop (stk.length - (kindsR i.op).size)) rfl rfl rfl sl102 zr104 rfl (by decide) rfl rfl H (by first | omega | (simp only [List.length_nil]; omega)) (fun F hA hR => rsl_suf (own_rd F (hA _ (List.mem_of_getElem? (i := 2) rfl))) (i := stk.length - (kindsR i.op).size) (by omega)) (fun v8 w H => (s_1 rfl (s_nil (q_then ?_))))
  replace H : Hd _ _ _ [osl kVal v8 ([] ++ (stk.drop (stk.length - (kindsR i.op).size))), blk b6 [.int .i64 i.op, .int .i64 i.a, .string i.s] 29, blk m (machC (.slice A1 stk.length c2) g key vv ((k : Nat) : Int) tv) 154, osl kVal (.slice A1 stk.length c2) stk, osl kPair tv told] [rsl kStr vv full] := H
  refine c_seq (c_seq (c_reg (s_1 rfl (s_nil (q_then (c_block ?_))))))
  replace H := H.h1 (A := osl kVal v8 (stk.drop (stk.length - (kindsR i.op).size)))
  replace H := H.p1
  replace H := H.p4
  replace H := H.p4
  replace H := H.p3
  replace H := H.p4
  refine c_loop (σ := Nat) (fun j => [(0, .pointer (some ⟨m, 0, none⟩)), (3, .pointer (some ⟨b6, 0, none⟩)), (6, .string (kindsR i.op)), (7, .int .i64 ((stk.length - (kindsR i.op).size : Nat) : Int)), (8, v8), (9, .int .i64 ((j : Nat) : Int))]) (fun j w => (Hd w0 F0 w [blk m (machC (.slice A1 stk.length c2) g key vv ((k : Nat) : Int) tv) 154, osl kVal v8 (stk.drop (stk.length - (kindsR i.op).size)), osl kVal (.slice A1 stk.length c2) stk, osl kPair tv told, blk b6 [.int .i64 i.op, .int .i64 i.a, .string i.s] 29] [rsl kStr vv full]) ∧ (j ≤ (kindsR i.op).size) ∧ (fitsR ((kindsR i.op).data.toList.drop j) ((stk.drop (stk.length - (kindsR i.op).size)).drop j) = fitsR (kindsR i.op).data.toList (stk.drop (stk.length - (kindsR i.op).size)))) (fun j => (kindsR i.op).size - j) 0 ⟨rfl, rfl, rfl, rfl, rfl, rfl, trivial⟩ ⟨H, Nat.zero_le _, rfl⟩ ?_
  rintro j w ⟨H, hj, hf⟩
  refine c_seq (c_seq (c_reg (s_k 2 rfl ?_)))
  obtain ⟨A9, c10, rfl, hc11, hm12, hp13⟩ := H.fA 1 rfl
  refine s_val rfl rfl (r_lenL rfl un102 rfl) (s_val rfl rfl (r_lt rfl rfl rfl) (s_nil (q_then ?_)))
  replace H := H.h2 (A := blk m (machC (.slice A1 stk.length c2) g key vv ((k : Nat) : Int) tv) 154) (B := osl kVal (.slice A9 ((stk.drop (stk.length - (kindsR i.op).size)).length) c10) (stk.drop (stk.length - (kindsR i.op).size)))
  refine c_dec (p := ((j : Nat) : Int) < (((stk.drop (stk.length - (kindsR i.op).size)).length : Nat) : Int)) rfl (fun h14 => ?_) (fun h14 => ?_)
  ·refine c_skip (q_then (c_seq (c_block (c_seq ?_))))
   obtain ⟨x15, hx16⟩ : ∃ z9, (stk.drop (stk.length - (kindsR i.op).size))[j]? = some z9 := ⟨_, List.getElem?_eq_getElem (show j < (stk.drop (stk.length - (kindsR i.op).size)).length by omega)⟩
   refine c_reg (s_k 2 rfl ?_)
   obtain ⟨c17, hb18⟩ : ∃ c0, (kindsR i.op)[j]? = some c0 := ⟨_, getElem?_pos (kindsR i.op) j (by omega)⟩
   refine s_val rfl rfl (r_idxS rfl un9 rfl rfl (by omega) hb18) (s_val rfl rfl (r_eq rfl rfl rfl) (s_1 rfl ?_))
   refine s_dec (d := 43) (p := ((c17).toNat : Int) = 110) rfl (fun h19 => ?_) (fun h19 => ?_)
   ·refine s_k 2 rfl ?_
    have th20 := H.thA 1 rfl hx16
    refine s_val rfl rfl (r_iaE (p := oOf A9 + j * 3) rfl sl102 rfl rfl (by omega) (by omega) th20 rfl) (s_val rfl rfl (r_fa rfl fo104_0 rfl) (s_val rfl rfl (r_ld rfl ty4 rfl (H.elA 1 rfl hx16 (q := 0) rfl rfl)) (s_k 2 rfl ?_)))
    refine s_boo (d := 50) (b := x15.t) rfl (fun h21 => ?_) (fun h21 => ?_)
    ·refine s_k 12 rfl (s_1 rfl (s_nil (q_then (c_yes rfl (c_seq (c_reg (s_k 2 rfl (s_nil (q_then (c_ret (q_blockR (q_thenR (q_thenR (q_blockR (q_thenR (q_ret2 rfl rfl rfl ?_))))))))))))))))
     replace H := H.p3
     replace H := H.p3
     replace H := H.p2
     replace H := H.k3
     have hfit : fitR c17 x15 = false := by rw [fitR_eq]; simp_all
     have e := st_type (D := dg) (key := key) (pos := pos) (g := g) (told := told) (full := full) (k := k) (i := i) (stk := stk) (by omega) (hf.symm.trans (fitsR_no (bytes_get hb18) hx16 hfit))
     exact fin ⟨-1, _, _, _, _, _, _, by rw [e], rfl, hk, fun h => by rw [e] at h; exact absurd h (by decide)⟩ H
    ·refine s_k 2 rfl (s_val rfl rfl (r_idxS rfl un9 rfl rfl (by omega) hb18) (s_val rfl rfl (r_eq rfl rfl rfl) (s_1 rfl ?_)))
     refine s_dec (d := 55) (p := ((c17).toNat : Int) = 116) rfl (fun h22 => ?_) (fun h22 => ?_)
     ·refine s_k 2 rfl ?_
      have th23 := H.thA 1 rfl hx16
      refine s_val rfl rfl (r_iaE (p := oOf A9 + j * 3) rfl sl102 rfl rfl (by omega) (by omega) th23 rfl) (s_val rfl rfl (r_fa rfl fo104_0 rfl) (s_val rfl rfl (r_ld rfl ty4 rfl (H.elA 1 rfl hx16 (q := 0) rfl rfl)) (s_val rfl rfl (r_not rfl rfl rfl) (s_k 2 rfl (s_nil (q_then ?_))))))
      refine c_cond (b := !x15.t) rfl (fun h24 => ?_) (fun h24 => ?_)
      ·refine c_seq (c_reg (s_k 2 rfl (s_nil (q_then (c_ret (q_blockR (q_thenR (q_thenR (q_blockR (q_thenR (q_ret2 rfl rfl rfl ?_)))))))))))
       replace H := H.p3
       replace H := H.p3
       replace H := H.p2
       replace H := H.k3
       have hfit : fitR c17 x15 = false := by rw [fitR_eq]; simp_all
       have e := st_type (D := dg) (key := key) (pos := pos) (g := g) (told := told) (full := full) (k := k) (i := i) (stk := stk) (by omega) (hf.symm.trans (fitsR_no (bytes_get hb18) hx16 hfit))
       exact fin ⟨-1, _, _, _, _, _, _, by rw [e], rfl, hk, fun h => by rw [e] at h; exact absurd h (by decide)⟩ H
      ·refine c_skip (q_blockN (q_then (c_reg (s_1 rfl (s_val rfl rfl (r_add (z := ((j + 1 : Nat) : Int)) rfl rfl rfl (by rw [w64 (by omega) (by omega)]; omega)) (s_1 rfl (s_nil ?_)))))))
       have hfit : fitR c17 x15 = true := by rw [fitR_eq]; simp_all
       have hf2 := (fitsR_go (bytes_get hb18) hx16 hfit).trans hf
       exact q_round (s := j) (j + 1) ⟨rfl, rfl, rfl, rfl, rfl, rfl, trivial⟩ ⟨H, by (try dsimp only); omega, hf2⟩ (by (try dsimp only); omega)
     ·refine s_k 8 rfl (s_nil (q_then (c_no rfl (c_skip (q_blockN (q_then (c_reg (s_1 rfl (s_val rfl rfl (r_add (z := ((j + 1 : Nat) : Int)) rfl rfl rfl (by rw [w64 (by omega) (by omega)]; omega)) (s_1 rfl (s_nil ?_)))))))))))
      have hfit : fitR c17 x15 = true := by rw [fitR_eq]; simp_all
      have hf2 := (fitsR_go (bytes_get hb18) hx16 hfit).trans hf
      exact q_round (s := j) (j + 1) ⟨rfl, rfl, rfl, rfl, rfl, rfl, trivial⟩ ⟨H, by (try dsimp only); omega, hf2⟩ (by (try dsimp only); omega)
   ·refine s_k 9 rfl (s_val rfl rfl (r_idxS rfl un9 rfl rfl (by omega) hb18) (s_val rfl rfl (r_eq rfl rfl rfl) (s_1 rfl ?_)))
    refine s_dec (d := 55) (p := ((c17).toNat : Int) = 116) rfl (fun h25 => ?_) (fun h25 => ?_)
    ·refine s_k 2 rfl ?_
     have th26 := H.thA 1 rfl hx16
     refine s_val rfl rfl (r_iaE (p := oOf A9 + j * 3) rfl sl102 rfl rfl (by omega) (by omega) th26 rfl) (s_val rfl rfl (r_fa rfl fo104_0 rfl) (s_val rfl rfl (r_ld rfl ty4 rfl (H.elA 1 rfl hx16 (q := 0) rfl rfl)) (s_val rfl rfl (r_not rfl rfl rfl) (s_k 2 rfl (s_nil (q_then ?_))))))
     refine c_cond (b := !x15.t) rfl (fun h27 => ?_) (fun h27 => ?_)
     ·refine c_seq (c_reg (s_k 2 rfl (s_nil (q_then (c_ret (q_blockR (q_thenR (q_thenR (q_blockR (q_thenR (q_ret2 rfl rfl rfl ?_)))))))))))
      replace H := H.p3
      replace H := H.p3
      replace H := H.p2
      replace H := H.k3
      have hfit : fitR c17 x15 = false := by rw [fitR_eq]; simp_all
      have e := st_type (D := dg) (key := key) (pos := pos) (g := g) (told := told) (full := full) (k := k) (i := i) (stk := stk) (by omega) (hf.symm.trans (fitsR_no (bytes_get hb18) hx16 hfit))
      exact fin ⟨-1, _, _, _, _, _, _, by rw [e], rfl, hk, fun h => by rw [e] at h; exact absurd h (by decide)⟩ H
     ·refine c_skip (q_blockN (q_then (c_reg (s_1 rfl (s_val rfl rfl (r_add (z := ((j + 1 : Nat) : Int)) rfl rfl rfl (by rw [w64 (by omega) (by omega)]; omega)) (s_1 rfl (s_nil ?_)))))))
      have hfit : fitR c17 x15 = true := by rw [fitR_eq]; simp_all
      have hf2 := (fitsR_go (bytes_get hb18) hx16 hfit).trans hf
      exact q_round (s := j) (j + 1) ⟨rfl, rfl, rfl, rfl, rfl, rfl, trivial⟩ ⟨H, by (try dsimp only); omega, hf2⟩ (by (try dsimp only); omega)
    ·refine s_k 8 rfl (s_nil (q_then (c_no rfl (c_skip (q_blockN (q_then (c_reg (s_1 rfl (s_val rfl rfl (r_add (z := ((j + 1 : Nat) : Int)) rfl rfl rfl (by rw [w64 (by omega) (by omega)]; omega)) (s_1 rfl (s_nil ?_)))))))))))
     have hfit : fitR c17 x15 = true := by rw [fitR_eq]; simp_all
     have hf2 := (fitsR_go (bytes_get hb18) hx16 hfit).trans hf
     exact q_round (s := j) (j + 1) ⟨rfl, rfl, rfl, rfl, rfl, rfl, trivial⟩ ⟨H, by (try dsimp only); omega, hf2⟩ (by (try dsimp only); omega)
  ·refine c_exit (q_thenE (q_thenE (q_blockE (q_then (c_seq ?_)))))
   have hact := st_act (D := dg) (key := key) (pos := pos) (g := g) (told := told) (full := full) (k := k) (i := i) (stk := stk) (by omega) (hf.symm.trans (fitsR_end (by omega)))
   refine c_reg (s_k 2 rfl (s_val rfl rfl (r_nilP rfl rfl) (s_val rfl rfl (r_fa rfl fo154_0 rfl) (s_val rfl rfl (r_ld rfl ty102 rfl (H.cellI 0 rfl rfl)) (s_1 rfl (s_val rfl rfl (r_cutP rfl sl102 rfl rfl (by omega) (by omega) rfl) ?_))))))
   replace H := H.newnil kVal
   refine s_appF (xs := []) (ys := stk.take (stk.length - (kindsR i.op).size)) rfl rfl rfl sl102 zr104 rfl (by decide) rfl rfl H (by first | omega | (simp only [List.length_nil]; omega)) (fun F hA hR => rsl_pre (own_rd F (hA _ (List.mem_of_getElem? (i := 2) rfl))) (i := stk.length - (kindsR i.op).size) (by omega)) (fun v28 w H => (s_val rfl rfl (r_nilP rfl rfl) (s_val rfl rfl (r_fa rfl fo154_0 rfl) ?_)))
   obtain ⟨A29, c30, rfl, hc31, hm32, hp33⟩ := H.fA 0 rfl
   replace H := H.p1
   refine s_st rfl rfl rfl ty102 rfl rfl H rfl (Nat.le_of_ble_eq_true rfl) (fun u hu => by simp [Value.cells] at hu; subst hu; rfl) (fun w H => ?_)
   replace H : Hd _ _ _ [blk m (machC (.slice A29 (([] ++ (stk.take (stk.length - (kindsR i.op).size))).length) c30) g key vv ((k : Nat) : Int) tv) 154, osl kVal (.slice A29 (([] ++ (stk.take (stk.length - (kindsR i.op).size))).length) c30) ([] ++ (stk.take (stk.length - (kindsR i.op).size))), osl kVal (.slice A9 ((stk.drop (stk.length - (kindsR i.op).size)).length) c10) (stk.drop (stk.length - (kindsR i.op).size)), osl kVal (.slice A1 stk.length c2) stk, osl kPair tv told, blk b6 [.int .i64 i.op, .int .i64 i.a, .string i.s] 29] [rsl kStr vv full] := H
   refine s_nil (q_then (c_seq (c_seq (c_reg (s_val rfl rfl (r_fa rfl fo29_0 rfl) (s_val rfl rfl (r_ld rfl ty3 rfl (H.cellI 5 rfl rfl)) (s_val rfl rfl (r_eq rfl rfl rfl) (s_1 rfl ?_))))))))
   refine s_dec (d := 77) (p := i.op = 19) rfl (fun h34 => ?_) (fun h34 => ?_)
   ·refine s_k 11 rfl (s_nil (q_then (c_yes rfl (c_seq (c_draw mo (by kernel_rfl) H (u_val rfl rfl (fun w H => r_fa rfl fo29_1 rfl) (u_val rfl rfl (fun w H => r_ld rfl ty3 rfl (H.cellI 5 rfl rfl)) (u_k 2 rfl (u_end (fun w H => (q_then (c_ret (q_thenR (q_ret2 rfl rfl rfl ?_))))))))))))))
    replace H := H.p4
    replace H := H.p2
    replace H := H.p2
    replace H := H.k3
    have e := st_jump hi hact (.inl h34)
    exact fin ⟨i.a, _, _, _, _, _, _, by rw [e], rfl, hk, fun _ => e⟩ H
   ·refine s_val rfl rfl (r_fa rfl fo29_0 rfl) (s_val rfl rfl (r_ld rfl ty3 rfl (H.cellI 5 rfl rfl)) (s_val rfl rfl (r_eq rfl rfl rfl) (s_1 rfl ?_)))
    refine s_dec (d := 81) (p := i.op = 20) rfl (fun h35 => ?_) (fun h35 => ?_)
    ·have hks : (kindsR i.op).size = 1 := by rw [h35]; rfl
     refine s_1 rfl ?_
     obtain ⟨x36, hx37⟩ : ∃ z9, (stk.drop (stk.length - (kindsR i.op).size))[0]? = some z9 := ⟨_, List.getElem?_eq_getElem (show 0 < (stk.drop (stk.length - (kindsR i.op).size)).length by omega)⟩
     have th38 := H.thA 2 rfl hx37
     refine s_val rfl rfl (r_iaE (p := oOf A9 + 0 * 3) rfl sl102 rfl rfl (by omega) (by omega) th38 (by omega)) (s_val rfl rfl (r_fa rfl fo104_1 rfl) (s_val rfl rfl (r_ld rfl ty2 rfl (H.elA 2 rfl hx37 (q := 1) rfl rfl)) (s_val rfl rfl (r_ne rfl rfl rfl) (s_k 2 rfl (s_nil (q_then ?_))))))
     refine c_dec (p := x36.n ≠ 0) rfl (fun h39 => ?_) (fun h39 => ?_)
     ·refine c_seq (c_draw mo (by kernel_rfl) H (u_val rfl rfl (fun w H => r_fa rfl fo29_1 rfl) (u_val rfl rfl (fun w H => r_ld rfl ty3 rfl (H.cellI 5 rfl rfl)) (u_k 2 rfl (u_end (fun w H => (q_then (c_ret (q_thenR (q_ret2 rfl rfl rfl ?_))))))))))
      replace H := H.p4
      replace H := H.p2
      replace H := H.p2
      replace H := H.k3
      have e := st_jump hi hact (.inr ⟨h35, by rw [getD_at hx37]; exact h39⟩)
      exact fin ⟨i.a, _, _, _, _, _, _, by rw [e], rfl, hk, fun _ => e⟩ H
     ·refine c_skip (q_then (c_seq (c_reg (s_1 rfl (s_val rfl rfl (r_ldA (cs := [.int .i64 i.op, .int .i64 i.a, .string i.s]) rfl ty29 rfl rfl (H.cellsI 5 rfl rfl)) (s_1 rfl ?_))))))
      replace H := H.p4
      replace H := H.p1
      have hav : (∀ x ∈ stk.drop (stk.length - (kindsR i.op).size), OkV x) ∧ ∀ j, OkV (g j) := ⟨fun x hx => hok.1 x (List.mem_of_mem_drop hx), hok.2⟩
      have hrl : (stk.take (stk.length - (kindsR i.op).size)).length ≤ 16 := by omega
      have h20 : i.op = 20 → ¬ ((stk.drop (stk.length - (kindsR i.op).size)).getD 0 val0).n ≠ 0 := fun _ => by rw [getD_at hx37]; exact h39
      have hro := ref_out (D := dg) (key := key) (g := g) (told := told) (full := full) (k := k) (i := i) (stk.drop (stk.length - (kindsR i.op).size))
      have hrl0 : ([] ++ (stk.take (stk.length - (kindsR i.op).size))).length = (stk.take (stk.length - (kindsR i.op).size)).length := rfl
      refine sc (rDoes_ok m (.slice A29 (([] ++ (stk.take (stk.length - (kindsR i.op).size))).length) c30) g key vv k tv told full (.slice A9 ((stk.drop (stk.length - (kindsR i.op).size)).length) c10) (stk.drop (stk.length - (kindsR i.op).size)) i n hto hav hi (by rw [hdl]; exact kinds_size _) hk) H (lA 1 rfl own_rd (lR 0 rfl l0)) rfl rfl (e_fn kn134 rfl rfl) ?_
      rintro _ _ w ⟨u40, t41, rfl, rfl⟩ H
      refine s_k 5 rfl (s_nil (q_then ?_))
      replace H := H.h3 (A := blk m (machC (.slice A29 (([] ++ (stk.take (stk.length - (kindsR i.op).size))).length) c30) ((refM dg key g full k told i (stk.drop (stk.length - (kindsR i.op).size))).g) key vv (((refM dg key g full k told i (stk.drop (stk.length - (kindsR i.op).size))).k : Nat) : Int) t41) 154) (B := osl kPair t41 ((refM dg key g full k told i (stk.drop (stk.length - (kindsR i.op).size))).told)) (C := osl kVal u40 ((refM dg key g full k told i (stk.drop (stk.length - (kindsR i.op).size))).out))
      refine c_seq (c_seq (c_reg (s_1 rfl (s_val rfl rfl (r_ne rfl rfl rfl) (s_nil (q_then ?_))))))
      refine c_dec (p := ((refM dg key g full k told i (stk.drop (stk.length - (kindsR i.op).size))).why) ≠ 0) rfl (fun h42 => ?_) (fun h42 => ?_)
      ·refine c_seq (c_reg (s_k 3 rfl (s_nil (q_then (c_ret (q_thenR (q_ret2 rfl rfl rfl ?_)))))))
       replace H := H.p1
       replace H := H.p3
       replace H := H.p2
       replace H := H.k3
       have e := st_why hrl hi hact h0 h34 h20 h42
       exact fin ⟨-1, _, _, _, _, _, _, by rw [e], rfl, ref_k hk, fun h => absurd (e.symm.trans h) h42⟩ H
      ·refine c_skip (q_then (c_seq (c_seq (c_reg (s_1 rfl (s_nil (q_then (c_block ?_))))))))
       obtain ⟨A43, c44, rfl, hc45, hm46, hp47⟩ := H.fA 2 rfl
       replace H := H.p2
       replace H := H.p2
       replace H := H.p3
       replace H := H.p3
       replace H := H.k4
       refine c_loop (σ := Nat) (fun j => [(0, .pointer (some ⟨m, 0, none⟩)), (10, .slice A43 (((refM dg key g full k told i (stk.drop (stk.length - (kindsR i.op).size))).out).length) c44), (12, .int .i64 ((j : Nat) : Int))]) (fun j w => (Hd w0 F0 w [blk m (machC (.slice A29 (([] ++ (stk.take (stk.length - (kindsR i.op).size))).length) c30) ((refM dg key g full k told i (stk.drop (stk.length - (kindsR i.op).size))).g) key vv (((refM dg key g full k told i (stk.drop (stk.length - (kindsR i.op).size))).k : Nat) : Int) t41) 154, osl kVal (.slice A29 (([] ++ (stk.take (stk.length - (kindsR i.op).size))).length) c30) ([] ++ (stk.take (stk.length - (kindsR i.op).size))), osl kPair t41 ((refM dg key g full k told i (stk.drop (stk.length - (kindsR i.op).size))).told), osl kVal (.slice A43 (((refM dg key g full k told i (stk.drop (stk.length - (kindsR i.op).size))).out).length) c44) ((refM dg key g full k told i (stk.drop (stk.length - (kindsR i.op).size))).out)] [rsl kStr vv full]) ∧ (j ≤ (refM dg key g full k told i (stk.drop (stk.length - (kindsR i.op).size))).out.length) ∧ (∀ y ∈ ((refM dg key g full k told i (stk.drop (stk.length - (kindsR i.op).size))).out).take j, bigV y = false)) (fun j => (refM dg key g full k told i (stk.drop (stk.length - (kindsR i.op).size))).out.length - j) 0 ⟨rfl, rfl, rfl, trivial⟩ ⟨H, Nat.zero_le _, by (try dsimp only); simp⟩ ?_
       rintro j w ⟨H, hj, hn⟩
       refine c_seq (c_seq (c_reg (s_k 2 rfl (s_val rfl rfl (r_lenL rfl un102 rfl) (s_val rfl rfl (r_lt rfl rfl rfl) (s_nil (q_then ?_)))))))
       refine c_dec (p := ((j : Nat) : Int) < ((((refM dg key g full k told i (stk.drop (stk.length - (kindsR i.op).size))).out).length : Nat) : Int)) rfl (fun h48 => ?_) (fun h48 => ?_)
       ·refine c_skip (q_then (c_seq (c_block (c_seq (c_reg (s_k 2 rfl ?_))))))
        obtain ⟨x49, hx50⟩ : ∃ z9, ((refM dg key g full k told i (stk.drop (stk.length - (kindsR i.op).size))).out)[j]? = some z9 := ⟨_, List.getElem?_eq_getElem (show j < ((refM dg key g full k told i (stk.drop (stk.length - (kindsR i.op).size))).out).length by omega)⟩
        have th51 := H.thA 3 rfl hx50
        refine s_val rfl rfl (r_iaE (p := oOf A43 + j * 3) rfl sl102 rfl rfl (by omega) (by omega) th51 rfl) (s_val rfl rfl (r_fa rfl fo104_0 rfl) (s_val rfl rfl (r_ld rfl ty4 rfl (H.elA 3 rfl hx50 (q := 0) rfl rfl)) (s_1 rfl ?_)))
        refine s_boo (d := 112) (b := x49.t) rfl (fun h52 => ?_) (fun h52 => ?_)
        ·refine s_k 2 rfl ?_
         have th53 := H.thA 3 rfl hx50
         refine s_val rfl rfl (r_iaE (p := oOf A43 + j * 3) rfl sl102 rfl rfl (by omega) (by omega) th53 rfl) (s_val rfl rfl (r_fa rfl fo104_2 rfl) (s_val rfl rfl (r_ld rfl ty9 rfl (H.elA 3 rfl hx50 (q := 2) rfl rfl)) (s_val rfl rfl (r_lenS rfl un9 rfl) (s_val rfl rfl (r_gt rfl rfl rfl) (s_1 rfl (s_nil (q_then ?_)))))))
         refine c_dec (p := (64 : Int) < ((x49.b.size : Nat) : Int)) rfl (fun h54 => ?_) (fun h54 => ?_)
         ·refine c_seq (c_reg (s_k 2 rfl (s_nil (q_then (c_ret (q_blockR (q_thenR (q_thenR (q_blockR (q_thenR (q_ret2 rfl rfl rfl ?_)))))))))))
          replace H := H.k3
          have e := st_big hrl hi hact h0 h34 h20 h42 hx50 (big_yes h52 h54)
          exact fin ⟨-1, _, _, _, _, _, _, by rw [e], rfl, ref_k hk, fun h => by rw [e] at h; exact absurd h (by decide)⟩ H
         ·exact c_skip (q_blockN (q_then (c_reg (s_1 rfl (s_val rfl rfl (r_add (z := ((j + 1 : Nat) : Int)) rfl rfl rfl (by rw [w64 (by omega) (by omega)]; omega)) (s_1 rfl (s_nil (q_round (s := j) (j + 1) ⟨rfl, rfl, rfl, trivial⟩ ⟨H, by (try dsimp only); omega, take_prop hn hx50 (big_no (.inr h54))⟩ (by (try dsimp only); omega)))))))))
        ·exact s_k 8 rfl (s_nil (q_then (c_no rfl (c_skip (q_blockN (q_then (c_reg (s_1 rfl (s_val rfl rfl (r_add (z := ((j + 1 : Nat) : Int)) rfl rfl rfl (by rw [w64 (by omega) (by omega)]; omega)) (s_1 rfl (s_nil (q_round (s := j) (j + 1) ⟨rfl, rfl, rfl, trivial⟩ ⟨H, by (try dsimp only); omega, take_prop hn hx50 (big_no (.inl h52))⟩ (by (try dsimp only); omega)))))))))))))
       ·refine c_exit (q_thenE (q_thenE (q_blockE (q_then (c_seq (c_seq (c_reg (s_1 rfl (s_val rfl rfl (r_nilP rfl rfl) (s_val rfl rfl (r_fa rfl fo154_0 rfl) (s_val rfl rfl (r_ld rfl ty102 rfl (H.cellI 0 rfl rfl)) (s_val rfl rfl (r_lenL rfl un102 rfl) (s_1 rfl (s_val rfl rfl (r_lenL rfl un102 rfl) (s_val rfl rfl (r_add (z := (((([] ++ (stk.take (stk.length - (kindsR i.op).size))).length) + (((refM dg key g full k told i (stk.drop (stk.length - (kindsR i.op).size))).out).length) : Nat) : Int)) rfl rfl rfl (by rw [w64 (by omega) (by omega)]; omega)) (s_val rfl rfl (r_gt rfl rfl rfl) (s_nil (q_then ?_))))))))))))))))))
        refine c_dec (p := (16 : Int) < (((([] ++ (stk.take (stk.length - (kindsR i.op).size))).length) + (((refM dg key g full k told i (stk.drop (stk.length - (kindsR i.op).size))).out).length) : Nat) : Int)) rfl (fun h55 => ?_) (fun h55 => ?_)
        ·refine c_seq (c_reg (s_k 2 rfl (s_nil (q_then (c_ret (q_thenR (q_ret2 rfl rfl rfl ?_)))))))
         replace H := H.k3
         have e := st_full hrl hi hact h0 h34 h20 h42 (by rw [List.take_of_length_le (by omega)] at hn; exact hn) (by omega)
         exact fin ⟨-1, _, _, _, _, _, _, by rw [e], rfl, ref_k hk, fun h => by rw [e] at h; exact absurd h (by decide)⟩ H
        ·refine c_skip (q_then (c_seq (c_reg (s_k 2 rfl (s_val rfl rfl (r_nilP rfl rfl) (s_val rfl rfl (r_fa rfl fo154_0 rfl) (s_val rfl rfl (r_ld rfl ty102 rfl (H.cellI 0 rfl rfl)) (s_1 rfl ?_))))))))
         replace H := H.p1
         refine s_appF (xs := [] ++ (stk.take (stk.length - (kindsR i.op).size))) (ys := (refM dg key g full k told i (stk.drop (stk.length - (kindsR i.op).size))).out) rfl rfl rfl sl102 zr104 rfl (by decide) rfl rfl H (by first | omega | (simp only [List.length_nil]; omega)) (fun F hA hR => own_rd F (hA _ (List.mem_of_getElem? (i := 2) rfl))) (fun v56 w H => (s_val rfl rfl (r_nilP rfl rfl) (s_val rfl rfl (r_fa rfl fo154_0 rfl) ?_)))
         obtain ⟨A57, c58, rfl, hc59, hm60, hp61⟩ := H.fA 0 rfl
         replace H := H.p1
         refine s_st rfl rfl rfl ty102 rfl rfl H rfl (Nat.le_of_ble_eq_true rfl) (fun u hu => by simp [Value.cells] at hu; subst hu; rfl) (fun w H => ?_)
         replace H := H.h4 (A := blk m (machC (.slice A57 ((([] ++ (stk.take (stk.length - (kindsR i.op).size))) ++ ((refM dg key g full k told i (stk.drop (stk.length - (kindsR i.op).size))).out)).length) c58) ((refM dg key g full k told i (stk.drop (stk.length - (kindsR i.op).size))).g) key vv (((refM dg key g full k told i (stk.drop (stk.length - (kindsR i.op).size))).k : Nat) : Int) t41) 154) (B := osl kVal (.slice A57 ((([] ++ (stk.take (stk.length - (kindsR i.op).size))) ++ ((refM dg key g full k told i (stk.drop (stk.length - (kindsR i.op).size))).out)).length) c58) (([] ++ (stk.take (stk.length - (kindsR i.op).size))) ++ ((refM dg key g full k told i (stk.drop (stk.length - (kindsR i.op).size))).out))) (C := osl kPair t41 ((refM dg key g full k told i (stk.drop (stk.length - (kindsR i.op).size))).told)) (D := osl kVal (.slice A43 (((refM dg key g full k told i (stk.drop (stk.length - (kindsR i.op).size))).out).length) c44) ((refM dg key g full k told i (stk.drop (stk.length - (kindsR i.op).size))).out))
         refine s_nil (q_then (c_seq (c_reg (s_k 2 rfl (s_nil (q_then (c_ret (q_ret2 rfl rfl rfl ?_))))))))
         replace H := H.k3
         have e := st_fine hrl hi hact h0 h34 h20 h42 (by rw [List.take_of_length_le (by omega)] at hn; exact hn) (by omega)
         exact fin ⟨-1, _, _, _, _, _, _, by rw [e], rfl, ref_k hk, fun _ => e⟩ H
    ·refine s_k 7 rfl (s_nil (q_then (c_no rfl (c_skip (q_then (c_seq (c_reg (s_1 rfl (s_val rfl rfl (r_ldA (cs := [.int .i64 i.op, .int .i64 i.a, .string i.s]) rfl ty29 rfl rfl (H.cellsI 5 rfl rfl)) (s_1 rfl ?_))))))))))
     replace H := H.p4
     replace H := H.p1
     have hav : (∀ x ∈ stk.drop (stk.length - (kindsR i.op).size), OkV x) ∧ ∀ j, OkV (g j) := ⟨fun x hx => hok.1 x (List.mem_of_mem_drop hx), hok.2⟩
     have hrl : (stk.take (stk.length - (kindsR i.op).size)).length ≤ 16 := by omega
     have h20 : i.op = 20 → ¬ ((stk.drop (stk.length - (kindsR i.op).size)).getD 0 val0).n ≠ 0 := fun h => absurd h h35
     have hro := ref_out (D := dg) (key := key) (g := g) (told := told) (full := full) (k := k) (i := i) (stk.drop (stk.length - (kindsR i.op).size))
     have hrl0 : ([] ++ (stk.take (stk.length - (kindsR i.op).size))).length = (stk.take (stk.length - (kindsR i.op).size)).length := rfl
     refine sc (rDoes_ok m (.slice A29 (([] ++ (stk.take (stk.length - (kindsR i.op).size))).length) c30) g key vv k tv told full (.slice A9 ((stk.drop (stk.length - (kindsR i.op).size)).length) c10) (stk.drop (stk.length - (kindsR i.op).size)) i n hto hav hi (by rw [hdl]; exact kinds_size _) hk) H (lA 1 rfl own_rd (lR 0 rfl l0)) rfl rfl (e_fn kn134 rfl rfl) ?_
     rintro _ _ w ⟨u62, t63, rfl, rfl⟩ H
     refine s_k 5 rfl (s_nil (q_then ?_))
     replace H := H.h3 (A := blk m (machC (.slice A29 (([] ++ (stk.take (stk.length - (kindsR i.op).size))).length) c30) ((refM dg key g full k told i (stk.drop (stk.length - (kindsR i.op).size))).g) key vv (((refM dg key g full k told i (stk.drop (stk.length - (kindsR i.op).size))).k : Nat) : Int) t63) 154) (B := osl kPair t63 ((refM dg key g full k told i (stk.drop (stk.length - (kindsR i.op).size))).told)) (C := osl kVal u62 ((refM dg key g full k told i (stk.drop (stk.length - (kindsR i.op).size))).out))
     refine c_seq (c_seq (c_reg (s_1 rfl (s_val rfl rfl (r_ne rfl rfl rfl) (s_nil (q_then ?_))))))
     refine c_dec (p := ((refM dg key g full k told i (stk.drop (stk.length - (kindsR i.op).size))).why) ≠ 0) rfl (fun h64 => ?_) (fun h64 => ?_)
     ·refine c_seq (c_reg (s_k 3 rfl (s_nil (q_then (c_ret (q_thenR (q_ret2 rfl rfl rfl ?_)))))))
      replace H := H.p1
      replace H := H.p3
      replace H := H.p2
      replace H := H.k3
      have e := st_why hrl hi hact h0 h34 h20 h64
      exact fin ⟨-1, _, _, _, _, _, _, by rw [e], rfl, ref_k hk, fun h => absurd (e.symm.trans h) h64⟩ H
     ·refine c_skip (q_then (c_seq (c_seq (c_reg (s_1 rfl (s_nil (q_then (c_block ?_))))))))
      obtain ⟨A65, c66, rfl, hc67, hm68, hp69⟩ := H.fA 2 rfl
      replace H := H.p2
      replace H := H.p2
      replace H := H.p3
      replace H := H.p3
      replace H := H.k4
      refine c_loop (σ := Nat) (fun j => [(0, .pointer (some ⟨m, 0, none⟩)), (10, .slice A65 (((refM dg key g full k told i (stk.drop (stk.length - (kindsR i.op).size))).out).length) c66), (12, .int .i64 ((j : Nat) : Int))]) (fun j w => (Hd w0 F0 w [blk m (machC (.slice A29 (([] ++ (stk.take (stk.length - (kindsR i.op).size))).length) c30) ((refM dg key g full k told i (stk.drop (stk.length - (kindsR i.op).size))).g) key vv (((refM dg key g full k told i (stk.drop (stk.length - (kindsR i.op).size))).k : Nat) : Int) t63) 154, osl kVal (.slice A29 (([] ++ (stk.take (stk.length - (kindsR i.op).size))).length) c30) ([] ++ (stk.take (stk.length - (kindsR i.op).size))), osl kPair t63 ((refM dg key g full k told i (stk.drop (stk.length - (kindsR i.op).size))).told), osl kVal (.slice A65 (((refM dg key g full k told i (stk.drop (stk.length - (kindsR i.op).size))).out).length) c66) ((refM dg key g full k told i (stk.drop (stk.length - (kindsR i.op).size))).out)] [rsl kStr vv full]) ∧ (j ≤ (refM dg key g full k told i (stk.drop (stk.length - (kindsR i.op).size))).out.length) ∧ (∀ y ∈ ((refM dg key g full k told i (stk.drop (stk.length - (kindsR i.op).size))).out).take j, bigV y = false)) (fun j => (refM dg key g full k told i (stk.drop (stk.length - (kindsR i.op).size))).out.length - j) 0 ⟨rfl, rfl, rfl, trivial⟩ ⟨H, Nat.zero_le _, by (try dsimp only); simp⟩ ?_
      rintro j w ⟨H, hj, hn⟩
      refine c_seq (c_seq (c_reg (s_k 2 rfl (s_val rfl rfl (r_lenL rfl un102 rfl) (s_val rfl rfl (r_lt rfl rfl rfl) (s_nil (q_then ?_)))))))
      refine c_dec (p := ((j : Nat) : Int) < ((((refM dg key g full k told i (stk.drop (stk.length - (kindsR i.op).size))).out).length : Nat) : Int)) rfl (fun h70 => ?_) (fun h70 => ?_)
      ·refine c_skip (q_then (c_seq (c_block (c_seq (c_reg (s_k 2 rfl ?_))))))
       obtain ⟨x71, hx72⟩ : ∃ z9, ((refM dg key g full k told i (stk.drop (stk.length - (kindsR i.op).size))).out)[j]? = some z9 := ⟨_, List.getElem?_eq_getElem (show j < ((refM dg key g full k told i (stk.drop (stk.length - (kindsR i.op).size))).out).length by omega)⟩
       have th73 := H.thA 3 rfl hx72
       refine s_val rfl rfl (r_iaE (p := oOf A65 + j * 3) rfl sl102 rfl rfl (by omega) (by omega) th73 rfl) (s_val rfl rfl (r_fa rfl fo104_0 rfl) (s_val rfl rfl (r_ld rfl ty4 rfl (H.elA 3 rfl hx72 (q := 0) rfl rfl)) (s_1 rfl ?_)))
       refine s_boo (d := 112) (b := x71.t) rfl (fun h74 => ?_) (fun h74 => ?_)
       ·refine s_k 2 rfl ?_
        have th75 := H.thA 3 rfl hx72
        refine s_val rfl rfl (r_iaE (p := oOf A65 + j * 3) rfl sl102 rfl rfl (by omega) (by omega) th75 rfl) (s_val rfl rfl (r_fa rfl fo104_2 rfl) (s_val rfl rfl (r_ld rfl ty9 rfl (H.elA 3 rfl hx72 (q := 2) rfl rfl)) (s_val rfl rfl (r_lenS rfl un9 rfl) (s_val rfl rfl (r_gt rfl rfl rfl) (s_1 rfl (s_nil (q_then ?_)))))))
        refine c_dec (p := (64 : Int) < ((x71.b.size : Nat) : Int)) rfl (fun h76 => ?_) (fun h76 => ?_)
        ·refine c_seq (c_reg (s_k 2 rfl (s_nil (q_then (c_ret (q_blockR (q_thenR (q_thenR (q_blockR (q_thenR (q_ret2 rfl rfl rfl ?_)))))))))))
         replace H := H.k3
         have e := st_big hrl hi hact h0 h34 h20 h64 hx72 (big_yes h74 h76)
         exact fin ⟨-1, _, _, _, _, _, _, by rw [e], rfl, ref_k hk, fun h => by rw [e] at h; exact absurd h (by decide)⟩ H
        ·exact c_skip (q_blockN (q_then (c_reg (s_1 rfl (s_val rfl rfl (r_add (z := ((j + 1 : Nat) : Int)) rfl rfl rfl (by rw [w64 (by omega) (by omega)]; omega)) (s_1 rfl (s_nil (q_round (s := j) (j + 1) ⟨rfl, rfl, rfl, trivial⟩ ⟨H, by (try dsimp only); omega, take_prop hn hx72 (big_no (.inr h76))⟩ (by (try dsimp only); omega)))))))))
       ·exact s_k 8 rfl (s_nil (q_then (c_no rfl (c_skip (q_blockN (q_then (c_reg (s_1 rfl (s_val rfl rfl (r_add (z := ((j + 1 : Nat) : Int)) rfl rfl rfl (by rw [w64 (by omega) (by omega)]; omega)) (s_1 rfl (s_nil (q_round (s := j) (j + 1) ⟨rfl, rfl, rfl, trivial⟩ ⟨H, by (try dsimp only); omega, take_prop hn hx72 (big_no (.inl h74))⟩ (by (try dsimp only); omega)))))))))))))
      ·refine c_exit (q_thenE (q_thenE (q_blockE (q_then (c_seq (c_seq (c_reg (s_1 rfl (s_val rfl rfl (r_nilP rfl rfl) (s_val rfl rfl (r_fa rfl fo154_0 rfl) (s_val rfl rfl (r_ld rfl ty102 rfl (H.cellI 0 rfl rfl)) (s_val rfl rfl (r_lenL rfl un102 rfl) (s_1 rfl (s_val rfl rfl (r_lenL rfl un102 rfl) (s_val rfl rfl (r_add (z := (((([] ++ (stk.take (stk.length - (kindsR i.op).size))).length) + (((refM dg key g full k told i (stk.drop (stk.length - (kindsR i.op).size))).out).length) : Nat) : Int)) rfl rfl rfl (by rw [w64 (by omega) (by omega)]; omega)) (s_val rfl rfl (r_gt rfl rfl rfl) (s_nil (q_then ?_))))))))))))))))))
       refine c_dec (p := (16 : Int) < (((([] ++ (stk.take (stk.length - (kindsR i.op).size))).length) + (((refM dg key g full k told i (stk.drop (stk.length - (kindsR i.op).size))).out).length) : Nat) : Int)) rfl (fun h77 => ?_) (fun h77 => ?_)
       ·refine c_seq (c_reg (s_k 2 rfl (s_nil (q_then (c_ret (q_thenR (q_ret2 rfl rfl rfl ?_)))))))
        replace H := H.k3
        have e := st_full hrl hi hact h0 h34 h20 h64 (by rw [List.take_of_length_le (by omega)] at hn; exact hn) (by omega)
        exact fin ⟨-1, _, _, _, _, _, _, by rw [e], rfl, ref_k hk, fun h => by rw [e] at h; exact absurd h (by decide)⟩ H
       ·refine c_skip (q_then (c_seq (c_reg (s_k 2 rfl (s_val rfl rfl (r_nilP rfl rfl) (s_val rfl rfl (r_fa rfl fo154_0 rfl) (s_val rfl rfl (r_ld rfl ty102 rfl (H.cellI 0 rfl rfl)) (s_1 rfl ?_))))))))
        replace H := H.p1
        refine s_appF (xs := [] ++ (stk.take (stk.length - (kindsR i.op).size))) (ys := (refM dg key g full k told i (stk.drop (stk.length - (kindsR i.op).size))).out) rfl rfl rfl sl102 zr104 rfl (by decide) rfl rfl H (by first | omega | (simp only [List.length_nil]; omega)) (fun F hA hR => own_rd F (hA _ (List.mem_of_getElem? (i := 2) rfl))) (fun v78 w H => (s_val rfl rfl (r_nilP rfl rfl) (s_val rfl rfl (r_fa rfl fo154_0 rfl) ?_)))
        obtain ⟨A79, c80, rfl, hc81, hm82, hp83⟩ := H.fA 0 rfl
        replace H := H.p1
        refine s_st rfl rfl rfl ty102 rfl rfl H rfl (Nat.le_of_ble_eq_true rfl) (fun u hu => by simp [Value.cells] at hu; subst hu; rfl) (fun w H => ?_)
        replace H := H.h4 (A := blk m (machC (.slice A79 ((([] ++ (stk.take (stk.length - (kindsR i.op).size))) ++ ((refM dg key g full k told i (stk.drop (stk.length - (kindsR i.op).size))).out)).length) c80) ((refM dg key g full k told i (stk.drop (stk.length - (kindsR i.op).size))).g) key vv (((refM dg key g full k told i (stk.drop (stk.length - (kindsR i.op).size))).k : Nat) : Int) t63) 154) (B := osl kVal (.slice A79 ((([] ++ (stk.take (stk.length - (kindsR i.op).size))) ++ ((refM dg key g full k told i (stk.drop (stk.length - (kindsR i.op).size))).out)).length) c80) (([] ++ (stk.take (stk.length - (kindsR i.op).size))) ++ ((refM dg key g full k told i (stk.drop (stk.length - (kindsR i.op).size))).out))) (C := osl kPair t63 ((refM dg key g full k told i (stk.drop (stk.length - (kindsR i.op).size))).told)) (D := osl kVal (.slice A65 (((refM dg key g full k told i (stk.drop (stk.length - (kindsR i.op).size))).out).length) c66) ((refM dg key g full k told i (stk.drop (stk.length - (kindsR i.op).size))).out))
        refine s_nil (q_then (c_seq (c_reg (s_k 2 rfl (s_nil (q_then (c_ret (q_ret2 rfl rfl rfl ?_))))))))
        replace H := H.k3
        have e := st_fine hrl hi hact h0 h34 h20 h64 (by rw [List.take_of_length_le (by omega)] at hn; exact hn) (by omega)
        exact fin ⟨-1, _, _, _, _, _, _, by rw [e], rfl, ref_k hk, fun _ => e⟩ H
end Go.Proofs.YtlpgdkbokakniaaGreatDoor.X

set_option linter.unusedVariables false
set_option linter.unusedSimpArgs false
namespace Go.Proofs.YtlpgdkbokakniaaGreatDoor.X
open Go
set_option maxHeartbeats 4000000 in
theorem rRun0_ok (vp : Value) (p : List Ins) (key : ByteArray) (vv : Value) (vals : List ByteArray) (fuel : Int) (hpa : ∀ i ∈ p, In64 i.a) (hfu : In64 fuel) :
    Cn Tryz.prog 91 [vp, .string key, vv, .int .i64 fuel] [] [rsl kIns vp p, rsl kStr vv vals] (fun v Bs => ∃ u : Value, ∃ dn : Int, v = .tuple #[u, .int .i64 ((runM dg p key vals fuel).2), .int .i64 dn] ∧ Bs = [osl kPair u ((runM dg p key vals fuel).1)]) := by
 intro w0 F0 H
 obtain ⟨A1, c2, rfl, hc3, hm4, hp5⟩ := H.fR 0 rfl
 obtain ⟨A6, c7, rfl, hc8, hm9, hp10⟩ := H.fR 1 rfl
 refine enter (args := [.slice A1 p.length c2, .string key, .slice A6 vals.length c7, .int .i64 fuel]) Tryz.func91 rfl rfl (Nat.le_of_ble_eq_true rfl) (c_seq (c_reg (s_k 3 rfl (s_nil (q_then ?_)))))
 replace H : Hd _ _ _ [] [rsl kIns (.slice A1 p.length c2) p, rsl kStr (.slice A6 vals.length c7) vals] := H
 refine c_seq (c_seq (c_reg (s_1 rfl (sc (rbad_ok (.slice A1 p.length c2) p) H (lR 0 rfl l0) rfl rfl (e_fn kn119 rfl rfl) ?_))))
 rintro _ _ w ⟨rfl, rfl⟩ H
 refine s_val rfl rfl (r_ge rfl rfl rfl) (s_1 rfl ?_)
 refine s_dec (d := 19) (p := (0 : Int) ≤ (badI p)) rfl (fun h11 => ?_) (fun h11 => ?_)
 ·refine s_k 3 rfl (s_nil (q_then (c_yes rfl (c_seq (c_reg (s_k 3 rfl (s_nil (q_then (c_ret (q_thenR (q_ret3 rfl rfl rfl rfl ?_)))))))))))
  have e : runM dg p key vals fuel = ([], 2) := if_pos (by omega)
  replace H := H.newnil kPair
  replace H : Hd _ _ _ [osl kPair (.slice none 0 0) []] [rsl kIns (.slice A1 p.length c2) p, rsl kStr (.slice A6 vals.length c7) vals] := H
  exact fin ⟨(.slice none 0 0), 0, by rw [e] <;> rfl, by rw [e] <;> rfl⟩ H
 ·refine s_1 rfl (s_val rfl rfl (r_lt rfl rfl rfl) (s_1 rfl (s_nil (q_then ?_))))
  refine c_dec (p := fuel < 0) rfl (fun h12 => ?_) (fun h12 => ?_)
  ·refine c_seq (c_reg (s_k 3 rfl (s_nil (q_then (c_ret (q_thenR (q_ret3 rfl rfl rfl rfl ?_)))))))
   have e : runM dg p key vals fuel = ([], 2) := if_pos (by omega)
   replace H := H.newnil kPair
   replace H : Hd _ _ _ [osl kPair (.slice none 0 0) []] [rsl kIns (.slice A1 p.length c2) p, rsl kStr (.slice A6 vals.length c7) vals] := H
   exact fin ⟨(.slice none 0 0), 0, by rw [e] <;> rfl, by rw [e] <;> rfl⟩ H
  ·refine c_skip (q_then (c_seq ?_))
   have hbad : badI p < 0 := by omega
   have hgood := may_all hbad
   have hnb : ¬ (¬ badI p < 0 ∨ fuel < 0) := by omega
   refine c_reg (s_k 2 rfl (s_val rfl rfl (r_bd (parts := [(2, .tmp 23), (3, .tmp 24)]) (vs := [.string key, .slice A6 vals.length c7]) (cs := [.slice none 0 0, .bool false, .int .i64 0, .string ⟨#[]⟩, .bool false, .int .i64 0, .string ⟨#[]⟩, .bool false, .int .i64 0, .string ⟨#[]⟩, .bool false, .int .i64 0, .string ⟨#[]⟩, .bool false, .int .i64 0, .string ⟨#[]⟩, .bool false, .int .i64 0, .string ⟨#[]⟩, .bool false, .int .i64 0, .string ⟨#[]⟩, .bool false, .int .i64 0, .string ⟨#[]⟩, .string key, .slice A6 vals.length c7, .int .i64 0, .slice none 0 0]) rfl bd154 rfl rfl) (s_alloc rfl rfl rfl zr154 H (fun b13 w H => (s_st rfl rfl rfl ty154 rfl rfl H rfl (Nat.le_of_ble_eq_true rfl) (fun u hu => by simp [Value.cells] at hu; rcases hu with rfl | rfl | rfl | rfl | rfl | rfl | rfl | rfl | rfl | rfl | rfl | rfl | rfl | rfl | rfl | rfl | rfl | rfl | rfl | rfl | rfl | rfl | rfl | rfl | rfl | rfl | rfl | rfl | rfl <;> rfl) (fun w H => ?_))))))
   replace H := H.h1 (A := blk b13 [.slice none 0 0, .bool false, .int .i64 0, .string ⟨#[]⟩, .bool false, .int .i64 0, .string ⟨#[]⟩, .bool false, .int .i64 0, .string ⟨#[]⟩, .bool false, .int .i64 0, .string ⟨#[]⟩, .bool false, .int .i64 0, .string ⟨#[]⟩, .bool false, .int .i64 0, .string ⟨#[]⟩, .bool false, .int .i64 0, .string ⟨#[]⟩, .bool false, .int .i64 0, .string ⟨#[]⟩, .string key, .slice A6 vals.length c7, .int .i64 0, .slice none 0 0] 154)
   refine s_nil (q_then (c_seq (c_reg (s_k 2 rfl (s_nil (q_then (c_seq (c_block ?_))))))))
   replace H := (H.newnil kPair).newnil kVal
   replace H := (H.pick 2 rfl)
   replace H : Hd w0 F0 w [blk b13 (machC (.slice none 0 0) (fun _ => val0) key (.slice A6 vals.length c7) ((0 : Nat) : Int) (.slice none 0 0)) 154, osl kVal (.slice none 0 0) [], osl kPair (.slice none 0 0) []] [rsl kIns (.slice A1 p.length c2) p, rsl kStr (.slice A6 vals.length c7) vals] := H
   refine c_loop (σ := Nat × VM × Nat × Value × Value) (fun (d, m, k, sv, tv) => [(0, .slice A1 p.length c2), (3, .int .i64 fuel), (11, .pointer (some ⟨b13, 0, none⟩)), (12, .int .i64 m.pos), (13, .int .i64 ((d : Nat) : Int))]) (fun (d, m, k, sv, tv) w => (Hd w0 F0 w [blk b13 (machC sv m.g key (.slice A6 vals.length c7) ((k : Nat) : Int) tv) 154, osl kVal sv m.stk, osl kPair tv m.told] [rsl kIns (.slice A1 p.length c2) p, rsl kStr (.slice A6 vals.length c7) vals]) ∧ ((d : Int) ≤ min fuel 2000) ∧ (Inv p.length m) ∧ (playM dg p key ((min fuel 2000).toNat - d) m = playM dg p key (min fuel 2000).toNat (vm0 vals)) ∧ (m.halted = false ∧ m.vals = vals.drop k) ∧ (k ≤ vals.length)) (fun (d, m, k, sv, tv) => (min fuel 2000).toNat - d) (0, vm0 vals, 0, .slice none 0 0, .slice none 0 0) ⟨rfl, rfl, rfl, rfl, rfl, trivial⟩ ⟨H, by (try dsimp only); omega, inv0 _ _, rfl, ⟨rfl, rfl⟩, Nat.zero_le _⟩ ?_
   rintro ⟨d, m, k, sv, tv⟩ w ⟨H, hd, hinv, hpl, hmv, hkf⟩
   have hps := hinv.pos
   refine c_seq (c_seq (c_reg (s_k 2 rfl (s_val rfl rfl (r_lenL rfl un22 rfl) (s_val rfl rfl (r_lt rfl rfl rfl) (s_nil (q_then ?_)))))))
   refine c_dec (p := m.pos < ((p.length : Nat) : Int)) rfl (fun h14 => ?_) (fun h14 => ?_)
   ·have hrun : m.pos < (p.length : Int) ∧ m.halted = false := ⟨h14, hmv.1⟩
    refine c_skip (q_then (c_block (c_seq (c_seq (c_reg (s_k 2 rfl (s_val rfl rfl (r_min (z := min fuel 2000) rfl rfl rfl rfl) (s_val rfl rfl (r_ge rfl rfl rfl) (s_nil (q_then ?_))))))))))
    refine c_dec (p := (min fuel 2000) ≤ ((d : Nat) : Int)) rfl (fun h15 => ?_) (fun h15 => ?_)
    ·refine c_seq (c_reg (s_k 4 rfl (s_nil (q_then (c_ret (q_thenR (q_blockR (q_thenR (q_blockR (q_thenR (q_ret3 rfl rfl rfl rfl ?_)))))))))))
     have ep : playM dg p key (min fuel 2000).toNat (vm0 vals) = (m, 3) := by rw [← hpl, show (min fuel 2000).toNat - d = 0 by omega]; exact play_dry hrun
     have e : runM dg p key vals fuel = ([], 3) := by unfold runM; rw [if_neg hnb, ep, if_pos (by exact (by decide : (3 : Int) ≠ 0))]
     replace H := H.newnil kPair
     replace H := H.k1
     replace H : Hd _ _ _ [osl kPair (.slice none 0 0) []] [rsl kIns (.slice A1 p.length c2) p, rsl kStr (.slice A6 vals.length c7) vals] := H
     exact fin ⟨(.slice none 0 0), ((d : Nat) : Int), by rw [e] <;> rfl, by rw [e] <;> rfl⟩ H
    ·refine c_skip (q_then (c_seq (c_reg (s_1 rfl (s_val rfl rfl (r_add (z := ((d + 1 : Nat) : Int)) rfl rfl rfl (by rw [w64 (by omega) (by omega)]; omega)) (s_1 rfl (s_nil (q_then (c_seq (c_seq (c_reg (s_k 2 rfl ?_))))))))))))
     obtain ⟨x16, hx17⟩ : ∃ z9, p[(m.pos).toNat]? = some z9 := ⟨_, List.getElem?_eq_getElem (show (m.pos).toNat < p.length by omega)⟩
     have th18 := H.thR 0 rfl hx17
     refine s_val rfl rfl (r_iaE (p := oOf A1 + ((m.pos).toNat) * 3) rfl sl22 rfl rfl (by omega) (by omega) th18 (by omega)) (s_val rfl rfl (r_fa rfl fo29_0 rfl) (s_val rfl rfl (r_ld rfl ty3 rfl (H.elR 0 rfl hx17 (q := 0) rfl rfl)) (s_val rfl rfl (r_eq rfl rfl rfl) (s_nil (q_then ?_)))))
     refine c_dec (p := x16.op = 0) rfl (fun h19 => ?_) (fun h19 => ?_)
     ·refine c_exit (q_thenE (q_blockE' (by decide) (q_thenE (q_blockE (q_then (c_seq (c_reg (s_val rfl rfl (r_fa rfl fo154_5 rfl) (s_val rfl rfl (r_ld rfl ty23 rfl (H.cellI 0 rfl rfl)) (s_k 4 rfl (s_nil (q_then (c_ret (q_ret3 rfl rfl rfl rfl ?_))))))))))))))
      have ep : playM dg p key (min fuel 2000).toNat (vm0 vals) = (⟨m.pos + 1, true, m.stk, m.g, m.told, m.vals⟩, 0) := by rw [← hpl, show (min fuel 2000).toNat - d = ((min fuel 2000).toNat - (d + 1)) + 1 by omega]; exact play_halt hrun hx17 h19
      have e : runM dg p key vals fuel = (m.told, 0) := by unfold runM; rw [if_neg hnb, ep, if_neg (by exact fun h => h rfl)]
      replace H := H.p2
      replace H := H.k1
      replace H := H.h1 (A := osl kPair tv m.told)
      exact fin ⟨tv, ((d + 1 : Nat) : Int), by rw [e] <;> rfl, by rw [e] <;> rfl⟩ H
     ·refine c_skip (q_then (c_seq (c_reg (s_k 2 rfl ?_))))
      have th20 := H.thR 0 rfl hx17
      refine s_val rfl rfl (r_iaE (p := oOf A1 + ((m.pos).toNat) * 3) rfl sl22 rfl rfl (by omega) (by omega) th20 (by omega)) (s_val rfl rfl (r_ldA (cs := [.int .i64 x16.op, .int .i64 x16.a, .string x16.s]) rfl ty29 rfl rfl (H.elsR 0 rfl hx17 rfl)) ?_)
      replace H := H.h3 (A := blk b13 (machC sv m.g key (.slice A6 vals.length c7) ((k : Nat) : Int) tv) 154) (B := osl kVal sv m.stk) (C := osl kPair tv m.told)
      refine sc (rStep_ok b13 sv m.g key (.slice A6 vals.length c7) k tv m.stk m.told vals x16 (p.length : Int) (m.pos + 1) hinv.len hinv.told hinv.ok (hgood _ (at_mem hx17)) h19 hkf) H (lR 1 rfl l0) rfl rfl (e_fn kn120 rfl rfl) ?_
      rintro _ _ w ⟨to21, sv22, tv23, stk24, g25, k26, told27, rfl, rfl, hf28, hf29⟩ H
      refine s_k 5 rfl (s_nil (q_then ?_))
      replace H := H.h3 (A := blk b13 (machC sv22 g25 key (.slice A6 vals.length c7) ((k26 : Nat) : Int) tv23) 154) (B := osl kVal sv22 stk24) (C := osl kPair tv23 told27)
      refine c_seq (c_seq (c_reg (s_1 rfl (s_val rfl rfl (r_ne rfl rfl rfl) (s_nil (q_then ?_))))))
      refine c_dec (p := ((stepD dg key (m.pos + 1) m.stk m.g m.told vals k x16).2) ≠ 0) rfl (fun h30 => ?_) (fun h30 => ?_)
      ·refine c_seq (c_reg (s_k 5 rfl (s_nil (q_then (c_ret (q_thenR (q_blockR (q_thenR (q_blockR (q_thenR (q_ret3 rfl rfl rfl rfl ?_)))))))))))
       have ep : playM dg p key (min fuel 2000).toNat (vm0 vals) = doesM dg key {m with pos := m.pos + 1} x16 := by rw [← hpl, show (min fuel 2000).toNat - d = ((min fuel 2000).toNat - (d + 1)) + 1 by omega]; exact play_fail hrun hx17 (by rw [step_is hmv]; exact h30)
       have e : runM dg p key vals fuel = ([], (stepD dg key (m.pos + 1) m.stk m.g m.told vals k x16).2) := by unfold runM; rw [if_neg hnb, ep, step_is hmv, if_pos h30]
       replace H := H.newnil kPair
       replace H := H.k1
       replace H : Hd _ _ _ [osl kPair (.slice none 0 0) []] [rsl kIns (.slice A1 p.length c2) p, rsl kStr (.slice A6 vals.length c7) vals] := H
       exact fin ⟨(.slice none 0 0), ((d + 1 : Nat) : Int), by rw [e] <;> rfl, by rw [e] <;> rfl⟩ H
      ·have h30z := Classical.not_not.1 h30
       refine c_skip (q_then (c_seq (c_reg (s_1 rfl (s_val rfl rfl (r_add (z := m.pos + 1) rfl rfl rfl (w64 (by omega) (by omega))) (s_1 rfl (s_nil (q_then (c_seq (c_reg (s_1 rfl (s_val rfl rfl (r_ge rfl rfl rfl) (s_nil (q_then ?_))))))))))))))
       refine c_dec (p := (0 : Int) ≤ to21) rfl (fun h31 => ?_) (fun h31 => ?_)
       ·refine c_reg (s_k 2 rfl (s_nil (q_blockN ?_)))
        have ed : doesM dg key {m with pos := m.pos + 1} x16 = ((⟨to21, false, stk24, g25, told27, vals.drop k26⟩ : VM), 0) := step_does hmv (hf29 h30z) (if_pos h31)
        have hj : (min fuel 2000).toNat - d = ((min fuel 2000).toNat - (d + 1)) + 1 := by omega
        have hpl2 : playM dg p key ((min fuel 2000).toNat - (d + 1)) ⟨to21, false, stk24, g25, told27, vals.drop k26⟩ = playM dg p key (min fuel 2000).toNat (vm0 vals) := by rw [← hpl, hj, play_go (m := m) hrun hx17 (by rw [ed]; exact fun h => h rfl), ed]
        have hinv2 : Inv p.length (⟨to21, false, stk24, g25, told27, vals.drop k26⟩ : VM) := by have h := inv_does num_in (inv_next hinv hrun.1) (hgood _ (at_mem hx17)) (hpa _ (at_mem hx17)) (by rw [ed]); rw [ed] at h; exact h
        exact q_round (s := (d, m, k, undef, undef)) (d + 1, ⟨to21, false, stk24, g25, told27, vals.drop k26⟩, k26, sv22, tv23) ⟨rfl, rfl, rfl, rfl, rfl, trivial⟩ ⟨H, by (try dsimp only); omega, hinv2, hpl2, ⟨rfl, rfl⟩, hf28⟩ (by (try dsimp only); omega)
       ·refine c_skip (q_blockN ?_)
        have ed : doesM dg key {m with pos := m.pos + 1} x16 = ((⟨m.pos + 1, false, stk24, g25, told27, vals.drop k26⟩ : VM), 0) := step_does hmv (hf29 h30z) (if_neg h31)
        have hj : (min fuel 2000).toNat - d = ((min fuel 2000).toNat - (d + 1)) + 1 := by omega
        have hpl2 : playM dg p key ((min fuel 2000).toNat - (d + 1)) ⟨m.pos + 1, false, stk24, g25, told27, vals.drop k26⟩ = playM dg p key (min fuel 2000).toNat (vm0 vals) := by rw [← hpl, hj, play_go (m := m) hrun hx17 (by rw [ed]; exact fun h => h rfl), ed]
        have hinv2 : Inv p.length (⟨m.pos + 1, false, stk24, g25, told27, vals.drop k26⟩ : VM) := by have h := inv_does num_in (inv_next hinv hrun.1) (hgood _ (at_mem hx17)) (hpa _ (at_mem hx17)) (by rw [ed]); rw [ed] at h; exact h
        exact q_round (s := (d, m, k, undef, undef)) (d + 1, ⟨m.pos + 1, false, stk24, g25, told27, vals.drop k26⟩, k26, sv22, tv23) ⟨rfl, rfl, rfl, rfl, rfl, trivial⟩ ⟨H, by (try dsimp only); omega, hinv2, hpl2, ⟨rfl, rfl⟩, hf28⟩ (by (try dsimp only); omega)
   ·refine c_exit (q_thenE (q_thenE (q_blockE (q_then (c_seq (c_reg (s_val rfl rfl (r_fa rfl fo154_5 rfl) (s_val rfl rfl (r_ld rfl ty23 rfl (H.cellI 0 rfl rfl)) (s_k 4 rfl (s_nil (q_then (c_ret (q_ret3 rfl rfl rfl rfl ?_)))))))))))))
    have ep : playM dg p key (min fuel 2000).toNat (vm0 vals) = (m, 0) := by rw [← hpl]; exact play_stop _ (fun h => h14 h.1)
    have e : runM dg p key vals fuel = (m.told, 0) := by unfold runM; rw [if_neg hnb, ep, if_neg (by exact fun h => h rfl)]
    replace H := H.p2
    replace H := H.k1
    replace H := H.h1 (A := osl kPair tv m.told)
    exact fin ⟨tv, ((d : Nat) : Int), by rw [e] <;> rfl, by rw [e] <;> rfl⟩ H
end Go.Proofs.YtlpgdkbokakniaaGreatDoor.X

set_option linter.unusedVariables false
set_option linter.unusedSimpArgs false
namespace Go.Proofs.YtlpgdkbokakniaaGreatDoor.X
open Go
end Go.Proofs.YtlpgdkbokakniaaGreatDoor.X

set_option linter.unusedVariables false
set_option linter.unusedSimpArgs false
namespace Go.Proofs.YtlpgdkbokakniaaGreatDoor.X
open Go
set_option maxHeartbeats 1000000 in
theorem two_ok (vxs : Value) (xs : List Pair) (vys : Value) (ys : List Pair) (hb : xs.length + ys.length ≤ 1000000) :
    Cn Tryz.prog 41 [vxs, vys] [] [rsl kPair vxs xs, rsl kPair vys ys] (fun v Bs => Bs = [osl kPair v (srt (xs ++ ys))]) := by
 intro w0 F0 H
 obtain ⟨A1, c2, rfl, hc3, hm4, hp5⟩ := H.fR 0 rfl
 obtain ⟨A6, c7, rfl, hc8, hm9, hp10⟩ := H.fR 1 rfl
 refine enter (args := [.slice A1 xs.length c2, .slice A6 ys.length c7]) Tryz.func41 rfl rfl (Nat.le_of_ble_eq_true rfl) (c_seq (c_reg (s_1 rfl (s_nil (q_then ?_)))))
 replace H : Hd _ _ _ [] [rsl kPair (.slice A1 xs.length c2) xs, rsl kPair (.slice A6 ys.length c7) ys] := H
 refine c_seq (c_seq (c_reg (s_1 rfl (sc (sorted_ok (.slice A1 xs.length c2) xs (by first | omega | decide | (simp only [List.length_append, List.length_cons, List.length_nil, srt_len]; omega))) H (lR 0 rfl l0) rfl rfl (e_fn kn27 rfl rfl) ?_))))
 rintro _ _ w ⟨rfl, rfl⟩ H
 refine s_val rfl rfl (r_notP rfl rfl) (s_1 rfl ?_)
 refine s_dec (d := 9) (p := ¬ (Ord xs)) rfl (fun h11 => ?_) (fun h11 => ?_)
 ·refine s_k 4 rfl (s_nil (q_then (c_yes rfl (c_seq (c_reg (s_1 rfl ?_))))))
  replace H := H.newnil kPair
  refine s_appF (xs := []) (ys := xs) rfl rfl rfl sl23 zr56 rfl (by decide) rfl rfl H (by first | omega | (simp only [List.length_append, List.length_cons, List.length_nil]; omega)) (fun F hA hR => hR _ (List.mem_of_getElem? (i := 0) rfl)) (fun v12 w H => (s_1 rfl (s_appF (xs := [] ++ xs) (ys := ys) rfl rfl rfl sl23 zr56 rfl (by decide) rfl rfl H (by first | omega | (simp only [List.length_append, List.length_cons, List.length_nil]; omega)) (fun F hA hR => hR _ (List.mem_of_getElem? (i := 1) rfl)) (fun v13 w H => ?_))))
  replace H : Hd _ _ _ [osl kPair v13 (([] ++ xs) ++ ys)] [rsl kPair (.slice A1 xs.length c2) xs, rsl kPair (.slice A6 ys.length c7) ys] := H
  refine sc (pairSort_ok v13 (([] ++ xs) ++ ys) (by first | omega | decide | (simp only [List.length_append, List.length_cons, List.length_nil, srt_len]; omega))) H (lA 0 rfl own_rd l0) rfl rfl (e_fn kn15 rfl rfl) ?_
  rintro v14 _ w rfl H
  refine s_1 rfl (s_nil (q_then ?_))
  replace H := H.h1 (A := osl kPair v14 (srt (([] ++ xs) ++ ys)))
  refine c_ret (q_thenR (q_ret1 rfl rfl ?_))
  replace H := H.k1
  replace H := H.h1 (A := osl kPair v14 (srt (xs ++ ys)))
  exact fin rfl H
 ·refine s_1 rfl (sc (sorted_ok (.slice A6 ys.length c7) ys (by first | omega | decide | (simp only [List.length_append, List.length_cons, List.length_nil, srt_len]; omega))) H (lR 1 rfl l0) rfl rfl (e_fn kn27 rfl rfl) ?_)
  rintro _ _ w ⟨rfl, rfl⟩ H
  refine s_val rfl rfl (r_notP rfl rfl) (s_1 rfl (s_nil (q_then ?_)))
  refine c_dec (p := ¬ (Ord ys)) rfl (fun h15 => ?_) (fun h15 => ?_)
  ·refine c_seq (c_reg (s_1 rfl ?_))
   replace H := H.newnil kPair
   refine s_appF (xs := []) (ys := xs) rfl rfl rfl sl23 zr56 rfl (by decide) rfl rfl H (by first | omega | (simp only [List.length_append, List.length_cons, List.length_nil]; omega)) (fun F hA hR => hR _ (List.mem_of_getElem? (i := 0) rfl)) (fun v16 w H => (s_1 rfl (s_appF (xs := [] ++ xs) (ys := ys) rfl rfl rfl sl23 zr56 rfl (by decide) rfl rfl H (by first | omega | (simp only [List.length_append, List.length_cons, List.length_nil]; omega)) (fun F hA hR => hR _ (List.mem_of_getElem? (i := 1) rfl)) (fun v17 w H => ?_))))
   replace H : Hd _ _ _ [osl kPair v17 (([] ++ xs) ++ ys)] [rsl kPair (.slice A1 xs.length c2) xs, rsl kPair (.slice A6 ys.length c7) ys] := H
   refine sc (pairSort_ok v17 (([] ++ xs) ++ ys) (by first | omega | decide | (simp only [List.length_append, List.length_cons, List.length_nil, srt_len]; omega))) H (lA 0 rfl own_rd l0) rfl rfl (e_fn kn15 rfl rfl) ?_
   rintro v18 _ w rfl H
   refine s_1 rfl (s_nil (q_then ?_))
   replace H := H.h1 (A := osl kPair v18 (srt (([] ++ xs) ++ ys)))
   refine c_ret (q_thenR (q_ret1 rfl rfl ?_))
   replace H := H.k1
   replace H := H.h1 (A := osl kPair v18 (srt (xs ++ ys)))
   exact fin rfl H
  ·refine c_skip (q_then (c_seq ?_))
   have hoxs : Ord xs := Classical.not_not.1 h11
   have hoys : Ord ys := Classical.not_not.1 h15
   refine c_reg (s_1 rfl (s_nil (q_then (c_seq (c_block ?_)))))
   replace H := H.newnil kPair
   replace H := H.dupR 1 rfl
   replace H := H.dupR 1 rfl
   refine c_loop (σ := Value × Value × List Pair × List Pair × Value × List Pair) (fun (u, v, al, bl, q, zs) => [(0, u), (1, v), (4, .slice none 0 0), (5, q)]) (fun (u, v, al, bl, q, zs) w => (Hd w0 F0 w [osl kPair q zs] [rsl kPair u al, rsl kPair v bl, rsl kPair (.slice A1 xs.length c2) xs, rsl kPair (.slice A6 ys.length c7) ys]) ∧ (Ord al) ∧ (Ord bl) ∧ (zs.length + (al.length + bl.length) = xs.length + ys.length) ∧ (zs ++ srt (al ++ bl) = srt (xs ++ ys))) (fun (u, v, al, bl, q, zs) => al.length + bl.length) (.slice A1 xs.length c2, .slice A6 ys.length c7, xs, ys, .slice none 0 0, []) ⟨rfl, rfl, rfl, rfl, trivial⟩ ⟨H, hoxs, hoys, by (try dsimp only); simp only [List.length_nil]; omega, rfl⟩ ?_
   rintro ⟨u, v, al, bl, q, zs⟩ w ⟨H, ha, hb2, hl, hz⟩
   refine c_seq (c_seq (c_reg (s_1 rfl ?_)))
   obtain ⟨A19, c20, rfl, hc21, hm22, hp23⟩ := H.fR 0 rfl
   refine s_val rfl rfl (r_lenL rfl un23 rfl) (s_val rfl rfl (r_gt rfl rfl rfl) (s_1 rfl ?_))
   refine s_dec (d := 22) (p := (0 : Int) < ((al.length : Nat) : Int)) rfl (fun h24 => ?_) (fun h24 => ?_)
   ·refine s_1 rfl ?_
    obtain ⟨A25, c26, rfl, hc27, hm28, hp29⟩ := H.fR 1 rfl
    refine s_val rfl rfl (r_lenL rfl un23 rfl) (s_val rfl rfl (r_gt rfl rfl rfl) (s_1 rfl (s_nil (q_then ?_))))
    replace H : Hd _ _ _ [osl kPair q zs] [rsl kPair (.slice A19 al.length c20) al, rsl kPair (.slice A25 bl.length c26) bl, rsl kPair (.slice A1 xs.length c2) xs, rsl kPair (.slice A6 ys.length c7) ys] := H
    refine c_dec (p := (0 : Int) < ((bl.length : Nat) : Int)) rfl (fun h30 => ?_) (fun h30 => ?_)
    ·refine c_skip (q_then (c_block (c_seq (c_seq (c_draw mo (by kernel_rfl) H (u_1 rfl ?_))))))
     obtain ⟨x31, hx32⟩ : ∃ z9, bl[0]? = some z9 := ⟨_, List.getElem?_eq_getElem (show 0 < bl.length by omega)⟩
     have th33 := H.thR 1 rfl hx32
     refine u_val rfl rfl (fun w H => r_iaE (p := oOf A25 + 0 * 2) rfl sl23 rfl rfl (by omega) (by omega) th33 (by omega)) (u_val rfl rfl (fun w H => r_fa rfl fo56_0 rfl) (u_val rfl rfl (fun w H => r_ld rfl ty9 rfl (H.elR 1 rfl hx32 (q := 0) rfl rfl)) (u_1 rfl ?_)))
     obtain ⟨x34, hx35⟩ : ∃ z9, al[0]? = some z9 := ⟨_, List.getElem?_eq_getElem (show 0 < al.length by omega)⟩
     have th36 := H.thR 0 rfl hx35
     refine u_val rfl rfl (fun w H => r_iaE (p := oOf A19 + 0 * 2) rfl sl23 rfl rfl (by omega) (by omega) th36 (by omega)) (u_val rfl rfl (fun w H => r_fa rfl fo56_0 rfl) (u_val rfl rfl (fun w H => r_ld rfl ty9 rfl (H.elR 0 rfl hx35 (q := 0) rfl rfl)) (u_val rfl rfl (fun w H => r_ltS rfl rfl rfl) (u_end (fun w H => (q_then ?_))))))
     refine c_dec (p := ltS x31.key x34.key = true) rfl (fun h37 => ?_) (fun h37 => ?_)
     ·refine c_seq (c_reg (s_k 2 rfl ?_))
      have th38 := H.thR 1 rfl hx32
      refine s_val rfl rfl (r_iaE (p := oOf A25 + 0 * 2) rfl sl23 rfl rfl (by omega) (by omega) th38 (by omega)) (s_val rfl rfl (r_ldA (cs := [.string x31.key, .string x31.val]) rfl ty56 rfl rfl (H.elsR 1 rfl hx32 rfl)) (s_bsl (parts := [(0, .tmp 39)]) (vs := [.agg #[.string x31.key, .string x31.val]]) (cs := [.string x31.key, .string x31.val]) rfl rfl rfl sl23 zr56 rfl (by decide) (by decide) rfl rfl H (fun b39 w H => ?_)))
      replace H := H.p1
      refine s_appF (xs := zs) (ys := [x31]) rfl rfl rfl sl23 zr56 rfl (by decide) rfl rfl H (by first | omega | (simp only [List.length_append, List.length_cons, List.length_nil]; omega)) (fun F hA hR => blk_rsl (hA _ (List.mem_of_getElem? (i := 0) rfl)) rfl (by decide) (RepsR.flat_eq.2 rfl)) (fun v40 w H => (s_1 rfl (s_nil (q_then ?_))))
      replace H : Hd _ _ _ [osl kPair v40 (zs ++ [x31]), blk b39 [.string x31.key, .string x31.val] 56] [rsl kPair (.slice A19 al.length c20) al, rsl kPair (.slice A25 bl.length c26) bl, rsl kPair (.slice A1 xs.length c2) xs, rsl kPair (.slice A6 ys.length c7) ys] := H
      refine c_seq (c_reg (s_1 rfl (s_val rfl rfl (r_cutS rfl sl23 rfl rfl (by omega) (by omega) rfl) (s_1 rfl (s_nil (q_then (c_exit (q_thenE (q_blockE ?_)))))))))
      replace H := H.k1
      replace H := H.sufR 1 rfl (n := 1) (by omega)
      replace H : Hd w0 F0 w [osl kPair v40 (zs ++ [x31])] [rsl kPair (.slice A19 al.length c20) al, rsl kPair (.slice (cutA A25 c26 1 2) (bl.length - 1) (c26 - 1)) (bl.drop 1), rsl kPair (.slice A1 xs.length c2) xs, rsl kPair (.slice A6 ys.length c7) ys] := H.pickR [1, 0, 3, 4]
      have hz2 : (zs ++ [x31]) ++ srt (al ++ bl.drop 1) = srt (xs ++ ys) := by rw [← hz, mer_b hx35 hx32 ha hb2 h37, List.append_assoc]; rfl
      exact q_round (s := (undef, undef, al, bl, undef, zs)) (.slice A19 al.length c20, .slice (cutA A25 c26 1 2) (bl.length - 1) (c26 - 1), al, bl.drop 1, v40, zs ++ [x31]) ⟨rfl, rfl, rfl, rfl, trivial⟩ ⟨H, ha, ord_drop hb2 1, by (try dsimp only); simp only [List.length_append, List.length_cons, List.length_nil, List.length_drop]; omega, hz2⟩ (by (try dsimp only); simp only [List.length_drop]; omega)
     ·refine c_skip (q_then (c_seq (c_reg (s_k 2 rfl ?_))))
      have th41 := H.thR 0 rfl hx35
      refine s_val rfl rfl (r_iaE (p := oOf A19 + 0 * 2) rfl sl23 rfl rfl (by omega) (by omega) th41 (by omega)) (s_val rfl rfl (r_ldA (cs := [.string x34.key, .string x34.val]) rfl ty56 rfl rfl (H.elsR 0 rfl hx35 rfl)) (s_bsl (parts := [(0, .tmp 47)]) (vs := [.agg #[.string x34.key, .string x34.val]]) (cs := [.string x34.key, .string x34.val]) rfl rfl rfl sl23 zr56 rfl (by decide) (by decide) rfl rfl H (fun b42 w H => ?_)))
      replace H := H.p1
      refine s_appF (xs := zs) (ys := [x34]) rfl rfl rfl sl23 zr56 rfl (by decide) rfl rfl H (by first | omega | (simp only [List.length_append, List.length_cons, List.length_nil]; omega)) (fun F hA hR => blk_rsl (hA _ (List.mem_of_getElem? (i := 0) rfl)) rfl (by decide) (RepsR.flat_eq.2 rfl)) (fun v43 w H => (s_1 rfl (s_nil (q_then ?_))))
      replace H : Hd _ _ _ [osl kPair v43 (zs ++ [x34]), blk b42 [.string x34.key, .string x34.val] 56] [rsl kPair (.slice A19 al.length c20) al, rsl kPair (.slice A25 bl.length c26) bl, rsl kPair (.slice A1 xs.length c2) xs, rsl kPair (.slice A6 ys.length c7) ys] := H
      refine c_reg (s_1 rfl (s_val rfl rfl (r_cutS rfl sl23 rfl rfl (by omega) (by omega) rfl) (s_1 rfl (s_nil (q_blockN ?_)))))
      replace H := H.k1
      replace H := H.sufR 0 rfl (n := 1) (by omega)
      replace H : Hd w0 F0 w [osl kPair v43 (zs ++ [x34])] [rsl kPair (.slice (cutA A19 c20 1 2) (al.length - 1) (c20 - 1)) (al.drop 1), rsl kPair (.slice A25 bl.length c26) bl, rsl kPair (.slice A1 xs.length c2) xs, rsl kPair (.slice A6 ys.length c7) ys] := H.pickR [0, 2, 3, 4]
      have hz2 : (zs ++ [x34]) ++ srt (al.drop 1 ++ bl) = srt (xs ++ ys) := by rw [← hz, mer_a hx35 hx32 ha hb2 h37, List.append_assoc]; rfl
      exact q_round (s := (undef, undef, al, bl, undef, zs)) (.slice (cutA A19 c20 1 2) (al.length - 1) (c20 - 1), .slice A25 bl.length c26, al.drop 1, bl, v43, zs ++ [x34]) ⟨rfl, rfl, rfl, rfl, trivial⟩ ⟨H, ord_drop ha 1, hb2, by (try dsimp only); simp only [List.length_append, List.length_cons, List.length_nil, List.length_drop]; omega, hz2⟩ (by (try dsimp only); simp only [List.length_drop]; omega)
    ·refine c_exit (q_thenE (q_thenE (q_blockE (q_then (c_seq (c_reg (s_k 2 rfl (s_appF (xs := zs) (ys := al) rfl rfl rfl sl23 zr56 rfl (by decide) rfl rfl H (by first | omega | (simp only [List.length_append, List.length_cons, List.length_nil]; omega)) (fun F hA hR => hR _ (List.mem_of_getElem? (i := 0) rfl)) (fun v44 w H => (s_1 rfl (s_appF (xs := zs ++ al) (ys := bl) rfl rfl rfl sl23 zr56 rfl (by decide) rfl rfl H (by first | omega | (simp only [List.length_append, List.length_cons, List.length_nil]; omega)) (fun F hA hR => hR _ (List.mem_of_getElem? (i := 1) rfl)) (fun v45 w H => (s_1 rfl (s_nil (q_then ?_)))))))))))))))
     replace H := H.h1 (A := osl kPair v45 ((zs ++ al) ++ bl))
     refine c_ret (q_ret1 rfl rfl ?_)
     replace H : Hd w0 F0 w [osl kPair v45 (srt (xs ++ ys))] [rsl kPair (.slice A19 al.length c20) al, rsl kPair (.slice A25 bl.length c26) bl, rsl kPair (.slice A1 xs.length c2) xs, rsl kPair (.slice A6 ys.length c7) ys] := by rw [← hz, mer_end ha hb2 (by omega), ← List.append_assoc]; exact H
     replace H := H.dropR
     replace H := H.dropR
     exact fin rfl H
   ·refine s_k 4 rfl (s_nil (q_then ?_))
    replace H : Hd _ _ _ [osl kPair q zs] [rsl kPair (.slice A19 al.length c20) al, rsl kPair v bl, rsl kPair (.slice A1 xs.length c2) xs, rsl kPair (.slice A6 ys.length c7) ys] := H
    refine c_no rfl (c_exit (q_thenE (q_thenE (q_blockE (q_then (c_seq (c_reg (s_k 2 rfl (s_appF (xs := zs) (ys := al) rfl rfl rfl sl23 zr56 rfl (by decide) rfl rfl H (by first | omega | (simp only [List.length_append, List.length_cons, List.length_nil]; omega)) (fun F hA hR => hR _ (List.mem_of_getElem? (i := 0) rfl)) (fun v46 w H => (s_1 rfl ?_)))))))))))
    obtain ⟨A47, c48, rfl, hc49, hm50, hp51⟩ := H.fR 1 rfl
    refine s_appF (xs := zs ++ al) (ys := bl) rfl rfl rfl sl23 zr56 rfl (by decide) rfl rfl H (by first | omega | (simp only [List.length_append, List.length_cons, List.length_nil]; omega)) (fun F hA hR => hR _ (List.mem_of_getElem? (i := 1) rfl)) (fun v52 w H => (s_1 rfl (s_nil (q_then ?_))))
    replace H : Hd _ _ _ [osl kPair v52 ((zs ++ al) ++ bl)] [rsl kPair (.slice A19 al.length c20) al, rsl kPair (.slice A47 bl.length c48) bl, rsl kPair (.slice A1 xs.length c2) xs, rsl kPair (.slice A6 ys.length c7) ys] := H
    refine c_ret (q_ret1 rfl rfl ?_)
    replace H : Hd w0 F0 w [osl kPair v52 (srt (xs ++ ys))] [rsl kPair (.slice A19 al.length c20) al, rsl kPair (.slice A47 bl.length c48) bl, rsl kPair (.slice A1 xs.length c2) xs, rsl kPair (.slice A6 ys.length c7) ys] := by rw [← hz, mer_end ha hb2 (by omega), ← List.append_assoc]; exact H
    replace H := H.dropR
    replace H := H.dropR
    exact fin rfl H
set_option maxHeartbeats 1000000 in
theorem runs_ok (vus : Value) (us : List (Value × List Pair)) (hb : (flat2 us).length ≤ 1000000) :
    Cn Tryz.prog 18 [vus] [] [rsl (kHd kPair) vus us] (fun v Bs => Bs = [osl kPair v (srt (flat2 us))]) := by
 intro w0 F0 H
 obtain ⟨A1, c2, rfl, hc3, hm4, hp5⟩ := H.fR 0 rfl
 refine enter (args := [.slice A1 us.length c2]) Tryz.func18 rfl rfl (Nat.le_of_ble_eq_true rfl) (c_seq (c_reg (s_1 rfl (s_nil (q_then ?_)))))
 replace H : Hd _ _ _ [] [rsl (kHd kPair) (.slice A1 us.length c2) us] := H
 refine c_seq (c_reg (s_1 rfl (s_nil (q_then (c_seq (c_seq (c_reg (s_1 rfl (s_val rfl rfl (r_lenL rfl un31 rfl) (s_1 rfl (s_nil (q_then (c_block ?_)))))))))))))
 replace H := H.newnil kPair
 refine c_loop (σ := Nat × Value) (fun (k, q) => [(2, .slice none 0 0), (3, q), (6, .slice A1 us.length c2), (7, .int .i64 ((us.length : Nat) : Int)), (8, .int .i64 ((k : Nat) : Int))]) (fun (k, q) w => (Hd w0 F0 w [osl kPair q (srt (flat2 (us.take k)))] [rsl (kHd kPair) (.slice A1 us.length c2) us]) ∧ (k ≤ us.length)) (fun (k, q) => us.length - k) (0, .slice none 0 0) ⟨rfl, rfl, rfl, rfl, rfl, trivial⟩ ⟨H, by (try dsimp only); omega⟩ ?_
 rintro ⟨k, q⟩ w ⟨H, hk⟩
 have hsl := srt_len (flat2 (us.take k))
 refine c_seq (c_reg (s_val rfl rfl (r_lt rfl rfl rfl) (s_nil (q_then (c_seq ?_)))))
 refine c_dec (p := ((k : Nat) : Int) < ((us.length : Nat) : Int)) rfl (fun h6 => ?_) (fun h6 => ?_)
 ·refine c_skip (q_then (c_seq (c_block (c_seq (c_reg ?_)))))
  obtain ⟨⟨u9, x7⟩, hx8⟩ : ∃ z9, us[k]? = some z9 := ⟨_, List.getElem?_eq_getElem (show k < us.length by omega)⟩
  obtain ⟨A10, c11, rfl, hc12, hm13⟩ := H.nestR 0 rfl hx8
  have th14 := H.thRd 0 rfl hx8
  refine s_val rfl rfl (r_iaE (p := oOf A1 + k * 1) rfl sl31 rfl rfl (by omega) (by omega) th14 rfl) (s_val rfl rfl (r_ld rfl ty23 rfl (H.elRd 0 rfl hx8 rfl)) (s_1 rfl (s_nil (q_then ?_))))
  have hfl := flat2_le us (k + 1)
  rw [flat2_step hx8, List.length_append] at hfl
  refine c_reg (s_k 2 rfl (sc (two_ok q (srt (flat2 (us.take k))) (.slice A10 x7.length c11) x7 (by first | omega | decide | (simp only [List.length_append, List.length_cons, List.length_nil, srt_len]; omega))) H (lA 0 rfl own_rd (lX (fun F hA hR => nest_rsl (hR _ (List.mem_of_getElem? (i := 0) rfl)) hx8) l0)) rfl rfl (e_fn kn41 rfl rfl) ?_))
  rintro v15 _ w rfl H
  refine s_1 rfl (s_nil (q_blockN (q_then ?_)))
  replace H : Hd _ _ _ [osl kPair v15 (srt ((srt (flat2 (us.take k))) ++ x7)), osl kPair q (srt (flat2 (us.take k)))] [rsl (kHd kPair) (.slice A1 us.length c2) us] := H
  refine c_reg (s_val rfl rfl (r_add (z := ((k + 1 : Nat) : Int)) rfl rfl rfl (by rw [w64 (by omega) (by omega)]; omega)) (s_1 rfl (s_nil ?_)))
  replace H := H.k1
  replace H : Hd w0 F0 w [osl kPair v15 (srt (flat2 (us.take (k + 1))))] [rsl (kHd kPair) (.slice A1 us.length c2) us] := by rw [flat2_step hx8, ← srt_app_srt]; exact H
  exact q_round (s := (k, undef)) (k + 1, v15) ⟨rfl, rfl, rfl, rfl, rfl, trivial⟩ ⟨H, by (try dsimp only); omega⟩ (by (try dsimp only); omega)
 ·refine c_exit (q_thenE (q_thenE (q_blockE (q_then (c_seq (c_reg (s_k 2 rfl (s_nil (q_then (c_ret (q_ret1 rfl rfl ?_)))))))))))
  replace H : Hd w0 F0 w [osl kPair q (srt (flat2 us))] [rsl (kHd kPair) (.slice A1 us.length c2) us] := by rw [List.take_of_length_le (show us.length ≤ k by omega)] at H; exact H
  exact fin rfl H
set_option maxHeartbeats 1000000 in
theorem rRuns_ok (vus : Value) (us : List (Value × List Pair)) (hb : (flat2 us).length ≤ 1000000) :
    Cn Tryz.prog 40 [vus] [] [rsl (kHd kPair) vus us] (fun v Bs => Bs = [osl kPair v (srt (flat2 us))]) := by
 intro w0 F0 H
 obtain ⟨A1, c2, rfl, hc3, hm4, hp5⟩ := H.fR 0 rfl
 refine enter (args := [.slice A1 us.length c2]) Tryz.func40 rfl rfl (Nat.le_of_ble_eq_true rfl) (c_seq (c_reg (s_1 rfl (s_nil (q_then ?_)))))
 replace H : Hd _ _ _ [] [rsl (kHd kPair) (.slice A1 us.length c2) us] := H
 refine c_seq (c_reg (s_1 rfl (s_nil (q_then (c_seq (c_seq (c_reg (s_1 rfl (s_nil (q_then (c_block ?_)))))))))))
 replace H := H.newnil kPair
 refine c_loop (σ := Nat × Value) (fun (k, q) => [(0, .slice A1 us.length c2), (2, .slice none 0 0), (3, q), (4, .int .i64 ((k : Nat) : Int))]) (fun (k, q) w => (Hd w0 F0 w [osl kPair q (flat2 (us.take k))] [rsl (kHd kPair) (.slice A1 us.length c2) us]) ∧ (k ≤ us.length)) (fun (k, q) => us.length - k) (0, .slice none 0 0) ⟨rfl, rfl, rfl, rfl, trivial⟩ ⟨H, by (try dsimp only); omega⟩ ?_
 rintro ⟨k, q⟩ w ⟨H, hk⟩
 have hfk := flat2_le us k
 refine c_seq (c_seq (c_reg (s_k 2 rfl (s_val rfl rfl (r_lenL rfl un31 rfl) (s_val rfl rfl (r_lt rfl rfl rfl) (s_nil (q_then ?_)))))))
 refine c_dec (p := ((k : Nat) : Int) < ((us.length : Nat) : Int)) rfl (fun h6 => ?_) (fun h6 => ?_)
 ·refine c_skip (q_then (c_seq (c_block (c_reg (s_k 3 rfl ?_)))))
  obtain ⟨⟨u9, x7⟩, hx8⟩ : ∃ z9, us[k]? = some z9 := ⟨_, List.getElem?_eq_getElem (show k < us.length by omega)⟩
  obtain ⟨A10, c11, rfl, hc12, hm13⟩ := H.nestR 0 rfl hx8
  have hfl := flat2_le us (k + 1)
  rw [flat2_step hx8, List.length_append] at hfl
  have th14 := H.thRd 0 rfl hx8
  refine s_val rfl rfl (r_iaE (p := oOf A1 + k * 1) rfl sl31 rfl rfl (by omega) (by omega) th14 rfl) (s_val rfl rfl (r_ld rfl ty23 rfl (H.elRd 0 rfl hx8 rfl)) (s_appF (xs := flat2 (us.take k)) (ys := x7) rfl rfl rfl sl23 zr56 rfl (by decide) rfl rfl H (by omega) (fun F hA hR => nest_rsl (hR _ (List.mem_of_getElem? (i := 0) rfl)) hx8) (fun v15 w H => (s_1 rfl (s_nil (q_blockN (q_then ?_)))))))
  replace H : Hd _ _ _ [osl kPair v15 ((flat2 (us.take k)) ++ x7)] [rsl (kHd kPair) (.slice A1 us.length c2) us] := H
  refine c_reg (s_1 rfl (s_val rfl rfl (r_add (z := ((k + 1 : Nat) : Int)) rfl rfl rfl (by rw [w64 (by omega) (by omega)]; omega)) (s_1 rfl (s_nil ?_))))
  replace H : Hd w0 F0 w [osl kPair v15 (flat2 (us.take (k + 1)))] [rsl (kHd kPair) (.slice A1 us.length c2) us] := by rw [flat2_step hx8]; exact H
  exact q_round (s := (k, undef)) (k + 1, v15) ⟨rfl, rfl, rfl, rfl, trivial⟩ ⟨H, by (try dsimp only); omega⟩ (by (try dsimp only); omega)
 ·refine c_exit (q_thenE (q_thenE (q_blockE (q_then (c_seq (c_reg (s_1 rfl (sc (rSort_ok q (flat2 (us.take k)) (by first | omega | decide | (simp only [List.length_append, List.length_cons, List.length_nil, srt_len]; omega))) H (lA 0 rfl own_rd l0) rfl rfl (e_fn kn65 rfl rfl) ?_))))))))
  rintro v16 _ w rfl H
  refine s_1 rfl (s_nil (q_then ?_))
  replace H : Hd _ _ _ [osl kPair v16 (srt (flat2 (us.take k))), osl kPair q (flat2 (us.take k))] [rsl (kHd kPair) (.slice A1 us.length c2) us] := H
  refine c_ret (q_ret1 rfl rfl ?_)
  replace H := H.k1
  replace H : Hd w0 F0 w [osl kPair v16 (srt (flat2 us))] [rsl (kHd kPair) (.slice A1 us.length c2) us] := by rw [List.take_of_length_le (show us.length ≤ k by omega)] at H; exact H
  exact fin rfl H
end Go.Proofs.YtlpgdkbokakniaaGreatDoor.X

set_option linter.unusedVariables false
set_option linter.unusedSimpArgs false
namespace Go.Proofs.YtlpgdkbokakniaaGreatDoor.X
open Go
set_option maxHeartbeats 4000000 in
theorem rRunR_ok (vp : Value) (p : List Ins) (key : ByteArray) (vv : Value) (vals : List ByteArray) (fuel : Int) (hpa : ∀ i ∈ p, In64 i.a) (hfu : In64 fuel) :
    Cn Tryz.prog 82 [vp, .string key, vv, .int .i64 fuel] [] [rsl kIns vp p, rsl kStr vv vals] (fun v Bs => ∃ u : Value, v = .tuple #[u, .int .i64 ((runM dg p key vals fuel).2)] ∧ Bs = [osl kPair u ((runM dg p key vals fuel).1)]) := by
 intro w0 F0 H
 obtain ⟨A1, c2, rfl, hc3, hm4, hp5⟩ := H.fR 0 rfl
 obtain ⟨A6, c7, rfl, hc8, hm9, hp10⟩ := H.fR 1 rfl
 refine enter (args := [.slice A1 p.length c2, .string key, .slice A6 vals.length c7, .int .i64 fuel]) Tryz.func82 rfl rfl (Nat.le_of_ble_eq_true rfl) (c_seq (c_reg (s_k 2 rfl (s_nil (q_then ?_)))))
 replace H : Hd _ _ _ [] [rsl kIns (.slice A1 p.length c2) p, rsl kStr (.slice A6 vals.length c7) vals] := H
 refine c_seq (c_reg (s_k 4 rfl (sc (rRun0_ok (.slice A1 p.length c2) p key (.slice A6 vals.length c7) vals fuel (by first | omega | decide | assumption) (by first | omega | decide | assumption)) H (lR 0 rfl (lR 1 rfl l0)) rfl rfl (e_fn kn91 rfl rfl) ?_)))
 rintro _ _ w ⟨u11, dn12, rfl, rfl⟩ H
 refine s_k 7 rfl (s_nil (q_then ?_))
 replace H := H.h1 (A := osl kPair u11 ((runM dg p key vals fuel).1))
 exact c_seq (c_reg (s_k 4 rfl (s_nil (q_then (c_ret (q_ret2 rfl rfl rfl (fin ⟨u11, rfl, rfl⟩ H)))))))
set_option maxHeartbeats 4000000 in
theorem rEach_ok (vp : Value) (p : List Ins) (vps : Value) (ps : List Pair) (fuel : Int) (own : Bool) (hpa : ∀ i ∈ p, In64 i.a) (hfu : In64 fuel) (hb : ps.length ≤ 1000000) :
    Cn Tryz.prog 64 [vp, vps, .int .i64 fuel, .bool own] [] [rsl kIns vp p, rsl kPair vps ps] (fun v Bs => ∃ u : Value, v = .tuple #[u, .int .i64 ((eachM dg p ps fuel own).2)] ∧ Bs = [osl kPair u ((eachM dg p ps fuel own).1)]) := by
 intro w0 F0 H
 obtain ⟨A1, c2, rfl, hc3, hm4, hp5⟩ := H.fR 0 rfl
 obtain ⟨A6, c7, rfl, hc8, hm9, hp10⟩ := H.fR 1 rfl
 refine enter (args := [.slice A1 p.length c2, .slice A6 ps.length c7, .int .i64 fuel, .bool own]) Tryz.func64 rfl rfl (Nat.le_of_ble_eq_true rfl) (c_seq (c_reg (s_k 2 rfl (s_nil (q_then ?_)))))
 replace H : Hd _ _ _ [] [rsl kIns (.slice A1 p.length c2) p, rsl kPair (.slice A6 ps.length c7) ps] := H
 refine c_seq (c_reg (s_1 rfl (s_nil (q_then (c_seq (c_reg (s_1 rfl (sc (rKeys_ok (.slice A6 ps.length c7) ps (by first | omega | decide | assumption)) H (lR 1 rfl l0) rfl rfl (e_fn kn81 rfl rfl) ?_))))))))
 rintro v11 _ w rfl H
 refine s_1 rfl (s_nil (q_then ?_))
 replace H := H.h1 (A := osl kStr v11 (refK [] (ps.map (·.key))))
 refine c_seq (c_seq (c_reg (s_1 rfl (s_nil (q_then (c_block ?_))))))
 replace H : Hd w0 F0 w [osl kStr v11 (keysL ps)] [rsl kIns (.slice A1 p.length c2) p, rsl kPair (.slice A6 ps.length c7) ps] := by rw [keys_ref]; exact H
 obtain ⟨A12, c13, rfl, hc14, hm15, hp16⟩ := H.fA 0 rfl
 replace H := H.newnil kPair
 refine c_loop (σ := Nat × Value × List Pair) (fun (i, q, out) => [(0, .slice A1 p.length c2), (1, .slice A6 ps.length c7), (2, .int .i64 fuel), (3, .bool own), (10, q), (11, .slice A12 ((keysL ps).length) c13), (12, .int .i64 ((i : Nat) : Int))]) (fun (i, q, out) w => (Hd w0 F0 w [osl kPair q out, osl kStr (.slice A12 ((keysL ps).length) c13) (keysL ps)] [rsl kIns (.slice A1 p.length c2) p, rsl kPair (.slice A6 ps.length c7) ps]) ∧ (i ≤ (keysL ps).length) ∧ (eachGo dg p ps fuel own ((keysL ps).drop i) out = eachM dg p ps fuel own) ∧ (out.length ≤ 40)) (fun (i, q, out) => (keysL ps).length - i) (0, .slice none 0 0, []) ⟨rfl, rfl, rfl, rfl, rfl, rfl, rfl, trivial⟩ ⟨H, Nat.zero_le _, rfl, Nat.zero_le _⟩ ?_
 rintro ⟨i, q, out⟩ w ⟨H, hi, hgo, ho⟩
 have hkl := keysL_len ps
 refine c_seq (c_seq (c_reg (s_k 2 rfl (s_val rfl rfl (r_lenL rfl un75 rfl) (s_val rfl rfl (r_lt rfl rfl rfl) (s_nil (q_then ?_)))))))
 refine c_dec (p := ((i : Nat) : Int) < (((keysL ps).length : Nat) : Int)) rfl (fun h17 => ?_) (fun h17 => ?_)
 ·refine c_skip (q_then (c_seq (c_block (c_seq ?_))))
  replace H : Hd _ _ _ [osl kPair q out, osl kStr (.slice A12 ((keysL ps).length) c13) (keysL ps)] [rsl kIns (.slice A1 p.length c2) p, rsl kPair (.slice A6 ps.length c7) ps] := H
  refine c_ord (.e 0 (.e 1 (.e 2 (.e 3 (.e 4 (.e 5 (.e 6 (.e 7 (.e 8 (.e 9 (.e 11 (.m 10 (.m 12 (.e 13 (.e 14 (.e 15 (.e 16 (.e 17 .z)))))))))))))))))) (fun w => ∃ Ar, Hd w0 F0 w (osl kPair q out :: osl kStr (.slice A12 ((keysL ps).length) c13) (keysL ps) :: Ar) [rsl kIns (.slice A1 p.length c2) p, rsl kPair (.slice A6 ps.length c7) ps]) mo (by kernel_rfl) (fun w H => ⟨_, H⟩) H (fun w H => (d_1 rfl (d_1 rfl (d_1 rfl ?_))))
  obtain ⟨x18, hx19⟩ : ∃ z9, (keysL ps)[i]? = some z9 := ⟨_, List.getElem?_eq_getElem (show i < (keysL ps).length by omega)⟩
  have th20 := H.thA 1 rfl hx19
  refine d_val rfl rfl rfl (fun w ⟨Ar, H⟩ => r_iaE (p := oOf A12 + i * 1) rfl sl75 rfl rfl (by omega) (by omega) th20 rfl) (d_val rfl rfl rfl (fun w ⟨Ar, H⟩ => r_ld rfl ty9 rfl (H.elA 1 rfl hx19 (q := 0) rfl rfl)) (d_1 rfl (d_1 rfl (d_1 rfl ?_))))
  have th21 := H.thA 1 rfl hx19
  refine d_val rfl rfl rfl (fun w ⟨Ar, H⟩ => r_iaE (p := oOf A12 + i * 1) rfl sl75 rfl rfl (by omega) (by omega) th21 rfl) (d_val rfl rfl rfl (fun w ⟨Ar, H⟩ => r_ld rfl ty9 rfl (H.elA 1 rfl hx19 (q := 0) rfl rfl)) (d_1 rfl (d_main rfl (sc (rOf_ok (.slice A6 ps.length c7) ps x18 (by first | omega | decide | assumption)) H (lR 1 rfl l0) rfl rfl (e_fn kn83 rfl rfl) ?_))))
  rintro v22 _ w rfl H
  replace H := H.p2
  replace H := H.p2
  replace H : Hd _ _ _ [osl kPair q out, osl kStr (.slice A12 ((keysL ps).length) c13) (keysL ps), osl kStr v22 (ofL ps x18)] [rsl kIns (.slice A1 p.length c2) p, rsl kPair (.slice A6 ps.length c7) ps] := H
  refine d_back ⟨_, H⟩ (d_main rfl (sc (rRunR_ok (.slice A1 p.length c2) p x18 v22 (ofL ps x18) fuel (by first | exact hpa | exact in64_first | assumption) (by first | assumption | (unfold In64; omega))) H (lR 0 rfl (lA 2 rfl own_rd l0)) rfl rfl (e_fn kn82 rfl rfl) ?_))
  rintro _ _ w ⟨u23, rfl, rfl⟩ H
  replace H := H.p2
  replace H := H.p2
  replace H := H.h4 (A := osl kPair q out) (B := osl kStr (.slice A12 ((keysL ps).length) c13) (keysL ps)) (C := osl kPair u23 ((runM dg p x18 (ofL ps x18) fuel).1)) (D := osl kStr v22 (ofL ps x18))
  refine d_back ⟨_, H⟩ (d_1 rfl (d_1 rfl (d_1 rfl (d_1 rfl (d_1 rfl (d_nil (q_then (c_seq (c_seq (c_reg (s_1 rfl (s_val rfl rfl (r_ne rfl rfl rfl) (s_nil (q_then ?_))))))))))))))
  refine c_dec (p := ((runM dg p x18 (ofL ps x18) fuel).2) ≠ 0) rfl (fun h24 => ?_) (fun h24 => ?_)
  ·refine c_seq (c_reg (s_k 3 rfl (s_nil (q_then (c_ret (q_thenR (q_blockR (q_thenR (q_thenR (q_blockR (q_thenR (q_ret2 rfl rfl rfl ?_))))))))))))
   have e : eachM dg p ps fuel own = ([], (runM dg p x18 (ofL ps x18) fuel).2) := hgo.symm.trans (go_why hx19 h24)
   replace H := H.newnil kPair
   replace H := H.k1
   replace H : Hd _ _ _ [osl kPair (.slice none 0 0) []] [rsl kIns (.slice A1 p.length c2) p, rsl kPair (.slice A6 ps.length c7) ps] := H
   exact fin ⟨(.slice none 0 0), by rw [e] <;> rfl, by rw [e] <;> rfl⟩ H
  ·refine c_skip (q_then (c_seq (c_seq (c_reg (s_1 rfl (s_nil (q_then (c_block ?_))))))))
   obtain ⟨A25, c26, rfl, hc27, hm28, hp29⟩ := H.fA 2 rfl
   have hrt := run_told dg p x18 (ofL ps x18) fuel
   replace H := H.k3
   refine c_loop (σ := Nat) (fun k => [(0, .slice A1 p.length c2), (1, .slice A6 ps.length c7), (2, .int .i64 fuel), (3, .bool own), (10, q), (11, .slice A12 ((keysL ps).length) c13), (12, .int .i64 ((i : Nat) : Int)), (13, .slice A25 (((runM dg p x18 (ofL ps x18) fuel).1).length) c26), (15, .int .i64 ((k : Nat) : Int))]) (fun k w => (Hd w0 F0 w [osl kPair q out, osl kStr (.slice A12 ((keysL ps).length) c13) (keysL ps), osl kPair (.slice A25 (((runM dg p x18 (ofL ps x18) fuel).1).length) c26) ((runM dg p x18 (ofL ps x18) fuel).1)] [rsl kIns (.slice A1 p.length c2) p, rsl kPair (.slice A6 ps.length c7) ps]) ∧ (k ≤ ((runM dg p x18 (ofL ps x18) fuel).1).length) ∧ (∀ y ∈ ((runM dg p x18 (ofL ps x18) fuel).1).take k, y.key = x18)) (fun k => ((runM dg p x18 (ofL ps x18) fuel).1).length - k) 0 ⟨rfl, rfl, rfl, rfl, rfl, rfl, rfl, rfl, rfl, trivial⟩ ⟨H, Nat.zero_le _, by (try dsimp only); simp⟩ ?_
   rintro k w ⟨H, hk, hn⟩
   refine c_seq (c_seq (c_reg (s_k 2 rfl (s_val rfl rfl (r_lenL rfl un23 rfl) (s_val rfl rfl (r_lt rfl rfl rfl) (s_1 rfl ?_))))))
   refine s_dec (d := 47) (p := ((k : Nat) : Int) < ((((runM dg p x18 (ofL ps x18) fuel).1).length : Nat) : Int)) rfl (fun h30 => ?_) (fun h30 => ?_)
   ·refine s_k 2 rfl (s_nil (q_then ?_))
    refine c_cond (b := own) rfl (fun h31 => ?_) (fun h31 => ?_)
    ·refine c_skip (q_then (c_seq (c_block (c_seq (c_draw mo (by kernel_rfl) H (u_k 2 rfl ?_))))))
     obtain ⟨x32, hx33⟩ : ∃ z9, ((runM dg p x18 (ofL ps x18) fuel).1)[k]? = some z9 := ⟨_, List.getElem?_eq_getElem (show k < ((runM dg p x18 (ofL ps x18) fuel).1).length by omega)⟩
     have th34 := H.thA 2 rfl hx33
     refine u_val rfl rfl (fun w H => r_iaE (p := oOf A25 + k * 2) rfl sl23 rfl rfl (by omega) (by omega) th34 rfl) (u_val rfl rfl (fun w H => r_fa rfl fo56_0 rfl) (u_val rfl rfl (fun w H => r_ld rfl ty9 rfl (H.elA 2 rfl hx33 (q := 0) rfl rfl)) (u_k 2 rfl ?_)))
     have th35 := H.thA 1 rfl hx19
     refine u_val rfl rfl (fun w H => r_iaE (p := oOf A12 + i * 1) rfl sl75 rfl rfl (by omega) (by omega) th35 rfl) (u_val rfl rfl (fun w H => r_ld rfl ty9 rfl (H.elA 1 rfl hx19 (q := 0) rfl rfl)) (u_val rfl rfl (fun w H => r_neS rfl rfl rfl) (u_end (fun w H => (q_then ?_)))))
     refine c_dec (p := x32.key ≠ x18) rfl (fun h36 => ?_) (fun h36 => ?_)
     ·refine c_seq (c_reg (s_k 2 rfl (s_nil (q_then (c_ret (q_blockR (q_thenR (q_thenR (q_blockR (q_thenR (q_blockR (q_thenR (q_thenR (q_blockR (q_thenR (q_ret2 rfl rfl rfl ?_))))))))))))))))
      have e : eachM dg p ps fuel own = ([], 6) := hgo.symm.trans (go_key hx19 h24 h31 (key_one hx33 h36))
      replace H := H.newnil kPair
      replace H := H.k1
      replace H : Hd _ _ _ [osl kPair (.slice none 0 0) []] [rsl kIns (.slice A1 p.length c2) p, rsl kPair (.slice A6 ps.length c7) ps] := H
      exact fin ⟨(.slice none 0 0), by rw [e] <;> rfl, by rw [e] <;> rfl⟩ H
     ·exact c_skip (q_blockN (q_then (c_reg (s_1 rfl (s_val rfl rfl (r_add (z := ((k + 1 : Nat) : Int)) rfl rfl rfl (by rw [w64 (by omega) (by omega)]; omega)) (s_1 rfl (s_nil (q_round (s := k) (k + 1) ⟨rfl, rfl, rfl, rfl, rfl, rfl, rfl, rfl, rfl, trivial⟩ ⟨H, by (try dsimp only); omega, take_prop hn hx33 (Classical.not_not.1 h36)⟩ (by (try dsimp only); omega)))))))))
    ·refine c_exit (q_thenE (q_thenE (q_blockE (q_then (c_seq (c_seq ?_))))))
     have hkn : ¬ (own = true ∧ otherKey x18 (runM dg p x18 (ofL ps x18) fuel).1 = true) := fun h => by rw [h.1] at h31; cases h31
     refine c_reg (s_1 rfl ?_)
     obtain ⟨A37, c38, rfl, hc39, hm40, hp41⟩ := H.fA 0 rfl
     refine s_val rfl rfl (r_lenL rfl un23 rfl) (s_1 rfl (s_val rfl rfl (r_lenL rfl un23 rfl) (s_val rfl rfl (r_add (z := ((out.length + ((runM dg p x18 (ofL ps x18) fuel).1).length : Nat) : Int)) rfl rfl rfl (by rw [w64 (by omega) (by omega)]; omega)) (s_val rfl rfl (r_gt rfl rfl rfl) (s_nil (q_then ?_))))))
     replace H := H.h3 (A := osl kPair (.slice A37 out.length c38) out) (B := osl kStr (.slice A12 ((keysL ps).length) c13) (keysL ps)) (C := osl kPair (.slice A25 (((runM dg p x18 (ofL ps x18) fuel).1).length) c26) ((runM dg p x18 (ofL ps x18) fuel).1))
     refine c_dec (p := (40 : Int) < ((out.length + ((runM dg p x18 (ofL ps x18) fuel).1).length : Nat) : Int)) rfl (fun h42 => ?_) (fun h42 => ?_)
     ·refine c_seq (c_reg (s_k 2 rfl (s_nil (q_then (c_ret (q_thenR (q_blockR (q_thenR (q_thenR (q_blockR (q_thenR (q_ret2 rfl rfl rfl ?_))))))))))))
      have e : eachM dg p ps fuel own = ([], 5) := hgo.symm.trans (go_many hx19 h24 hkn (by omega))
      replace H := H.newnil kPair
      replace H := H.k1
      replace H : Hd _ _ _ [osl kPair (.slice none 0 0) []] [rsl kIns (.slice A1 p.length c2) p, rsl kPair (.slice A6 ps.length c7) ps] := H
      exact fin ⟨(.slice none 0 0), by rw [e] <;> rfl, by rw [e] <;> rfl⟩ H
     ·refine c_skip (q_then (c_reg (s_k 2 rfl (s_appF (xs := out) (ys := (runM dg p x18 (ofL ps x18) fuel).1) rfl rfl rfl sl23 zr56 rfl (by decide) rfl rfl H (by omega) (fun F hA hR => own_rd F (hA _ (List.mem_of_getElem? (i := 1) rfl))) (fun v43 w H => (s_1 rfl (s_nil (q_blockN (q_then ?_)))))))))
      replace H := H.h1 (A := osl kPair v43 (out ++ ((runM dg p x18 (ofL ps x18) fuel).1)))
      refine c_reg (s_1 rfl (s_val rfl rfl (r_add (z := ((i + 1 : Nat) : Int)) rfl rfl rfl (by rw [w64 (by omega) (by omega)]; omega)) (s_1 rfl (s_nil ?_))))
      replace H := H.k2
      have hg2 := (go_on (out := out) hx19 h24 hkn (by omega)).trans hgo
      have ho2 : (out ++ (runM dg p x18 (ofL ps x18) fuel).1).length ≤ 40 := by rw [List.length_append]; omega
      exact q_round (s := (i, undef, out)) (i + 1, v43, out ++ (runM dg p x18 (ofL ps x18) fuel).1) ⟨rfl, rfl, rfl, rfl, rfl, rfl, rfl, trivial⟩ ⟨H, by (try dsimp only); omega, hg2, ho2⟩ (by (try dsimp only); omega)
   ·refine s_k 2 rfl (s_nil (q_then (c_no rfl (c_exit (q_thenE (q_thenE (q_blockE (q_then (c_seq (c_seq ?_))))))))))
    have hkn : ¬ (own = true ∧ otherKey x18 (runM dg p x18 (ofL ps x18) fuel).1 = true) := fun h => key_all (by rw [List.take_of_length_le (by omega)] at hn; exact hn) h.2
    refine c_reg (s_1 rfl ?_)
    obtain ⟨A44, c45, rfl, hc46, hm47, hp48⟩ := H.fA 0 rfl
    refine s_val rfl rfl (r_lenL rfl un23 rfl) (s_1 rfl (s_val rfl rfl (r_lenL rfl un23 rfl) (s_val rfl rfl (r_add (z := ((out.length + ((runM dg p x18 (ofL ps x18) fuel).1).length : Nat) : Int)) rfl rfl rfl (by rw [w64 (by omega) (by omega)]; omega)) (s_val rfl rfl (r_gt rfl rfl rfl) (s_nil (q_then ?_))))))
    replace H := H.h3 (A := osl kPair (.slice A44 out.length c45) out) (B := osl kStr (.slice A12 ((keysL ps).length) c13) (keysL ps)) (C := osl kPair (.slice A25 (((runM dg p x18 (ofL ps x18) fuel).1).length) c26) ((runM dg p x18 (ofL ps x18) fuel).1))
    refine c_dec (p := (40 : Int) < ((out.length + ((runM dg p x18 (ofL ps x18) fuel).1).length : Nat) : Int)) rfl (fun h49 => ?_) (fun h49 => ?_)
    ·refine c_seq (c_reg (s_k 2 rfl (s_nil (q_then (c_ret (q_thenR (q_blockR (q_thenR (q_thenR (q_blockR (q_thenR (q_ret2 rfl rfl rfl ?_))))))))))))
     have e : eachM dg p ps fuel own = ([], 5) := hgo.symm.trans (go_many hx19 h24 hkn (by omega))
     replace H := H.newnil kPair
     replace H := H.k1
     replace H : Hd _ _ _ [osl kPair (.slice none 0 0) []] [rsl kIns (.slice A1 p.length c2) p, rsl kPair (.slice A6 ps.length c7) ps] := H
     exact fin ⟨(.slice none 0 0), by rw [e] <;> rfl, by rw [e] <;> rfl⟩ H
    ·refine c_skip (q_then (c_reg (s_k 2 rfl (s_appF (xs := out) (ys := (runM dg p x18 (ofL ps x18) fuel).1) rfl rfl rfl sl23 zr56 rfl (by decide) rfl rfl H (by omega) (fun F hA hR => own_rd F (hA _ (List.mem_of_getElem? (i := 1) rfl))) (fun v50 w H => (s_1 rfl (s_nil (q_blockN (q_then ?_)))))))))
     replace H := H.h1 (A := osl kPair v50 (out ++ ((runM dg p x18 (ofL ps x18) fuel).1)))
     refine c_reg (s_1 rfl (s_val rfl rfl (r_add (z := ((i + 1 : Nat) : Int)) rfl rfl rfl (by rw [w64 (by omega) (by omega)]; omega)) (s_1 rfl (s_nil ?_))))
     replace H := H.k2
     have hg2 := (go_on (out := out) hx19 h24 hkn (by omega)).trans hgo
     have ho2 : (out ++ (runM dg p x18 (ofL ps x18) fuel).1).length ≤ 40 := by rw [List.length_append]; omega
     exact q_round (s := (i, undef, out)) (i + 1, v50, out ++ (runM dg p x18 (ofL ps x18) fuel).1) ⟨rfl, rfl, rfl, rfl, rfl, rfl, rfl, trivial⟩ ⟨H, by (try dsimp only); omega, hg2, ho2⟩ (by (try dsimp only); omega)
 ·refine c_exit (q_thenE (q_thenE (q_blockE (q_then (c_seq (c_reg (s_k 3 rfl (s_nil (q_then (c_ret (q_ret2 rfl rfl rfl ?_)))))))))))
  have e : eachM dg p ps fuel own = (out, 0) := hgo.symm.trans (go_end (by omega))
  replace H := H.k1
  replace H : Hd _ _ _ [osl kPair q out] [rsl kIns (.slice A1 p.length c2) p, rsl kPair (.slice A6 ps.length c7) ps] := H
  exact fin ⟨q, by rw [e] <;> rfl, by rw [e] <;> rfl⟩ H
set_option maxHeartbeats 4000000 in
theorem rEach2_ok (vp : Value) (p : List Ins) (vps : Value) (ps : List Pair) (fuel : Int) (hpa : ∀ i ∈ p, In64 i.a) (hfu : In64 fuel) (hb : ps.length ≤ 1000000) :
    Cn Tryz.prog 39 [vp, vps, .int .i64 fuel] [] [rsl kIns vp p, rsl kPair vps ps] (fun v Bs => ∃ u : Value, v = .tuple #[u, .int .i64 ((eachM dg p ps fuel false).2)] ∧ Bs = [osl kPair u ((eachM dg p ps fuel false).1)]) := by
 intro w0 F0 H
 obtain ⟨A1, c2, rfl, hc3, hm4, hp5⟩ := H.fR 0 rfl
 obtain ⟨A6, c7, rfl, hc8, hm9, hp10⟩ := H.fR 1 rfl
 refine enter (args := [.slice A1 p.length c2, .slice A6 ps.length c7, .int .i64 fuel]) Tryz.func39 rfl rfl (Nat.le_of_ble_eq_true rfl) (c_seq (c_reg (s_k 2 rfl (s_nil (q_then ?_)))))
 replace H : Hd _ _ _ [] [rsl kIns (.slice A1 p.length c2) p, rsl kPair (.slice A6 ps.length c7) ps] := H
 refine c_seq (c_reg (s_k 3 rfl (sc (rEach_ok (.slice A1 p.length c2) p (.slice A6 ps.length c7) ps fuel false (by first | exact hpa | exact in64_first | assumption) (by first | assumption | (unfold In64; omega)) (by first | omega | (simp only [srt_len]; omega))) H (lR 0 rfl (lR 1 rfl l0)) rfl rfl (e_fn kn64 rfl rfl) ?_)))
 rintro _ _ w ⟨u11, rfl, rfl⟩ H
 refine s_k 4 rfl (s_nil (q_then ?_))
 replace H := H.h1 (A := osl kPair u11 ((eachM dg p ps fuel false).1))
 exact c_ret (q_ret2 rfl rfl rfl (fin ⟨u11, rfl, rfl⟩ H))
set_option maxHeartbeats 4000000 in
theorem rSnapOf_ok (vp : Value) (p : List Ins) (fuel : Int) (vus : Value) (us : List (Value × List Pair)) (hpa : ∀ i ∈ p, In64 i.a) (hfu : In64 fuel) (hb : (flat2 us).length ≤ 1000000) :
    Cn Tryz.prog 17 [vp, .int .i64 fuel, vus] [] [rsl kIns vp p, rsl (kHd kPair) vus us] (fun v Bs => ∃ u : Value, v = .tuple #[u, .int .i64 ((eachM dg p (srt (flat2 us)) fuel false).2)] ∧ Bs = [osl kPair u ((eachM dg p (srt (flat2 us)) fuel false).1)]) := by
 intro w0 F0 H
 obtain ⟨A1, c2, rfl, hc3, hm4, hp5⟩ := H.fR 0 rfl
 obtain ⟨A6, c7, rfl, hc8, hm9, hp10⟩ := H.fR 1 rfl
 refine enter (args := [.slice A1 p.length c2, .int .i64 fuel, .slice A6 us.length c7]) Tryz.func17 rfl rfl (Nat.le_of_ble_eq_true rfl) (c_seq (c_reg (s_k 2 rfl (s_nil (q_then ?_)))))
 replace H : Hd _ _ _ [] [rsl kIns (.slice A1 p.length c2) p, rsl (kHd kPair) (.slice A6 us.length c7) us] := H
 refine c_seq (c_reg (s_k 2 rfl (sc (rRuns_ok (.slice A6 us.length c7) us (by first | omega | decide | exact Nat.le_trans (flat2_le _ _) (by omega) | exact Nat.le_trans (flat2_le' _ _) (by omega) | (simp only [flat2, List.flatMap_cons, List.flatMap_nil, List.append_nil, srt_len]; omega))) H (lR 1 rfl l0) rfl rfl (e_fn kn40 rfl rfl) ?_)))
 rintro v11 _ w rfl H
 refine s_1 rfl ?_
 replace H := H.h1 (A := osl kPair v11 (srt (flat2 us)))
 refine sc (rEach2_ok (.slice A1 p.length c2) p v11 (srt (flat2 us)) fuel (by first | exact hpa | exact in64_first | assumption) (by first | assumption | (unfold In64; omega)) (by first | omega | (simp only [srt_len]; omega))) H (lR 0 rfl (lA 0 rfl own_rd l0)) rfl rfl (e_fn kn39 rfl rfl) ?_
 rintro _ _ w ⟨u12, rfl, rfl⟩ H
 refine s_k 4 rfl (s_nil (q_then ?_))
 replace H := H.h1 (A := osl kPair u12 ((eachM dg p (srt (flat2 us)) fuel false).1))
 refine c_ret (q_ret2 rfl rfl rfl ?_)
 replace H := H.k1
 exact fin ⟨u12, rfl, rfl⟩ H
set_option maxHeartbeats 4000000 in
theorem snapOf_ok (vp : Value) (p : List Ins) (fuel : Int) (vus : Value) (us : List (Value × List Pair)) (hpa : ∀ i ∈ p, In64 i.a) (hfu : In64 fuel) (hb : (flat2 us).length ≤ 1000000) :
    Cn Tryz.prog 16 [vp, .int .i64 fuel, vus] [] [rsl kIns vp p, rsl (kHd kPair) vus us, gl] (fun v Bs => ∃ u : Value, v = .tuple #[u, .int .i64 ((eachM dg p (srt (flat2 us)) fuel false).2)] ∧ Bs = [osl kPair u ((eachM dg p (srt (flat2 us)) fuel false).1)]) := by
 intro w0 F0 H
 obtain ⟨A1, c2, rfl, hc3, hm4, hp5⟩ := H.fR 0 rfl
 obtain ⟨A6, c7, rfl, hc8, hm9, hp10⟩ := H.fR 1 rfl
 refine enter (args := [.slice A1 p.length c2, .int .i64 fuel, .slice A6 us.length c7]) Tryz.func16 rfl rfl (Nat.le_of_ble_eq_true rfl) (c_seq (c_reg (s_k 2 rfl (s_nil (q_then ?_)))))
 replace H : Hd _ _ _ [] [rsl kIns (.slice A1 p.length c2) p, rsl (kHd kPair) (.slice A6 us.length c7) us, gl] := H
 refine c_seq (c_reg (s_k 2 rfl (sc (runs_ok (.slice A6 us.length c7) us (by first | omega | decide | exact Nat.le_trans (flat2_le _ _) (by omega) | exact Nat.le_trans (flat2_le' _ _) (by omega) | (simp only [flat2, List.flatMap_cons, List.flatMap_nil, List.append_nil, srt_len]; omega))) H (lR 1 rfl l0) rfl rfl (e_fn kn18 rfl rfl) ?_)))
 rintro v11 _ w rfl H
 refine s_1 rfl ?_
 replace H := H.h1 (A := osl kPair v11 (srt (flat2 us)))
 refine sc (foldEach_ok (.slice A1 p.length c2) p v11 (srt (flat2 us)) fuel (by first | exact hpa | exact in64_first | assumption) (by first | assumption | (unfold In64; omega)) (by first | omega | (simp only [srt_len]; omega))) H (lR 0 rfl (lA 0 rfl own_rd (lR 2 rfl l0))) rfl rfl (e_fn kn10 rfl rfl) ?_
 rintro _ _ w ⟨u12, rfl, rfl⟩ H
 refine s_k 4 rfl (s_nil (q_then ?_))
 replace H := H.h1 (A := osl kPair u12 ((eachM dg p (srt (flat2 us)) fuel false).1))
 refine c_ret (q_ret2 rfl rfl rfl ?_)
 replace H := H.k1
 exact fin ⟨u12, rfl, rfl⟩ H
end Go.Proofs.YtlpgdkbokakniaaGreatDoor.X

set_option linter.unusedVariables false
set_option linter.unusedSimpArgs false
namespace Go.Proofs.YtlpgdkbokakniaaGreatDoor.X
open Go

set_option maxHeartbeats 1000000 in
theorem indexI_ok (v : Value) (xs : List Int) (x : Int) :
    Cn Tryz.prog 76 [v, .int .i64 x] [] [rsl (kInt .i64) v xs] (fun v Bs => v = .int .i64 (fidx (fun y => decide (x = y)) xs) ∧ Bs = []) := by
 intro w0 F0 H
 obtain ⟨A1, c2, rfl, hc3, hm4, hp5⟩ := H.fR 0 rfl
 refine enter (args := [.slice A1 xs.length c2, .int .i64 x]) Tryz.func76 rfl rfl (Nat.le_of_ble_eq_true rfl) (c_seq (c_reg (s_1 rfl (s_nil (q_then ?_)))))
 replace H : Hd _ _ _ [] [rsl (kInt .i64) (.slice A1 xs.length c2) xs] := H
 refine c_seq (c_seq (c_reg (s_1 rfl (s_val rfl rfl (r_lenL rfl un41 rfl) (s_1 rfl (s_nil (q_then (c_block (c_loop (σ := Nat) (fun k => [(0, .slice A1 xs.length c2), (1, .int .i64 x), (7, .int .i64 ((xs.length : Nat) : Int)), (8, .int .i64 ((k : Nat) : Int))]) (fun k w => (Hd w0 F0 w [] [rsl (kInt .i64) (.slice A1 xs.length c2) xs]) ∧ (k ≤ xs.length) ∧ (∀ y ∈ xs.take k, (fun y => decide (x = y)) y = false)) (fun k => xs.length - k) 0 ⟨rfl, rfl, rfl, rfl, trivial⟩ ⟨H, by omega, by simp⟩ ?_)))))))))
 rintro k w ⟨H, hk, hn⟩
 refine c_seq (c_reg (s_val rfl rfl (r_lt rfl rfl rfl) (s_nil (q_then (c_seq ?_)))))
 refine c_dec (p := ((k : Nat) : Int) < ((xs.length : Nat) : Int)) rfl (fun h6 => ?_) (fun h6 => ?_)
 ·refine c_skip (q_then (c_seq (c_block (c_seq (c_reg (s_k 2 rfl (s_nil (q_then (c_seq (c_reg (s_k 3 rfl ?_)))))))))))
  obtain ⟨x7, hx8⟩ : ∃ z9, xs[k]? = some z9 := ⟨_, List.getElem?_eq_getElem (show k < xs.length by omega)⟩
  have th9 := H.thR 0 rfl hx8
  refine s_val rfl rfl (r_iaE (p := oOf A1 + k * 1) rfl sl41 rfl rfl (by omega) (by omega) th9 rfl) (s_val rfl rfl (r_ld rfl ty3 rfl (H.elR 0 rfl hx8 (q := 0) rfl rfl)) (s_val rfl rfl (r_eq rfl rfl rfl) (s_nil (q_then ?_))))
  refine c_dec (p := x = x7) rfl (fun h10 => ?_) (fun h10 => ?_)
  ·exact c_seq (c_reg (s_k 2 rfl (s_nil (q_then (c_ret (q_blockR (q_thenR (q_thenR (q_blockR (q_thenR (q_ret1 rfl rfl (fin ⟨by rw [fidx_hit (p := (fun y => decide (x = y))) hn hx8 (decide_eq_true h10)], rfl⟩ H))))))))))))
  ·exact c_skip (q_blockN (q_then (c_reg (s_val rfl rfl (r_add (z := ((k + 1 : Nat) : Int)) rfl rfl rfl (by rw [w64 (by omega) (by omega)]; omega)) (s_1 rfl (s_nil (q_round (s := k) (k + 1) ⟨rfl, rfl, rfl, rfl, trivial⟩ ⟨H, by omega, take_false (p := (fun y => decide (x = y))) hn hx8 (decide_eq_false h10)⟩ (by (try dsimp only); omega))))))))
 ·refine c_exit (q_thenE (q_thenE (q_blockE (q_then (c_seq (c_reg (s_1 rfl (s_nil (q_then (c_ret (q_ret1 rfl rfl ?_)))))))))))
  have hn2 : ∀ y ∈ xs, (fun y => decide (x = y)) y = false := by rw [← take_all (xs := xs) (k := k) (by omega)]; exact hn
  exact fin ⟨by rw [fidx_miss hn2], rfl⟩ H
set_option maxHeartbeats 1000000 in
theorem containsI_ok (v : Value) (xs : List Int) (x : Int) :
    Cn Tryz.prog 59 [v, .int .i64 x] [] [rsl (kInt .i64) v xs] (fun v Bs => v = .bool (decide (x ∈ xs)) ∧ Bs = []) := by
 intro w0 F0 H
 refine enter (args := [v, .int .i64 x]) Tryz.func59 rfl rfl (Nat.le_of_ble_eq_true rfl) (c_seq (c_reg (s_1 rfl (s_nil (q_then (c_seq (c_reg (s_k 2 rfl (sc (indexI_ok v xs x) H (lR 0 rfl l0) rfl rfl (e_fn kn76 rfl rfl) ?_)))))))))
 rintro _ _ w ⟨rfl, rfl⟩ H
 refine s_val rfl rfl (r_ge rfl rfl rfl) (s_1 rfl (s_nil (q_then (c_ret (q_ret1 rfl rfl ?_)))))
 have e : decide (0 ≤ fidx (fun y => decide (x = y)) xs) = decide (x ∈ xs) := by rw [fidx_nonneg]; rw [Bool.eq_iff_iff]; simp
 exact fin ⟨congrArg Value.bool e, rfl⟩ H
set_option maxHeartbeats 1000000 in
theorem indexFI_ok (f : FuncId) (cap : List Value) (Ex : List SP) (p : Int → Bool) (hkf : Known Tryz.prog f) (hp : ∀ x, Cn Tryz.prog f ([.int .i64 x] ++ cap) [] Ex (fun v Bs => v = .bool (p x) ∧ Bs = [])) (v : Value) (xs : List Int) :
    Cn Tryz.prog 77 [v, .func (.func f) #[] (cap).toArray] [] (rsl (kInt .i64) v xs :: Ex) (fun v Bs => v = .int .i64 (fidx p xs) ∧ Bs = []) := by
 intro w0 F0 H
 obtain ⟨A1, c2, rfl, hc3, hm4, hp5⟩ := H.fR 0 rfl
 refine enter (args := [.slice A1 xs.length c2, .func (.func f) #[] (cap).toArray]) Tryz.func77 rfl rfl (Nat.le_of_ble_eq_true rfl) (c_seq (c_reg (s_1 rfl (s_nil (q_then ?_)))))
 replace H : Hd _ _ _ [] (rsl (kInt .i64) (.slice A1 xs.length c2) xs :: Ex) := H
 refine c_seq (c_seq (c_reg (s_1 rfl (s_val rfl rfl (r_lenL rfl un41 rfl) (s_1 rfl (s_nil (q_then (c_block (c_loop (σ := Nat) (fun k => [(0, .slice A1 xs.length c2), (1, .func (.func f) #[] (cap).toArray), (7, .int .i64 ((xs.length : Nat) : Int)), (8, .int .i64 ((k : Nat) : Int))]) (fun k w => (Hd w0 F0 w [] (rsl (kInt .i64) (.slice A1 xs.length c2) xs :: Ex)) ∧ (k ≤ xs.length) ∧ (∀ y ∈ xs.take k, p y = false)) (fun k => xs.length - k) 0 ⟨rfl, rfl, rfl, rfl, trivial⟩ ⟨H, by omega, by simp⟩ ?_)))))))))
 rintro k w ⟨H, hk, hn⟩
 refine c_seq (c_reg (s_val rfl rfl (r_lt rfl rfl rfl) (s_nil (q_then (c_seq ?_)))))
 refine c_dec (p := ((k : Nat) : Int) < ((xs.length : Nat) : Int)) rfl (fun h6 => ?_) (fun h6 => ?_)
 ·refine c_skip (q_then (c_seq (c_block (c_seq (c_reg (s_k 2 rfl (s_nil (q_then (c_seq (c_reg (s_k 3 rfl ?_)))))))))))
  obtain ⟨x7, hx8⟩ : ∃ z9, xs[k]? = some z9 := ⟨_, List.getElem?_eq_getElem (show k < xs.length by omega)⟩
  have th9 := H.thR 0 rfl hx8
  refine s_val rfl rfl (r_iaE (p := oOf A1 + k * 1) rfl sl41 rfl rfl (by omega) (by omega) th9 rfl) (s_val rfl rfl (r_ld rfl ty3 rfl (H.elR 0 rfl hx8 (q := 0) rfl rfl)) (sc (hp x7) H (fun S hS F hA hR => hR S (List.mem_cons_of_mem _ hS)) rfl rfl (e_val (vs := [.int .i64 x7]) (fs := #[]) (cs := cap.toArray) hkf rfl rfl rfl) ?_))
  rintro _ _ w ⟨rfl, rfl⟩ H
  refine s_nil (q_then ?_)
  refine c_cond (b := p x7) rfl (fun h10 => ?_) (fun h10 => ?_)
  ·exact c_seq (c_reg (s_k 2 rfl (s_nil (q_then (c_ret (q_blockR (q_thenR (q_thenR (q_blockR (q_thenR (q_ret1 rfl rfl (fin ⟨by rw [fidx_hit hn hx8 h10], rfl⟩ H))))))))))))
  ·exact c_skip (q_blockN (q_then (c_reg (s_val rfl rfl (r_add (z := ((k + 1 : Nat) : Int)) rfl rfl rfl (by rw [w64 (by omega) (by omega)]; omega)) (s_1 rfl (s_nil (q_round (s := k) (k + 1) ⟨rfl, rfl, rfl, rfl, trivial⟩ ⟨H, by omega, take_false hn hx8 h10⟩ (by (try dsimp only); omega))))))))
 ·refine c_exit (q_thenE (q_thenE (q_blockE (q_then (c_seq (c_reg (s_1 rfl (s_nil (q_then (c_ret (q_ret1 rfl rfl ?_)))))))))))
  have hn2 : ∀ y ∈ xs, p y = false := by rw [← take_all (xs := xs) (k := k) (by omega)]; exact hn
  exact fin ⟨by rw [fidx_miss hn2], rfl⟩ H
set_option maxHeartbeats 1000000 in
theorem containsFI_ok (f : FuncId) (cap : List Value) (Ex : List SP) (p : Int → Bool) (hkf : Known Tryz.prog f) (hp : ∀ x, Cn Tryz.prog f ([.int .i64 x] ++ cap) [] Ex (fun v Bs => v = .bool (p x) ∧ Bs = [])) (v : Value) (xs : List Int) :
    Cn Tryz.prog 60 [v, .func (.func f) #[] (cap).toArray] [] (rsl (kInt .i64) v xs :: Ex) (fun v Bs => v = .bool (xs.any p) ∧ Bs = []) := by
 intro w0 F0 H
 refine enter (args := [v, .func (.func f) #[] (cap).toArray]) Tryz.func60 rfl rfl (Nat.le_of_ble_eq_true rfl) (c_seq (c_reg (s_1 rfl (s_nil (q_then (c_seq (c_reg (s_k 2 rfl (sc (indexFI_ok f cap Ex p hkf hp v xs) H lAll rfl rfl (e_fn kn77 rfl rfl) ?_)))))))))
 rintro _ _ w ⟨rfl, rfl⟩ H
 exact s_val rfl rfl (r_ge rfl rfl rfl) (s_1 rfl (s_nil (q_then (c_ret (q_ret1 rfl rfl (fin ⟨congrArg Value.bool (fidx_nonneg p xs), rfl⟩ H))))))
set_option maxHeartbeats 1000000 in
theorem due_ok (vmarks : Value) (marks : List Int) (n : Int) :
    Cn Tryz.prog 33 [vmarks, .int .i64 n] [] [rsl (kInt .i64) vmarks marks] (fun v Bs => v = .bool (decide (n ∈ marks)) ∧ Bs = []) := by
 intro w0 F0 H
 obtain ⟨A1, c2, rfl, hc3, hm4, hp5⟩ := H.fR 0 rfl
 refine enter (args := [.slice A1 marks.length c2, .int .i64 n]) Tryz.func33 rfl rfl (Nat.le_of_ble_eq_true rfl) (c_seq (c_reg (s_1 rfl (s_nil (q_then ?_)))))
 replace H : Hd _ _ _ [] [rsl (kInt .i64) (.slice A1 marks.length c2) marks] := H
 refine c_seq (c_reg (s_k 2 rfl (sc (containsI_ok (.slice A1 marks.length c2) marks n) H (lR 0 rfl l0) rfl rfl (e_fn kn59 rfl rfl) ?_)))
 rintro _ _ w ⟨rfl, rfl⟩ H
 exact s_1 rfl (s_nil (q_then (c_ret (q_ret1 rfl rfl (fin ⟨rfl, rfl⟩ H)))))
set_option maxHeartbeats 1000000 in
theorem reached_ok (vmarks : Value) (marks : List Int) (n : Int) :
    Cn Tryz.prog 34 [vmarks, .int .i64 n] [] [rsl (kInt .i64) vmarks marks] (fun v Bs => v = .int .i64 ((cnt (fun m => decide (m ≤ n)) marks : Nat) : Int) ∧ Bs = []) := by
 intro w0 F0 H
 obtain ⟨A1, c2, rfl, hc3, hm4, hp5⟩ := H.fR 0 rfl
 refine enter (args := [.slice A1 marks.length c2, .int .i64 n]) Tryz.func34 rfl rfl (Nat.le_of_ble_eq_true rfl) (c_seq (c_reg (s_1 rfl (s_nil (q_then ?_)))))
 replace H : Hd _ _ _ [] [rsl (kInt .i64) (.slice A1 marks.length c2) marks] := H
 refine c_seq (c_reg (s_1 rfl (s_nil (q_then (c_seq (c_seq (c_reg (s_1 rfl (s_val rfl rfl (r_lenL rfl un41 rfl) (s_1 rfl (s_nil (q_then (c_block (c_loop (σ := Nat) (fun k => [(1, .int .i64 n), (4, .int .i64 0), (5, .int .i64 ((cnt (fun m => decide (m ≤ n)) (marks.take k) : Nat) : Int)), (8, .slice A1 marks.length c2), (9, .int .i64 ((marks.length : Nat) : Int)), (10, .int .i64 ((k : Nat) : Int))]) (fun k w => (Hd w0 F0 w [] [rsl (kInt .i64) (.slice A1 marks.length c2) marks]) ∧ (k ≤ marks.length) ∧ (marks.length ≤ 9223372036854775807)) (fun k => marks.length - k) 0 ⟨rfl, rfl, rfl, rfl, rfl, rfl, trivial⟩ ⟨H, by omega, by omega⟩ ?_))))))))))))))
 rintro k w ⟨H, hk, hb⟩
 have hct := cnt_le (fun m => decide (m ≤ n)) (marks.take k)
 have htl := len_take hk
 refine c_seq (c_reg (s_val rfl rfl (r_lt rfl rfl rfl) (s_nil (q_then (c_seq ?_)))))
 refine c_dec (p := ((k : Nat) : Int) < ((marks.length : Nat) : Int)) rfl (fun h6 => ?_) (fun h6 => ?_)
 ·refine c_skip (q_then (c_seq (c_block (c_seq (c_reg ?_)))))
  obtain ⟨x7, hx8⟩ : ∃ z9, marks[k]? = some z9 := ⟨_, List.getElem?_eq_getElem (show k < marks.length by omega)⟩
  have th9 := H.thR 0 rfl hx8
  refine s_val rfl rfl (r_iaE (p := oOf A1 + k * 1) rfl sl41 rfl rfl (by omega) (by omega) th9 rfl) (s_val rfl rfl (r_ld rfl ty3 rfl (H.elR 0 rfl hx8 (q := 0) rfl rfl)) (s_1 rfl (s_nil (q_then (c_seq (c_reg (s_k 2 rfl (s_val rfl rfl (r_le rfl rfl rfl) (s_nil (q_then ?_))))))))))
  refine c_dec (p := x7 ≤ n) rfl (fun h10 => ?_) (fun h10 => ?_)
  ·refine c_reg (s_1 rfl (s_val rfl rfl (r_add (z := ((cnt (fun m => decide (m ≤ n)) (marks.take k) + 1 : Nat) : Int)) rfl rfl rfl (by rw [w64 (by omega) (by omega)]; omega)) (s_1 rfl (s_nil (q_blockN (q_then (c_reg (s_val rfl rfl (r_add (z := ((k + 1 : Nat) : Int)) rfl rfl rfl (by rw [w64 (by omega) (by omega)]; omega)) (s_1 rfl (s_nil ?_))))))))))
   have hc : cnt (fun m => decide (m ≤ n)) (marks.take (k + 1)) = cnt (fun m => decide (m ≤ n)) (marks.take k) + 1 := by rw [cnt_take hx8, if_pos (decide_eq_true h10)]
   exact q_round (s := k) (k + 1) ⟨rfl, rfl, (by rw [hc]; rfl), rfl, rfl, rfl, trivial⟩ ⟨H, by omega, hb⟩ (by (try dsimp only); omega)
  ·refine c_skip (q_blockN (q_then (c_reg (s_val rfl rfl (r_add (z := ((k + 1 : Nat) : Int)) rfl rfl rfl (by rw [w64 (by omega) (by omega)]; omega)) (s_1 rfl (s_nil ?_))))))
   have hc : cnt (fun m => decide (m ≤ n)) (marks.take (k + 1)) = cnt (fun m => decide (m ≤ n)) (marks.take k) + 0 := by rw [cnt_take hx8, if_neg (by simpa using h10)]
   exact q_round (s := k) (k + 1) ⟨rfl, rfl, (by rw [hc]; rfl), rfl, rfl, rfl, trivial⟩ ⟨H, by omega, hb⟩ (by (try dsimp only); omega)
 ·exact c_exit (q_thenE (q_thenE (q_blockE (q_then (c_seq (c_reg (s_k 2 rfl (s_nil (q_then (c_ret (q_ret1 rfl rfl (fin ⟨by rw [take_all (xs := marks) (k := k) (by omega)], rfl⟩ H))))))))))))
set_option maxHeartbeats 1000000 in
theorem growsF_ok (b : Nat) (vy : Value) (ys : List Int) (x : Int) :
    Cn Tryz.prog 61 [.int .i64 x, .pointer (some ⟨b, 0, none⟩)] [] [blk b [vy] 41, rsl (kInt .i64) vy ys] (fun v Bs => v = .bool (!decide (x ∈ ys)) ∧ Bs = []) := by
 intro w0 F0 H
 refine enter (args := [.int .i64 x, .pointer (some ⟨b, 0, none⟩)]) Tryz.func61 rfl rfl (Nat.le_of_ble_eq_true rfl) (c_seq (c_reg (s_1 rfl (s_nil (q_then (c_seq (c_reg (s_val rfl rfl (r_ld rfl ty41 rfl (H.cellRI 0 rfl rfl)) (s_1 rfl (sc (containsI_ok vy ys x) H (lR 1 rfl l0) rfl rfl (e_fn kn59 rfl rfl) ?_))))))))))
 rintro _ _ w ⟨rfl, rfl⟩ H
 exact s_val rfl rfl (r_notP rfl rfl) (s_1 rfl (s_nil (q_then (c_ret (q_ret1 rfl rfl (fin ⟨by simp, rfl⟩ H))))))
set_option maxHeartbeats 1000000 in
theorem grows_ok (va : Value) (a : List Int) (vb : Value) (b : List Int) :
    Cn Tryz.prog 35 [va, vb] [] [rsl (kInt .i64) va a, rsl (kInt .i64) vb b] (fun v Bs => v = .bool (decide (∀ n ∈ a, n ∈ b)) ∧ Bs = []) := by
 intro w0 F0 H
 obtain ⟨A1, c2, rfl, hc3, hm4, hp5⟩ := H.fR 0 rfl
 obtain ⟨A6, c7, rfl, hc8, hm9, hp10⟩ := H.fR 1 rfl
 refine enter (args := [.slice A1 a.length c2, .slice A6 b.length c7]) Tryz.func35 rfl rfl (Nat.le_of_ble_eq_true rfl) (c_seq (c_reg (s_box rfl rfl rfl rfl H (fun b11 w H => (s_1 rfl (s_nil (q_then ?_)))))))
 replace H : Hd _ _ _ [blk b11 [.slice A6 b.length c7] 41] [rsl (kInt .i64) (.slice A1 a.length c2) a, rsl (kInt .i64) (.slice A6 b.length c7) b] := H
 refine c_seq (c_reg (s_1 rfl (s_val rfl rfl (r_fn (fs := #[]) (cs := #[.pointer (some ⟨b11, 0, none⟩)]) rfl rfl rfl) (sc (containsFI_ok 61 [.pointer (some ⟨b11, 0, none⟩)] [blk b11 [.slice A6 b.length c7] 41, rsl (kInt .i64) (.slice A6 b.length c7) b] (fun x => !decide (x ∈ b)) kn61 (fun x => growsF_ok b11 (.slice A6 b.length c7) b x) (.slice A1 a.length c2) a) H (lR 0 rfl (lA 0 rfl (fun _ h => h) (lR 1 rfl l0))) rfl rfl (e_fn kn60 rfl rfl) ?_))))
 rintro _ _ w ⟨rfl, rfl⟩ H
 refine s_val rfl rfl (r_not rfl rfl rfl) (s_1 rfl (s_nil (q_then (c_ret (q_ret1 rfl rfl ?_)))))
 have e : (!(a.any (fun x => !decide (x ∈ b)))) = decide (∀ n ∈ a, n ∈ b) := by rw [Bool.eq_iff_iff]; simp
 replace H := H.keep 0
 exact fin ⟨congrArg Value.bool e, rfl⟩ H
end Go.Proofs.YtlpgdkbokakniaaGreatDoor.X

set_option linter.unusedVariables false
set_option linter.unusedSimpArgs false
namespace Go.Proofs.YtlpgdkbokakniaaGreatDoor.X
open Go
set_option maxHeartbeats 1000000 in
theorem awake20_ok  :
    Cn Tryz.prog 13 [] [] [] (fun v Bs => v = .bool true ∧ Bs = []) := by
 intro w0 F0 H
 refine enter (args := []) Tryz.func13 rfl rfl (Nat.le_of_ble_eq_true rfl) (c_seq (c_reg (s_1 rfl (s_nil (q_then (c_seq (c_reg (s_bsl (parts := [(0, .const (.int .i64 2)), (1, .const (.int .i64 4))]) (vs := [.int .i64 2, .int .i64 4]) (cs := [.int .i64 2, .int .i64 4]) rfl rfl rfl sl41 zr3 rfl (by decide) (by decide) rfl rfl H (fun b1 w H => (sc (due_ok (.slice (some ⟨b1, 0, none⟩) 2 2) [2, 4] 3) H (lA 0 rfl (fun F h => blk_rsl h rfl (by decide) (RepsR.flat_eq.2 rfl)) l0) rfl rfl (e_fn kn33 rfl rfl) ?_))))))))))
 rintro _ _ w ⟨rfl, rfl⟩ H
 refine s_val rfl rfl (r_notP rfl rfl) (s_1 rfl ?_)
 refine s_dec (d := 4) (p := ¬ (3 ∈ [2, 4])) rfl (fun h2 => ?_) (fun h2 => ?_)
 ·refine s_bsl (parts := [(0, .const (.int .i64 2)), (1, .const (.int .i64 4))]) (vs := [.int .i64 2, .int .i64 4]) (cs := [.int .i64 2, .int .i64 4]) rfl rfl rfl sl41 zr3 rfl (by decide) (by decide) rfl rfl H (fun b3 w H => (sc (due_ok (.slice (some ⟨b3, 0, none⟩) 2 2) [2, 4] 4) H (lA 0 rfl (fun F h => blk_rsl h rfl (by decide) (RepsR.flat_eq.2 rfl)) l0) rfl rfl (e_fn kn33 rfl rfl) ?_))
  rintro _ _ w ⟨rfl, rfl⟩ H
  refine s_k 2 rfl ?_
  refine s_dec (d := 8) (p := 4 ∈ [2, 4]) rfl (fun h4 => ?_) (fun h4 => ?_)
  ·refine s_bsl (parts := [(0, .const (.int .i64 2)), (1, .const (.int .i64 4))]) (vs := [.int .i64 2, .int .i64 4]) (cs := [.int .i64 2, .int .i64 4]) rfl rfl rfl sl41 zr3 rfl (by decide) (by decide) rfl rfl H (fun b5 w H => (sc (reached_ok (.slice (some ⟨b5, 0, none⟩) 2 2) [2, 4] 3) H (lA 0 rfl (fun F h => blk_rsl h rfl (by decide) (RepsR.flat_eq.2 rfl)) l0) rfl rfl (e_fn kn34 rfl rfl) ?_))
   rintro _ _ w ⟨rfl, rfl⟩ H
   refine s_val rfl rfl (r_eq rfl rfl rfl) (s_k 2 rfl ?_)
   refine s_dec (d := 13) (p := ((cnt (fun m => decide (m ≤ 3)) [2, 4] : Nat) : Int) = 1) rfl (fun h6 => ?_) (fun h6 => ?_)
   ·refine s_bsl (parts := [(0, .const (.int .i64 1))]) (vs := [.int .i64 1]) (cs := [.int .i64 1]) rfl rfl rfl sl41 zr3 rfl (by decide) (by decide) rfl rfl H (fun b7 w H => (s_bsl (parts := [(0, .const (.int .i64 3)), (1, .const (.int .i64 1))]) (vs := [.int .i64 3, .int .i64 1]) (cs := [.int .i64 3, .int .i64 1]) rfl rfl rfl sl41 zr3 rfl (by decide) (by decide) rfl rfl H (fun b8 w H => (sc (grows_ok (.slice (some ⟨b7, 0, none⟩) 1 1) [1] (.slice (some ⟨b8, 0, none⟩) 2 2) [3, 1]) H (lA 1 rfl (fun F h => blk_rsl h rfl (by decide) (RepsR.flat_eq.2 rfl)) (lA 0 rfl (fun F h => blk_rsl h rfl (by decide) (RepsR.flat_eq.2 rfl)) l0)) rfl rfl (e_fn kn35 rfl rfl) ?_))))
    rintro _ _ w ⟨rfl, rfl⟩ H
    refine s_k 2 rfl ?_
    refine s_dec (d := 18) (p := ∀ n ∈ [1], n ∈ [3, 1]) rfl (fun h9 => ?_) (fun h9 => ?_)
    ·refine s_bsl (parts := [(0, .const (.int .i64 1))]) (vs := [.int .i64 1]) (cs := [.int .i64 1]) rfl rfl rfl sl41 zr3 rfl (by decide) (by decide) rfl rfl H (fun b10 w H => (sc (grows_ok (.slice (some ⟨b10, 0, none⟩) 1 1) [1] (.slice none 0 0) []) H (lA 0 rfl (fun F h => blk_rsl h rfl (by decide) (RepsR.flat_eq.2 rfl)) (lX (fun F _ _ => rsl_nil _ _ F trivial (by decide)) l0)) rfl rfl (e_fn kn35 rfl rfl) ?_))
     rintro _ _ w ⟨rfl, rfl⟩ H
     refine s_val rfl rfl (r_notP rfl rfl) (s_k 2 rfl (s_nil (q_then ?_)))
     replace H : Hd _ _ _ [blk b10 [.int .i64 1] 3, blk b8 [.int .i64 3, .int .i64 1] 3, blk b7 [.int .i64 1] 3, blk b5 [.int .i64 2, .int .i64 4] 3, blk b3 [.int .i64 2, .int .i64 4] 3, blk b1 [.int .i64 2, .int .i64 4] 3] [] := H
     refine c_ret (q_ret1 rfl rfl ?_)
     replace H := H.keep 0
     exact fin ⟨rfl, rfl⟩ H
    ·exact (h9 (by decide)).elim
   ·exact (h6 (by decide)).elim
  ·exact (h4 (by decide)).elim
 ·exact (h2 (by decide)).elim
set_option maxHeartbeats 4000000 in
theorem snapOfLaw_ok (vp : Value) (p : List Ins) (wp : (∀ i ∈ p, In64 i.op ∧ In64 i.a ∧ i.s.size ≤ 9223372036854775807) ∧ p.length ≤ 9223372036854775807) (fuel : Int) (hfu : In64 fuel) (vruns : Value) (runs : List (List Pair)) (wruns : (∀ xs ∈ runs, (∀ p ∈ xs, p.key.size ≤ 9223372036854775807 ∧ p.val.size ≤ 9223372036854775807) ∧ xs.length ≤ 9223372036854775807) ∧ runs.length ≤ 9223372036854775807) :
    Cn Tryz.prog 4 [vp, .int .i64 fuel, vruns] [] [rsl kIns vp p, rsl (kSl kPair) vruns runs, gl] (fun v Bs => v = .bool true ∧ Bs = []) := by
 intro w0 F0 H
 obtain ⟨A1, c2, rfl, hc3, hm4, hp5⟩ := H.fR 0 rfl
 obtain ⟨us, hus, H⟩ := H.heads 1 rfl
 obtain ⟨A6, c7, rfl, hc8, hm9, hp10⟩ := H.fR 0 rfl
 refine enter (args := [.slice A1 p.length c2, .int .i64 fuel, .slice A6 us.length c7]) Tryz.func4 rfl rfl (Nat.le_of_ble_eq_true rfl) (c_seq (c_reg (s_1 rfl (s_nil (q_then ?_)))))
 replace H : Hd _ _ _ [] [rsl (kHd kPair) (.slice A6 us.length c7) us, rsl kIns (.slice A1 p.length c2) p, rsl (kSl kPair) (.slice A6 us.length c7) runs, gl] := H
 refine c_seq (c_seq (c_reg (s_1 rfl (sc (greatCode_ok (.slice A1 p.length c2) p) H (lR 1 rfl l0) rfl rfl (e_fn kn12 rfl rfl) ?_))))
 rintro _ _ w ⟨rfl, rfl⟩ H
 refine s_1 rfl ?_
 refine s_boo (d := 18) (b := greatC p) rfl (fun h11 => ?_) (fun h11 => ?_)
 ·refine s_k 4 rfl (s_nil (q_then (c_yes rfl (c_seq (c_reg (sc (awake20_ok ) H l0 rfl rfl (e_fn kn13 rfl rfl) ?_))))))
  rintro _ _ w ⟨rfl, rfl⟩ H
  refine s_1 rfl (s_nil (q_then (c_ret (q_thenR (q_ret1 rfl rfl ?_)))))
  replace H := H.dropR
  replace H : Hd _ _ _ [] [rsl kIns (.slice A1 p.length c2) p, rsl (kSl kPair) (.slice A6 us.length c7) runs, gl] := H
  exact fin ⟨rfl, rfl⟩ H
 ·refine s_1 rfl (s_val rfl rfl (r_lenL rfl un31 rfl) (s_val rfl rfl (r_gt rfl rfl rfl) (s_1 rfl (s_nil (q_then ?_)))))
  refine c_dec (p := (6 : Int) < ((us.length : Nat) : Int)) rfl (fun h12 => ?_) (fun h12 => ?_)
  ·refine c_seq (c_reg (sc (awake20_ok ) H l0 rfl rfl (e_fn kn13 rfl rfl) ?_))
   rintro _ _ w ⟨rfl, rfl⟩ H
   refine s_1 rfl (s_nil (q_then (c_ret (q_thenR (q_ret1 rfl rfl ?_)))))
   replace H := H.dropR
   replace H : Hd _ _ _ [] [rsl kIns (.slice A1 p.length c2) p, rsl (kSl kPair) (.slice A6 us.length c7) runs, gl] := H
   exact fin ⟨rfl, rfl⟩ H
  ·refine c_skip (q_then (c_seq (c_reg (s_1 rfl (s_nil (q_then (c_seq (c_seq (c_reg (s_1 rfl (s_nil (q_then (c_block ?_)))))))))))))
   replace H := H.newnil (kHd kPair)
   refine c_loop (σ := Nat × Value × List (Value × List Pair)) (fun (i, q, zs) => [(0, .slice A1 p.length c2), (1, .int .i64 fuel), (2, .slice A6 us.length c7), (7, q), (8, .int .i64 ((i : Nat) : Int))]) (fun (i, q, zs) w => (Hd w0 F0 w [osl (kHd kPair) q zs] [rsl (kHd kPair) (.slice A6 us.length c7) us, rsl kIns (.slice A1 p.length c2) p, rsl (kSl kPair) (.slice A6 us.length c7) runs, gl]) ∧ (i ≤ us.length ∧ zs.length = i ∧ i ≤ 6) ∧ (∀ p ∈ zs, p.2.length ≤ 20)) (fun (i, q, zs) => us.length - i) (0, .slice none 0 0, []) ⟨rfl, rfl, rfl, rfl, rfl, trivial⟩ ⟨H, ⟨Nat.zero_le _, rfl, Nat.zero_le _⟩, by (try dsimp only); simp⟩ ?_
   rintro ⟨i, q, zs⟩ w ⟨H, hi, hn⟩
   refine c_seq (c_seq (c_reg (s_k 2 rfl (s_val rfl rfl (r_lenL rfl un31 rfl) (s_val rfl rfl (r_lt rfl rfl rfl) (s_nil (q_then ?_)))))))
   refine c_dec (p := ((i : Nat) : Int) < ((us.length : Nat) : Int)) rfl (fun h13 => ?_) (fun h13 => ?_)
   ·refine c_skip (q_then (c_seq (c_block (c_seq (c_seq (c_reg (s_k 2 rfl ?_)))))))
    obtain ⟨⟨u16, x14⟩, hx15⟩ : ∃ z9, us[i]? = some z9 := ⟨_, List.getElem?_eq_getElem (show i < us.length by omega)⟩
    obtain ⟨A17, c18, rfl, hc19, hm20⟩ := H.nestR 0 rfl hx15
    have th21 := H.thRd 0 rfl hx15
    refine s_val rfl rfl (r_iaE (p := oOf A6 + i * 1) rfl sl31 rfl rfl (by omega) (by omega) th21 rfl) (s_val rfl rfl (r_ld rfl ty23 rfl (H.elRd 0 rfl hx15 rfl)) (sc (greatPairs_ok (.slice A17 x14.length c18) x14 20) H (lX (fun F hA hR => nest_rsl (hR _ (List.mem_of_getElem? (i := 0) rfl)) hx15) l0) rfl rfl (e_fn kn14 rfl rfl) ?_))
    rintro _ _ w ⟨rfl, rfl⟩ H
    refine s_nil (q_then ?_)
    refine c_cond (b := greatP x14 20) rfl (fun h22 => ?_) (fun h22 => ?_)
    ·refine c_seq (c_reg (sc (awake20_ok ) H l0 rfl rfl (e_fn kn13 rfl rfl) ?_))
     rintro _ _ w ⟨rfl, rfl⟩ H
     refine s_1 rfl (s_nil (q_then (c_ret (q_thenR (q_blockR (q_thenR (q_thenR (q_blockR (q_thenR (q_ret1 rfl rfl ?_))))))))))
     replace H := H.keep 0
     replace H := H.dropR
     replace H : Hd _ _ _ [] [rsl kIns (.slice A1 p.length c2) p, rsl (kSl kPair) (.slice A6 us.length c7) runs, gl] := H
     exact fin ⟨rfl, rfl⟩ H
    ·refine c_skip (q_then ?_)
     have hg := (greatP_no h22).1
     refine c_reg (s_k 3 rfl ?_)
     have th23 := H.thRd 0 rfl hx15
     refine s_val rfl rfl (r_iaE (p := oOf A6 + i * 1) rfl sl31 rfl rfl (by omega) (by omega) th23 rfl) (s_val rfl rfl (r_ld rfl ty23 rfl (H.elRd 0 rfl hx15 rfl)) (sc (pairSort_ok (.slice A17 x14.length c18) x14 (by first | omega | decide | (simp only [List.length_append, List.length_cons, List.length_nil, srt_len]; omega))) H (lX (fun F hA hR => nest_rsl (hR _ (List.mem_of_getElem? (i := 0) rfl)) hx15) l0) rfl rfl (e_fn kn15 rfl rfl) ?_))
     rintro v24 _ w rfl H
     obtain ⟨A26, c27, rfl, hc28, hm29, hp30⟩ := H.fA 0 rfl
     refine s_bsl (parts := [(0, .tmp 41)]) (vs := [.slice A26 ((srt x14).length) c27]) (cs := [.slice A26 ((srt x14).length) c27]) rfl rfl rfl sl31 zr23 rfl (by decide) (by decide) rfl rfl H (fun b25 w H => ?_)
     replace H := H.p2
     replace H : Hd _ _ _ [osl (kHd kPair) q zs, blk b25 [.slice A26 ((srt x14).length) c27] 23, osl kPair (.slice A26 ((srt x14).length) c27) (srt x14)] [rsl (kHd kPair) (.slice A6 us.length c7) us, rsl kIns (.slice A1 p.length c2) p, rsl (kSl kPair) (.slice A6 us.length c7) runs, gl] := H
     refine s_appH rfl rfl rfl sl31 zr23 rfl (by decide) rfl rfl H (by omega) (fun v31 w H => (s_1 rfl (s_nil (q_blockN (q_then ?_)))))
     replace H := H.h1 (A := osl (kHd kPair) v31 (zs ++ [(.slice A26 ((srt x14).length) c27, srt x14)]))
     refine c_reg (s_1 rfl (s_val rfl rfl (r_add (z := ((i + 1 : Nat) : Int)) rfl rfl rfl (by rw [w64 (by omega) (by omega)]; omega)) (s_1 rfl (s_nil ?_))))
     have hn2 : ∀ p ∈ zs ++ [(.slice A26 ((srt x14).length) c27, srt x14)], p.2.length ≤ 20 := fun p hp => by
       rcases List.mem_append.1 hp with h | h
       · exact hn p h
       · rw [List.mem_singleton.1 h, srt_len]; have := (greatP_no h22).1; omega
     exact q_round (s := (i, undef, zs)) (i + 1, v31, zs ++ [(.slice A26 ((srt x14).length) c27, srt x14)]) ⟨rfl, rfl, rfl, rfl, rfl, trivial⟩ ⟨H, by (try dsimp only); simp only [List.length_append, List.length_cons, List.length_nil]; omega, hn2⟩ (by (try dsimp only); omega)
   ·refine c_exit (q_thenE (q_thenE (q_blockE (q_then (c_seq ?_)))))
    have hfb := flat2_bound hn
    have hb : (flat2 zs).length ≤ 1000000 := Nat.le_trans hfb (by omega)
    have hpa : ∀ i ∈ p, In64 i.a := fun i hi => (wp.1 i hi).2.1
    have hel := each_len dg p (srt (flat2 zs)) fuel false (keysL (srt (flat2 zs))) [] (Nat.zero_le _)
    refine c_reg (s_k 3 rfl (sc (snapOf_ok (.slice A1 p.length c2) p fuel q zs (by first | exact hpa | exact in64_first | assumption) (by first | assumption | (unfold In64; omega)) (by first | omega | assumption)) H (lR 1 rfl (lA 0 rfl own_rd (lR 3 rfl l0))) rfl rfl (e_fn kn16 rfl rfl) ?_))
    rintro _ _ w ⟨u32, rfl, rfl⟩ H
    refine s_k 5 rfl (s_nil (q_then ?_))
    replace H : Hd _ _ _ [osl kPair u32 ((eachM dg p (srt (flat2 zs)) fuel false).1), osl (kHd kPair) q zs] [rsl (kHd kPair) (.slice A6 us.length c7) us, rsl kIns (.slice A1 p.length c2) p, rsl (kSl kPair) (.slice A6 us.length c7) runs, gl] := H
    refine c_seq (c_reg (s_k 3 rfl (sc (rSnapOf_ok (.slice A1 p.length c2) p fuel q zs (by first | exact hpa | exact in64_first | assumption) (by first | assumption | (unfold In64; omega)) (by first | omega | assumption)) H (lR 1 rfl (lA 1 rfl own_rd l0)) rfl rfl (e_fn kn17 rfl rfl) ?_)))
    rintro _ _ w ⟨u33, rfl, rfl⟩ H
    refine s_k 5 rfl (s_nil (q_then ?_))
    replace H := H.h1 (A := osl kPair u33 ((eachM dg p (srt (flat2 zs)) fuel false).1))
    refine c_seq (c_reg (s_k 2 rfl (sc (runs_ok q zs (by first | omega | decide | exact Nat.le_trans (flat2_le _ _) (by omega) | exact Nat.le_trans (flat2_le' _ _) (by omega) | (simp only [flat2, List.flatMap_cons, List.flatMap_nil, List.append_nil, srt_len]; omega))) H (lA 2 rfl own_rd l0) rfl rfl (e_fn kn18 rfl rfl) ?_)))
    rintro v34 _ w rfl H
    refine s_1 rfl ?_
    replace H := H.h1 (A := osl kPair v34 (srt (flat2 zs)))
    refine sc (foldEach_ok (.slice A1 p.length c2) p v34 (srt (flat2 zs)) fuel (by first | exact hpa | exact in64_first | assumption) (by first | assumption | (unfold In64; omega)) (by first | omega | (simp only [srt_len]; omega))) H (lR 1 rfl (lA 0 rfl own_rd (lR 3 rfl l0))) rfl rfl (e_fn kn10 rfl rfl) ?_
    rintro _ _ w ⟨u35, rfl, rfl⟩ H
    refine s_k 5 rfl (s_nil (q_then ?_))
    replace H := H.h1 (A := osl kPair u35 ((eachM dg p (srt (flat2 zs)) fuel false).1))
    refine c_seq (c_reg (s_k 2 rfl (sc (samePairs_ok u32 u33 ((eachM dg p (srt (flat2 zs)) fuel false).1) ((eachM dg p (srt (flat2 zs)) fuel false).1)) H (lA 3 rfl own_rd (lA 2 rfl own_rd l0)) rfl rfl (e_fn kn19 rfl rfl) ?_)))
    rintro _ _ w ⟨rfl, rfl⟩ H
    refine s_1 rfl ?_
    refine s_dec (d := 69) (p := ((eachM dg p (srt (flat2 zs)) fuel false).1) = ((eachM dg p (srt (flat2 zs)) fuel false).1)) rfl (fun h36 => ?_) (fun h36 => ?_)
    ·refine s_k 2 rfl (s_val rfl rfl (r_eq rfl rfl rfl) (s_k 2 rfl ?_))
     refine s_dec (d := 74) (p := ((eachM dg p (srt (flat2 zs)) fuel false).2) = ((eachM dg p (srt (flat2 zs)) fuel false).2)) rfl (fun h37 => ?_) (fun h37 => ?_)
     ·refine s_k 2 rfl (sc (samePairs_ok u32 u35 ((eachM dg p (srt (flat2 zs)) fuel false).1) ((eachM dg p (srt (flat2 zs)) fuel false).1)) H (lA 3 rfl own_rd (lA 0 rfl own_rd l0)) rfl rfl (e_fn kn19 rfl rfl) ?_)
      rintro _ _ w ⟨rfl, rfl⟩ H
      refine s_k 2 rfl ?_
      refine s_dec (d := 79) (p := ((eachM dg p (srt (flat2 zs)) fuel false).1) = ((eachM dg p (srt (flat2 zs)) fuel false).1)) rfl (fun h38 => ?_) (fun h38 => ?_)
      ·refine s_k 2 rfl (s_val rfl rfl (r_eq rfl rfl rfl) (s_k 2 rfl (s_nil (q_then (c_seq (c_reg (s_1 rfl ?_)))))))
       replace H := H.p3
       refine sc (overPairs_ok u32 ((eachM dg p (srt (flat2 zs)) fuel false).1) (by exact Nat.le_trans hel (by decide))) H l0 rfl rfl (e_fn kn20 rfl rfl) ?_
       rintro _ _ w rfl H
       refine s_nil (q_then (c_seq (c_reg (s_k 2 rfl ?_))))
       refine s_dec (d := 87) (p := ((eachM dg p (srt (flat2 zs)) fuel false).2) = ((eachM dg p (srt (flat2 zs)) fuel false).2)) rfl (fun h39 => ?_) (fun h39 => ?_)
       ·refine sc (awake20_ok ) H l0 rfl rfl (e_fn kn13 rfl rfl) ?_
        rintro _ _ w ⟨rfl, rfl⟩ H
        refine s_k 2 rfl (s_nil (q_then (c_ret (q_ret1 rfl rfl ?_))))
        replace H := H.keep 0
        replace H := H.dropR
        replace H : Hd _ _ _ [] [rsl kIns (.slice A1 p.length c2) p, rsl (kSl kPair) (.slice A6 us.length c7) runs, gl] := H
        exact fin ⟨rfl, rfl⟩ H
       ·exact (h39 rfl).elim
      ·exact (h38 rfl).elim
     ·exact (h37 rfl).elim
    ·exact (h36 rfl).elim
end Go.Proofs.YtlpgdkbokakniaaGreatDoor.X

set_option linter.unusedVariables false
set_option linter.unusedSimpArgs false
namespace Go.Proofs.YtlpgdkbokakniaaGreatDoor.X
open Go
theorem v_foot {P : Program} {W : World} {name : String} {g : Nat} {cs : Array Value} (hg : P.globalNamed name = some g) (h : W.var? P name = some cs) : Old W g := by
  unfold World.var? at h
  rw [hg] at h
  simp only [Option.bind_some] at h
  show g < W.heap.size
  rcases Nat.lt_or_ge g W.heap.size with h' | h'
  · exact h'
  · simp [Array.getElem?_eq_none h'] at h
theorem star2 : "*" ++ "errors.errorString" = "*errors.errorString" := by decide
theorem ptrRow (u : TypeId) (h : Tryz.prog.typeName? 3 u = some "*errors.errorString") : u = 219 := typeName_ptr_named (nm := "errors.errorString") (by rw [star2]; kernel_rfl) (by kernel_rfl) (by decide) u (by rw [star2]; exact h)
theorem gn0 : Tryz.prog.globalNamed "internal/strconv.uint64pow10" = some 2 := by kernel_rfl
theorem gt0 : (Tryz.prog.globals[2]?).map (·.type) = some 215 := by kernel_rfl
theorem gn1 : Tryz.prog.globalNamed "strconv.ErrSyntax" = some 0 := by kernel_rfl
theorem gt1 : (Tryz.prog.globals[0]?).map (·.type) = some 168 := by kernel_rfl
theorem gn2 : Tryz.prog.globalNamed "strconv.ErrRange" = some 1 := by kernel_rfl
theorem gt2 : (Tryz.prog.globals[1]?).map (·.type) = some 168 := by kernel_rfl
theorem lu168 : Tryz.prog.underlying 168 = some (.interface (Tryz.prog.methodsAt 168)) := by kernel_rfl
theorem lu215 : Tryz.prog.underlying 215 = some (.array 20 86) := by kernel_rfl
theorem lu86 : Tryz.prog.underlying 86 = some (.int .u64) := by kernel_rfl
theorem lu219 : Tryz.prog.underlying 219 = some (.pointer 221) := by kernel_rfl
theorem lu221 : Tryz.prog.underlying 221 = some (.struct #[⟨ "s", 9, 0, false, "", "errors", 0⟩]) := by kernel_rfl
theorem lu9 : Tryz.prog.underlying 9 = some (.string) := by kernel_rfl
theorem lc86 : Tryz.prog.cellsOf 86 = 1 := by kernel_rfl
theorem lc215 : Tryz.prog.cellsOf 215 = 20 := by kernel_rfl
theorem lc221 : Tryz.prog.cellsOf 221 = 1 := by kernel_rfl
theorem lc9 : Tryz.prog.cellsOf 9 = 1 := by kernel_rfl
theorem gl_laid {W : World} (h : laidMet Tryz.prog Rows.foldEmptyRow.laid W) : gl.P W (Old W) := by
  refine ⟨?_, ?_, ?_⟩
  · have h0 : laidMet Tryz.prog [("internal/strconv.uint64pow10", Lib.tabData .u64 Lib.pow10Tab)] W := by
      have e : Rows.foldEmptyRow.laid.filter (fun x => x.1 == "internal/strconv.uint64pow10") = [("internal/strconv.uint64pow10", Lib.tabData .u64 Lib.pow10Tab)] := by kernel_rfl
      have := h.filter (fun x => x.1 == "internal/strconv.uint64pow10"); rw [e] at this; exact this
    have hv := Lib.tabIs_of_head gn0 gt0 lu215 lu86 lc86 lc215 h0
    exact ⟨_, gn0, v_foot gn0 hv, _, hv, rfl⟩
  · have h0 : laidMet Tryz.prog [("strconv.ErrSyntax", Rows.laid_strconv_ErrSyntax)] W := by
      have e : Rows.foldEmptyRow.laid.filter (fun x => x.1 == "strconv.ErrSyntax") = [("strconv.ErrSyntax", Rows.laid_strconv_ErrSyntax)] := by kernel_rfl
      have := h.filter (fun x => x.1 == "strconv.ErrSyntax"); rw [e] at this; exact this
    obtain ⟨a0, s0, hv, -⟩ := laid_sentinel h0 gn1 gt1 lu168 ptrRow lu219 lu221 rfl rfl lu9 lc221 lc9
    exact ⟨_, gn1, v_foot gn1 hv, _, hv, _, _, rfl⟩
  · have h0 : laidMet Tryz.prog [("strconv.ErrRange", Rows.laid_strconv_ErrRange)] W := by
      have e : Rows.foldEmptyRow.laid.filter (fun x => x.1 == "strconv.ErrRange") = [("strconv.ErrRange", Rows.laid_strconv_ErrRange)] := by kernel_rfl
      have := h.filter (fun x => x.1 == "strconv.ErrRange"); rw [e] at this; exact this
    obtain ⟨a0, s0, hv, -⟩ := laid_sentinel h0 gn2 gt2 lu168 ptrRow lu219 lu221 rfl rfl lu9 lc221 lc9
    exact ⟨_, gn2, v_foot gn2 hv, _, hv, _, _, rfl⟩
end Go.Proofs.YtlpgdkbokakniaaGreatDoor.X

