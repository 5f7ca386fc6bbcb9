/- What is done once. -/
import Derived.Test.YtlpgdkbokakniaaGreatDoorO1
import Derived.Tactics2
import Derived.Laws.Pointers
import Derived.RegionTactic
import Derived.RegionCalls
import Derived.ChangeAlike
set_option linter.unusedVariables false
set_option linter.unusedSimpArgs false
namespace Go.Proofs.YtlpgdkbokakniaaGreatDoor.X
open Go
set_option maxRecDepth 100000 in
set_option maxHeartbeats 1600000 in
theorem doSlow_ok (c pl : Nat) (sm : Value) (md : Int) (fv : Value) (tx tx2 : ByteArray) (Rs : List SP)
    (hcl : Cn Tryz.prog 139 [.pointer (some ⟨pl, 0, none⟩)] [blk c [.int .u32 0, .int .i32 1, sm, .int .u32 md, fv, .string tx] 185] Rs (fun v Bs => v = .tuple #[] ∧ Bs = [blk c [.int .u32 0, .int .i32 1, sm, .int .u32 md, fv, .string tx2] 185])) :
    Cn Tryz.prog 154 [.pointer (some ⟨c, 0, none⟩), .func (.func 139) #[] #[.pointer (some ⟨pl, 0, none⟩)]] [blk c [.int .u32 0, .int .i32 0, sm, .int .u32 md, fv, .string tx] 185] Rs (fun v Bs => v = .tuple #[] ∧ Bs = [blk c [.int .u32 1, .int .i32 0, sm, .int .u32 md, fv, .string tx2] 185]) := by
  intro w F H
  have hnot : ∀ (x : Bool) (w : World), (Op.unary .not (.bool x)).run Tryz.prog w = .ok (.bool (!x)) w := fun _ _ => rfl
  go_enter_defers Tryz.func154, Tryz.ntmps154
  go_wp2_with (first
    | (go_at_call 166; refine (call_frame (As := []) (lock_ok c 0 sm md fv tx) H l0).mono ?_; rintro e w1 ⟨v, rfl, Bs, ⟨rfl, rfl⟩, H1⟩)
    | (go_at_call 153; refine (call_frame (Cs := []) (loadDone0_ok c 1 sm md fv tx) H1 (lA 0 rfl (fun _ h => h) l0)).mono ?_; rintro e w2 ⟨v, rfl, Bs, ⟨rfl, rfl⟩, H2⟩)
    | (go_at_call 139; refine (call_frame (As := []) hcl H2 lAll).mono ?_; rintro e w3 ⟨v, rfl, Bs, ⟨rfl, rfl⟩, H3⟩))
  refine leaves_cons (f := 137) (args := #[.pointer (some ⟨c, 0, none⟩), .bool true]) (by simp) (by simp [go_sem]) ?_
  refine (call_frameD (As := []) (storeDone_ok c 0 1 sm md fv tx2) H3 l0).mono ?_
  rintro e u' w4 ⟨rfl, v, rfl, Bs, ⟨rfl, rfl⟩, H4⟩
  refine leaves_cons (f := 167) (args := #[.pointer (some ⟨c, 1, none⟩)]) (by simp [settle]) (by simp [go_sem]) ?_
  refine (call_frameD (As := []) (unlockD_ok c 1 sm md fv tx2) H4 l0).mono ?_
  rintro e u' w5 ⟨rfl, v, rfl, Bs, ⟨rfl, rfl⟩, H5⟩
  exact ⟨.tuple #[], by simp [results, Tryz.results154], .tuple #[], rfl, _, ⟨rfl, rfl⟩, H5⟩

set_option maxHeartbeats 1000000 in
theorem text1_ok (nb : Nat) (n : Int) (hn : In64 n) :
    Cn Tryz.prog 128 [.pointer (some ⟨nb, 0, none⟩)] [] [blk nb [.int .i64 n] 2, gl] (fun v Bs => v = .string (dg.dig n) ∧ Bs = []) := by
  intro w0 F0 H
  refine enter (args := [.pointer (some ⟨nb, 0, none⟩)]) Tryz.func128 rfl rfl (Nat.le_of_ble_eq_true rfl) ?_
  refine c_seq ?_
  refine c_reg ?_
  refine s_val rfl rfl (r_as rfl rfl) ?_
  refine s_nil ?_
  refine q_then ?_
  refine c_env [(0, .pointer (some ⟨nb, 0, none⟩)), (1, .string ⟨#[]⟩)] ⟨rfl, rfl, trivial⟩ ?_
  refine c_seq ?_
  refine c_reg ?_
  refine s_val rfl rfl (r_ld rfl ty2 rfl (H.cellRI 0 rfl rfl)) ?_
  refine sc (digits_ok n (by assumption)) H (lR 1 rfl l0) rfl rfl (e_fn kn129 rfl rfl) ?_
  rintro _ _ w ⟨rfl, rfl⟩ H
  refine s_val rfl rfl (r_as rfl rfl) ?_
  refine s_nil ?_
  refine q_then ?_
  refine c_env [(1, .string (dg.dig n))] ⟨rfl, trivial⟩ ?_
  refine c_ret ?_
  refine q_ret1 rfl rfl ?_
  replace H : Hd _ _ _ [] [blk nb [.int .i64 n] 2, gl] := H
  exact fin ⟨rfl, rfl⟩ H

set_option maxHeartbeats 1000000 in
theorem getf_ok (c pl nb : Nat) (n : Int) (hn : In64 n) (sm : Value) (md : Int) (tx : ByteArray) :
    Cn Tryz.prog 139 [.pointer (some ⟨pl, 0, none⟩)] [blk c [.int .u32 0, .int .i32 1, sm, .int .u32 md, .func (.func 128) #[] #[.pointer (some ⟨nb, 0, none⟩)], .string tx] 185] [blk pl [.pointer (some ⟨c, 0, none⟩)] 164, blk nb [.int .i64 n] 2, gl] (fun v Bs => v = .tuple #[] ∧ Bs = [blk c [.int .u32 0, .int .i32 1, sm, .int .u32 md, .func (.func 128) #[] #[.pointer (some ⟨nb, 0, none⟩)], .string (dg.dig n)] 185]) := by
  intro w0 F0 H
  refine enter (args := [.pointer (some ⟨pl, 0, none⟩)]) Tryz.func139 rfl rfl (Nat.le_of_ble_eq_true rfl) ?_
  refine c_seq ?_
  refine c_reg ?_
  refine s_val rfl rfl (r_ld rfl ty164 rfl (H.cellRI 0 rfl rfl)) ?_
  refine s_val rfl rfl (r_nilP rfl rfl) ?_
  refine s_val rfl rfl (r_fa rfl fo185_2 rfl) ?_
  refine s_val rfl rfl (r_ld rfl ty166 rfl (H.cellI 0 rfl rfl)) ?_
  refine s_val rfl rfl (r_fne rfl un166 rfl rfl) ?_
  refine s_nil ?_
  refine q_then ?_
  refine c_env [(0, .pointer (some ⟨pl, 0, none⟩)), (5, .bool true)] ⟨rfl, rfl, trivial⟩ ?_
  refine c_yes rfl ?_
  refine c_ord (.e 0 (.e 1 (.e 2 (.e 3 (.m 4 (.m 5 (.e 6 (.e 7 (.m 8 .z))))))))) (fun w => ∃ Ar, Hd w0 F0 w (Ar) [blk pl [.pointer (some ⟨c, 0, none⟩)] 164, blk nb [.int .i64 n] 2, gl]) mo (by kernel_rfl) (fun w H => ⟨_, H⟩) H (fun w H => ?_)
  refine d_val rfl rfl rfl (fun w ⟨Ar, H⟩ => r_ld rfl ty164 rfl (H.cellRI 0 rfl rfl)) ?_
  refine d_val rfl rfl rfl (fun w ⟨Ar, H⟩ => r_ld rfl ty164 rfl (H.cellRI 0 rfl rfl)) ?_
  refine d_val rfl rfl rfl (fun w ⟨Ar, H⟩ => r_nilP rfl rfl) ?_
  refine d_val rfl rfl rfl (fun w ⟨Ar, H⟩ => r_fa rfl fo185_2 rfl) ?_
  refine d_main rfl ?_
  refine s_val rfl rfl (r_ld rfl ty166 rfl (H.cellI 0 rfl rfl)) ?_
  refine d_back ⟨_, H⟩ ?_
  refine d_main rfl ?_
  refine sc (text1_ok nb n hn) H (lR 1 rfl (lR 2 rfl l0)) rfl rfl (e_val (vs := []) (fs := #[]) (cs := #[.pointer (some ⟨nb, 0, none⟩)]) kn128 rfl rfl rfl) ?_
  rintro _ _ w ⟨rfl, rfl⟩ H
  refine d_back ⟨_, H⟩ ?_
  refine d_val rfl rfl rfl (fun w ⟨Ar, H⟩ => r_nilP rfl rfl) ?_
  refine d_val rfl rfl rfl (fun w ⟨Ar, H⟩ => r_fa rfl fo185_3 rfl) ?_
  refine d_main rfl ?_
  refine s_st rfl rfl rfl ty9 rfl rfl H rfl (Nat.le_of_ble_eq_true rfl) (fun u hu => by simp [Value.cells] at hu; subst hu; rfl) (fun w H => ?_)
  replace H : Hd _ _ _ [blk c [.int .u32 0, .int .i32 1, sm, .int .u32 md, .func (.func 128) #[] #[.pointer (some ⟨nb, 0, none⟩)], .string (dg.dig n)] 185] [blk pl [.pointer (some ⟨c, 0, none⟩)] 164, blk nb [.int .i64 n] 2, gl] := H
  refine d_back ⟨_, H⟩ ?_
  refine d_nil ?_
  refine q_end rfl ?_
  replace H : Hd _ _ _ [blk c [.int .u32 0, .int .i32 1, sm, .int .u32 md, .func (.func 128) #[] #[.pointer (some ⟨nb, 0, none⟩)], .string (dg.dig n)] 185] [blk pl [.pointer (some ⟨c, 0, none⟩)] 164, blk nb [.int .i64 n] 2, gl] := H
  exact fin ⟨rfl, rfl⟩ H

set_option maxHeartbeats 1000000 in
theorem doNew_ok (c pl nb : Nat) (n : Int) (hn : In64 n) (sm : Value) (md : Int) (tx : ByteArray) :
    Cn Tryz.prog 138 [.pointer (some ⟨c, 0, none⟩), .func (.func 139) #[] #[.pointer (some ⟨pl, 0, none⟩)]] [blk c [.int .u32 0, .int .i32 0, sm, .int .u32 md, .func (.func 128) #[] #[.pointer (some ⟨nb, 0, none⟩)], .string tx] 185] [blk pl [.pointer (some ⟨c, 0, none⟩)] 164, blk nb [.int .i64 n] 2, gl] (fun v Bs => v = .tuple #[] ∧ Bs = [blk c [.int .u32 1, .int .i32 0, sm, .int .u32 md, .func (.func 128) #[] #[.pointer (some ⟨nb, 0, none⟩)], .string (dg.dig n)] 185]) := by
  intro w0 F0 H
  refine enter (args := [.pointer (some ⟨c, 0, none⟩), .func (.func 139) #[] #[.pointer (some ⟨pl, 0, none⟩)]]) Tryz.func138 rfl rfl (Nat.le_of_ble_eq_true rfl) ?_
  refine c_seq ?_
  refine c_reg ?_
  refine s_val rfl rfl (r_mv rfl rfl) ?_
  refine s_val rfl rfl (r_nilP rfl rfl) ?_
  refine s_val rfl rfl (r_fa rfl fo183_1 rfl) ?_
  refine sc (loadDone0_ok c 0 sm md (.func (.func 128) #[] #[.pointer (some ⟨nb, 0, none⟩)]) tx) H (lA 0 rfl (fun _ h => h) l0) rfl rfl (e_fn kn153 rfl rfl) ?_
  rintro _ _ w ⟨rfl, rfl⟩ H
  refine s_val rfl rfl (r_not rfl rfl rfl) ?_
  refine s_nil ?_
  refine q_then ?_
  refine c_env [(0, .pointer (some ⟨c, 0, none⟩)), (1, .func (.func 139) #[] #[.pointer (some ⟨pl, 0, none⟩)]), (8, .bool true)] ⟨rfl, rfl, rfl, trivial⟩ ?_
  refine c_yes rfl ?_
  refine c_reg ?_
  refine s_val rfl rfl (r_mv rfl rfl) ?_
  refine s_val rfl rfl (r_mv rfl rfl) ?_
  refine sc (doSlow_ok c pl sm md (.func (.func 128) #[] #[.pointer (some ⟨nb, 0, none⟩)]) tx (dg.dig n) [blk pl [.pointer (some ⟨c, 0, none⟩)] 164, blk nb [.int .i64 n] 2, gl] (getf_ok c pl nb n hn sm md tx)) H (lR 0 rfl (lR 1 rfl (lR 2 rfl l0))) rfl rfl (e_fn kn154 rfl rfl) ?_
  rintro _ _ w ⟨rfl, rfl⟩ H
  refine s_nil ?_
  refine q_end rfl ?_
  replace H : Hd _ _ _ [blk c [.int .u32 1, .int .i32 0, sm, .int .u32 md, .func (.func 128) #[] #[.pointer (some ⟨nb, 0, none⟩)], .string (dg.dig n)] 185] [blk pl [.pointer (some ⟨c, 0, none⟩)] 164, blk nb [.int .i64 n] 2, gl] := H
  exact fin ⟨rfl, rfl⟩ H

set_option maxHeartbeats 1000000 in
theorem doOld_ok (c pl : Nat) (m : Int) (sm : Value) (md : Int) (fv : Value) (tx : ByteArray) :
    Cn Tryz.prog 138 [.pointer (some ⟨c, 0, none⟩), .func (.func 139) #[] #[.pointer (some ⟨pl, 0, none⟩)]] [] [blk c [.int .u32 1, .int .i32 m, sm, .int .u32 md, fv, .string tx] 185] (fun v Bs => v = .tuple #[] ∧ Bs = []) := by
  intro w0 F0 H
  refine enter (args := [.pointer (some ⟨c, 0, none⟩), .func (.func 139) #[] #[.pointer (some ⟨pl, 0, none⟩)]]) Tryz.func138 rfl rfl (Nat.le_of_ble_eq_true rfl) ?_
  refine c_seq ?_
  refine c_reg ?_
  refine s_val rfl rfl (r_mv rfl rfl) ?_
  refine s_val rfl rfl (r_nilP rfl rfl) ?_
  refine s_val rfl rfl (r_fa rfl fo183_1 rfl) ?_
  refine sc (loadDone1_ok c m sm md fv tx) H (lR 0 rfl l0) rfl rfl (e_fn kn153 rfl rfl) ?_
  rintro _ _ w ⟨rfl, rfl⟩ H
  refine s_val rfl rfl (r_not rfl rfl rfl) ?_
  refine s_nil ?_
  refine q_then ?_
  refine c_env [(0, .pointer (some ⟨c, 0, none⟩)), (1, .func (.func 139) #[] #[.pointer (some ⟨pl, 0, none⟩)]), (8, .bool false)] ⟨rfl, rfl, rfl, trivial⟩ ?_
  refine c_no rfl ?_
  refine c_skip ?_
  refine q_end rfl ?_
  replace H : Hd _ _ _ [] [blk c [.int .u32 1, .int .i32 m, sm, .int .u32 md, fv, .string tx] 185] := H
  exact fin ⟨rfl, rfl⟩ H

set_option maxHeartbeats 1000000 in
theorem getNew_ok (c nb : Nat) (n : Int) (hn : In64 n) :
    Cn Tryz.prog 130 [.pointer (some ⟨c, 0, none⟩)] [blk c [.int .u32 0, .int .i32 0, .int .u32 0, .int .u32 0, .func (.func 128) #[] #[.pointer (some ⟨nb, 0, none⟩)], .string ⟨#[]⟩] 185] [blk nb [.int .i64 n] 2, gl] (fun v Bs => v = .string (dg.dig n) ∧ Bs = [blk c [.int .u32 1, .int .i32 0, .int .u32 0, .int .u32 1, .func (.func 128) #[] #[.pointer (some ⟨nb, 0, none⟩)], .string (dg.dig n)] 185]) := by
  intro w0 F0 H
  refine enter (args := [.pointer (some ⟨c, 0, none⟩)]) Tryz.func130 rfl rfl (Nat.le_of_ble_eq_true rfl) ?_
  refine c_seq ?_
  refine c_reg ?_
  refine s_box rfl rfl rfl rfl H (fun b1 w H => ?_)
  refine s_val rfl rfl (r_as rfl rfl) ?_
  refine s_nil ?_
  refine q_then ?_
  replace H : Hd _ _ _ [blk b1 [.pointer (some ⟨c, 0, none⟩)] 164, blk c [.int .u32 0, .int .i32 0, .int .u32 0, .int .u32 0, .func (.func 128) #[] #[.pointer (some ⟨nb, 0, none⟩)], .string ⟨#[]⟩] 185] [blk nb [.int .i64 n] 2, gl] := H
  refine c_env [(1, .pointer (some ⟨b1, 0, none⟩)), (2, .string ⟨#[]⟩)] ⟨rfl, rfl, trivial⟩ ?_
  refine c_seq ?_
  refine c_seq ?_
  refine c_reg ?_
  refine s_val rfl rfl (r_ld rfl ty164 rfl (H.cellI 0 rfl rfl)) ?_
  refine s_val rfl rfl (r_peq rfl un164 rfl rfl) ?_
  refine s_nil ?_
  refine q_then ?_
  refine c_env [(1, .pointer (some ⟨b1, 0, none⟩)), (2, .string ⟨#[]⟩), (4, .bool false)] ⟨rfl, rfl, rfl, trivial⟩ ?_
  refine c_no rfl ?_
  refine c_skip ?_
  refine q_then ?_
  refine c_env [(1, .pointer (some ⟨b1, 0, none⟩)), (2, .string ⟨#[]⟩)] ⟨rfl, rfl, trivial⟩ ?_
  refine c_seq ?_
  refine c_reg ?_
  refine s_val rfl rfl (r_ld rfl ty164 rfl (H.cellI 0 rfl rfl)) ?_
  refine s_val rfl rfl (r_nilP rfl rfl) ?_
  refine s_val rfl rfl (r_fa rfl fo185_1 rfl) ?_
  replace H := H.pick 1 rfl
  replace H : Hd _ _ _ [blk c [.int .u32 0, .int .i32 0, .int .u32 0, .int .u32 0, .func (.func 128) #[] #[.pointer (some ⟨nb, 0, none⟩)], .string ⟨#[]⟩] 185, blk b1 [.pointer (some ⟨c, 0, none⟩)] 164] [blk nb [.int .i64 n] 2, gl] := H
  refine sc (storeMade_ok c 0 0 (.int .u32 0) 0 (.func (.func 128) #[] #[.pointer (some ⟨nb, 0, none⟩)]) (⟨#[]⟩ : ByteArray)) H l0 rfl rfl (e_fn kn137 rfl rfl) ?_
  rintro _ _ w ⟨rfl, rfl⟩ H
  refine s_nil ?_
  refine q_then ?_
  replace H : Hd _ _ _ [blk c [.int .u32 0, .int .i32 0, .int .u32 0, .int .u32 1, .func (.func 128) #[] #[.pointer (some ⟨nb, 0, none⟩)], .string ⟨#[]⟩] 185, blk b1 [.pointer (some ⟨c, 0, none⟩)] 164] [blk nb [.int .i64 n] 2, gl] := H
  refine c_env [(1, .pointer (some ⟨b1, 0, none⟩)), (2, .string ⟨#[]⟩)] ⟨rfl, rfl, trivial⟩ ?_
  refine c_seq ?_
  refine c_reg ?_
  refine s_val rfl rfl (r_ld rfl ty164 rfl (H.cellI 1 rfl rfl)) ?_
  refine s_val rfl rfl (r_nilP rfl rfl) ?_
  refine s_val rfl rfl (r_fa rfl fo185_0 rfl) ?_
  refine s_val rfl rfl (r_fn (fs := #[]) (cs := #[.pointer (some ⟨b1, 0, none⟩)]) rfl rfl rfl) ?_
  refine sc (doNew_ok c b1 nb n hn (.int .u32 0) 1 ⟨#[]⟩) H (lA 0 rfl (fun _ h => h) (lR 0 rfl (lR 1 rfl l0))) rfl rfl (e_fn kn138 rfl rfl) ?_
  rintro _ _ w ⟨rfl, rfl⟩ H
  refine s_nil ?_
  refine q_then ?_
  replace H : Hd _ _ _ [blk c [.int .u32 1, .int .i32 0, .int .u32 0, .int .u32 1, .func (.func 128) #[] #[.pointer (some ⟨nb, 0, none⟩)], .string (dg.dig n)] 185, blk b1 [.pointer (some ⟨c, 0, none⟩)] 164] [blk nb [.int .i64 n] 2, gl] := H
  refine c_env [(1, .pointer (some ⟨b1, 0, none⟩)), (2, .string ⟨#[]⟩)] ⟨rfl, rfl, trivial⟩ ?_
  refine c_seq ?_
  refine c_reg ?_
  refine s_val rfl rfl (r_ld rfl ty164 rfl (H.cellI 1 rfl rfl)) ?_
  refine s_val rfl rfl (r_nilP rfl rfl) ?_
  refine s_val rfl rfl (r_fa rfl fo185_3 rfl) ?_
  refine s_val rfl rfl (r_ld rfl ty9 rfl (H.cellI 0 rfl rfl)) ?_
  refine s_val rfl rfl (r_as rfl rfl) ?_
  refine s_nil ?_
  refine q_then ?_
  refine c_env [(2, .string (dg.dig n))] ⟨rfl, trivial⟩ ?_
  refine c_ret ?_
  refine q_ret1 rfl rfl ?_
  replace H := H.keep 1
  replace H : Hd _ _ _ [blk c [.int .u32 1, .int .i32 0, .int .u32 0, .int .u32 1, .func (.func 128) #[] #[.pointer (some ⟨nb, 0, none⟩)], .string (dg.dig n)] 185] [blk nb [.int .i64 n] 2, gl] := H
  exact fin ⟨rfl, rfl⟩ H

set_option maxHeartbeats 1000000 in
theorem getOld_ok (c : Nat) (fv : Value) (tx : ByteArray) :
    Cn Tryz.prog 130 [.pointer (some ⟨c, 0, none⟩)] [blk c [.int .u32 1, .int .i32 0, .int .u32 0, .int .u32 1, fv, .string tx] 185] [] (fun v Bs => v = .string tx ∧ Bs = [blk c [.int .u32 1, .int .i32 0, .int .u32 0, .int .u32 1, fv, .string tx] 185]) := by
  intro w0 F0 H
  refine enter (args := [.pointer (some ⟨c, 0, none⟩)]) Tryz.func130 rfl rfl (Nat.le_of_ble_eq_true rfl) ?_
  refine c_seq ?_
  refine c_reg ?_
  refine s_box rfl rfl rfl rfl H (fun b1 w H => ?_)
  refine s_val rfl rfl (r_as rfl rfl) ?_
  refine s_nil ?_
  refine q_then ?_
  replace H : Hd _ _ _ [blk b1 [.pointer (some ⟨c, 0, none⟩)] 164, blk c [.int .u32 1, .int .i32 0, .int .u32 0, .int .u32 1, fv, .string tx] 185] [] := H
  refine c_env [(1, .pointer (some ⟨b1, 0, none⟩)), (2, .string ⟨#[]⟩)] ⟨rfl, rfl, trivial⟩ ?_
  refine c_seq ?_
  refine c_seq ?_
  refine c_reg ?_
  refine s_val rfl rfl (r_ld rfl ty164 rfl (H.cellI 0 rfl rfl)) ?_
  refine s_val rfl rfl (r_peq rfl un164 rfl rfl) ?_
  refine s_nil ?_
  refine q_then ?_
  refine c_env [(1, .pointer (some ⟨b1, 0, none⟩)), (2, .string ⟨#[]⟩), (4, .bool false)] ⟨rfl, rfl, rfl, trivial⟩ ?_
  refine c_no rfl ?_
  refine c_skip ?_
  refine q_then ?_
  refine c_env [(1, .pointer (some ⟨b1, 0, none⟩)), (2, .string ⟨#[]⟩)] ⟨rfl, rfl, trivial⟩ ?_
  refine c_seq ?_
  refine c_reg ?_
  refine s_val rfl rfl (r_ld rfl ty164 rfl (H.cellI 0 rfl rfl)) ?_
  refine s_val rfl rfl (r_nilP rfl rfl) ?_
  refine s_val rfl rfl (r_fa rfl fo185_1 rfl) ?_
  replace H := H.pick 1 rfl
  replace H : Hd _ _ _ [blk c [.int .u32 1, .int .i32 0, .int .u32 0, .int .u32 1, fv, .string tx] 185, blk b1 [.pointer (some ⟨c, 0, none⟩)] 164] [] := H
  refine sc (storeMade_ok c 1 0 (.int .u32 0) 1 fv tx) H l0 rfl rfl (e_fn kn137 rfl rfl) ?_
  rintro _ _ w ⟨rfl, rfl⟩ H
  refine s_nil ?_
  refine q_then ?_
  replace H : Hd _ _ _ [blk c [.int .u32 1, .int .i32 0, .int .u32 0, .int .u32 1, fv, .string tx] 185, blk b1 [.pointer (some ⟨c, 0, none⟩)] 164] [] := H
  refine c_env [(1, .pointer (some ⟨b1, 0, none⟩)), (2, .string ⟨#[]⟩)] ⟨rfl, rfl, trivial⟩ ?_
  refine c_seq ?_
  refine c_reg ?_
  refine s_val rfl rfl (r_ld rfl ty164 rfl (H.cellI 1 rfl rfl)) ?_
  refine s_val rfl rfl (r_nilP rfl rfl) ?_
  refine s_val rfl rfl (r_fa rfl fo185_0 rfl) ?_
  refine s_val rfl rfl (r_fn (fs := #[]) (cs := #[.pointer (some ⟨b1, 0, none⟩)]) rfl rfl rfl) ?_
  refine sc (doOld_ok c b1 0 (.int .u32 0) 1 fv tx) H (lA 0 rfl (fun _ h => h) l0) rfl rfl (e_fn kn138 rfl rfl) ?_
  rintro _ _ w ⟨rfl, rfl⟩ H
  refine s_nil ?_
  refine q_then ?_
  replace H : Hd _ _ _ [blk c [.int .u32 1, .int .i32 0, .int .u32 0, .int .u32 1, fv, .string tx] 185, blk b1 [.pointer (some ⟨c, 0, none⟩)] 164] [] := H
  refine c_env [(1, .pointer (some ⟨b1, 0, none⟩)), (2, .string ⟨#[]⟩)] ⟨rfl, rfl, trivial⟩ ?_
  refine c_seq ?_
  refine c_reg ?_
  refine s_val rfl rfl (r_ld rfl ty164 rfl (H.cellI 1 rfl rfl)) ?_
  refine s_val rfl rfl (r_nilP rfl rfl) ?_
  refine s_val rfl rfl (r_fa rfl fo185_3 rfl) ?_
  refine s_val rfl rfl (r_ld rfl ty9 rfl (H.cellI 0 rfl rfl)) ?_
  refine s_val rfl rfl (r_as rfl rfl) ?_
  refine s_nil ?_
  refine q_then ?_
  refine c_env [(2, .string tx)] ⟨rfl, trivial⟩ ?_
  refine c_ret ?_
  refine q_ret1 rfl rfl ?_
  replace H := H.keep 1
  replace H : Hd _ _ _ [blk c [.int .u32 1, .int .i32 0, .int .u32 0, .int .u32 1, fv, .string tx] 185] [] := H
  exact fin ⟨rfl, rfl⟩ H

set_option maxHeartbeats 1000000 in
theorem lazyNew_ok (nb : Nat) :
    Cn Tryz.prog 127 [.func (.func 128) #[] #[.pointer (some ⟨nb, 0, none⟩)]] [] [] (fun v Bs => ∃ b, v = .pointer (some ⟨b, 0, none⟩) ∧ Bs = [blk b [.int .u32 0, .int .i32 0, .int .u32 0, .int .u32 0, .func (.func 128) #[] #[.pointer (some ⟨nb, 0, none⟩)], .string ⟨#[]⟩] 185]) := by
  intro w0 F0 H
  refine enter (args := [.func (.func 128) #[] #[.pointer (some ⟨nb, 0, none⟩)]]) Tryz.func127 rfl rfl (Nat.le_of_ble_eq_true rfl) ?_
  refine c_seq ?_
  refine c_reg ?_
  refine s_val rfl rfl (r_as rfl rfl) ?_
  refine s_nil ?_
  refine q_then ?_
  refine c_env [(0, .func (.func 128) #[] #[.pointer (some ⟨nb, 0, none⟩)]), (2, .pointer none)] ⟨rfl, rfl, trivial⟩ ?_
  refine c_seq ?_
  refine c_reg ?_
  refine s_val rfl rfl (r_mv rfl rfl) ?_
  refine s_val rfl rfl (r_bd (parts := [(2, .tmp 3)]) (vs := [.func (.func 128) #[] #[.pointer (some ⟨nb, 0, none⟩)]]) (cs := [.int .u32 0, .int .i32 0, .int .u32 0, .int .u32 0, .func (.func 128) #[] #[.pointer (some ⟨nb, 0, none⟩)], .string ⟨#[]⟩]) rfl bd185 rfl rfl) ?_
  refine s_box rfl rfl rfl rfl H (fun b1 w H => ?_)
  refine s_val rfl rfl (r_as rfl rfl) ?_
  refine s_nil ?_
  refine q_then ?_
  replace H : Hd _ _ _ [blk b1 [.int .u32 0, .int .i32 0, .int .u32 0, .int .u32 0, .func (.func 128) #[] #[.pointer (some ⟨nb, 0, none⟩)], .string ⟨#[]⟩] 185] [] := H
  refine c_env [(2, .pointer (some ⟨b1, 0, none⟩))] ⟨rfl, trivial⟩ ?_
  refine c_ret ?_
  refine q_ret1 rfl rfl ?_
  replace H : Hd _ _ _ [blk b1 [.int .u32 0, .int .i32 0, .int .u32 0, .int .u32 0, .func (.func 128) #[] #[.pointer (some ⟨nb, 0, none⟩)], .string ⟨#[]⟩] 185] [] := H
  exact fin ⟨_, rfl, rfl⟩ H

set_option maxHeartbeats 1000000 in
theorem text_ok (r : Nat) (pv : Value) (key : ByteArray) (vv : Value) (fuel pos steps : Int) (halted : Bool) (sv : Value) (g : Nat → Val) (tv : Value) (mb : Nat) (n : Int) (hn : In64 n) :
    Cn Tryz.prog 113 [.pointer (some ⟨r, 0, none⟩), .int .i64 n] [digsP mb] [blk r (runC pv key vv fuel pos steps halted sv g tv (.map (some mb))) 108, gl] (fun v Bs => v = .string (dg.dig n) ∧ Bs = [digsP mb]) := by
  intro w0 F0 H
  obtain ⟨kvs, H⟩ := digs_open H
  refine enter (args := [.pointer (some ⟨r, 0, none⟩), .int .i64 n]) Tryz.func113 rfl rfl (Nat.le_of_ble_eq_true rfl) ?_
  refine c_seq ?_
  refine c_reg ?_
  refine s_box rfl rfl rfl rfl H (fun b1 w H => ?_)
  refine s_val rfl rfl (r_as rfl rfl) ?_
  refine s_nil ?_
  refine q_then ?_
  replace H : Hd _ _ _ [blk b1 [.int .i64 n] 2, mapI mb (kvs.map ptrOf), cellsS 185 kvs] [blk r (runC pv key vv fuel pos steps halted sv g tv (.map (some mb))) 108, gl] := H
  refine c_env [(0, .pointer (some ⟨r, 0, none⟩)), (3, .pointer (some ⟨b1, 0, none⟩)), (4, .string ⟨#[]⟩)] ⟨rfl, rfl, rfl, trivial⟩ ?_
  refine c_seq ?_
  refine c_seq ?_
  by_cases hno : alook n (kvs.map ptrOf) = none
  · skip
    refine c_draw mo (by kernel_rfl) H ?_
    refine u_val rfl rfl (fun w H => r_mv rfl rfl) ?_
    refine u_val rfl rfl (fun w H => r_nilP rfl rfl) ?_
    refine u_val rfl rfl (fun w H => r_fa rfl fo108_10 rfl) ?_
    refine u_val rfl rfl (fun w H => r_ld rfl ty106 rfl (H.cellRI 0 rfl rfl)) ?_
    refine u_val rfl rfl (fun w H => r_ld rfl ty2 rfl (H.cellI 0 rfl rfl)) ?_
    refine u_val rfl rfl (fun w H => r_look1 rfl un106 un2 zr164 rfl rfl H 1 rfl (by rw [hno] <;> rfl)) ?_
    refine u_val rfl rfl (fun w H => r_peq rfl un164 rfl rfl) ?_
    refine u_end (fun w H => ?_)
    refine q_then ?_
    refine c_env [(0, .pointer (some ⟨r, 0, none⟩)), (3, .pointer (some ⟨b1, 0, none⟩)), (4, .string ⟨#[]⟩), (11, .bool true)] ⟨rfl, rfl, rfl, rfl, trivial⟩ ?_
    refine c_yes rfl ?_
    replace H := H.pick 2 rfl
    replace H := H.pick 1 rfl
    replace H : Hd _ _ _ [blk b1 [.int .i64 n] 2, cellsS 185 kvs, mapI mb (kvs.map ptrOf)] [blk r (runC pv key vv fuel pos steps halted sv g tv (.map (some mb))) 108, gl] := H
    refine c_ord (.e 0 (.e 1 (.e 2 (.e 3 (.e 4 (.e 5 (.m 6 (.m 7 .z)))))))) (fun w => ∃ Ar, Hd w0 F0 w (blk b1 [.int .i64 n] 2 :: cellsS 185 kvs :: Ar) [blk r (runC pv key vv fuel pos steps halted sv g tv (.map (some mb))) 108, gl]) mo (by kernel_rfl) (fun w H => ⟨_, H⟩) H (fun w H => ?_)
    refine d_val rfl rfl rfl (fun w ⟨Ar, H⟩ => r_mv rfl rfl) ?_
    refine d_val rfl rfl rfl (fun w ⟨Ar, H⟩ => r_nilP rfl rfl) ?_
    refine d_val rfl rfl rfl (fun w ⟨Ar, H⟩ => r_fa rfl fo108_10 rfl) ?_
    refine d_val rfl rfl rfl (fun w ⟨Ar, H⟩ => r_ld rfl ty106 rfl (H.cellRI 0 rfl rfl)) ?_
    refine d_val rfl rfl rfl (fun w ⟨Ar, H⟩ => r_ld rfl ty2 rfl (H.cellI 0 rfl rfl)) ?_
    refine d_val rfl rfl rfl (fun w ⟨Ar, H⟩ => r_fn (fs := #[]) (cs := #[.pointer (some ⟨b1, 0, none⟩)]) rfl rfl rfl) ?_
    refine d_main rfl ?_
    refine sc (lazyNew_ok b1) H l0 rfl rfl (e_fn kn127 rfl rfl) ?_
    rintro _ _ w ⟨b2, rfl, rfl⟩ H
    replace H := H.pick 2 rfl
    replace H := H.pick 2 rfl
    replace H : Hd _ _ _ [blk b1 [.int .i64 n] 2, cellsS 185 kvs, blk b2 [.int .u32 0, .int .i32 0, .int .u32 0, .int .u32 0, .func (.func 128) #[] #[.pointer (some ⟨b1, 0, none⟩)], .string ⟨#[]⟩] 185, mapI mb (kvs.map ptrOf)] [blk r (runC pv key vv fuel pos steps halted sv g tv (.map (some mb))) 108, gl] := H
    refine d_back ⟨_, H⟩ ?_
    refine d_main rfl ?_
    replace H := H.pick 3 rfl
    replace H : Hd _ _ _ [mapI mb (kvs.map ptrOf), blk b1 [.int .i64 n] 2, cellsS 185 kvs, blk b2 [.int .u32 0, .int .i32 0, .int .u32 0, .int .u32 0, .func (.func 128) #[] #[.pointer (some ⟨b1, 0, none⟩)], .string ⟨#[]⟩] 185] [blk r (runC pv key vv fuel pos steps halted sv g tv (.map (some mb))) 108, gl] := H
    refine s_mset rfl rfl rfl un106 un2 rfl rfl rfl hno H (fun w H => ?_)
    replace H : Hd _ _ _ [mapI mb (kvs.map ptrOf ++ [(n, .pointer (some ⟨b2, 0, none⟩))]), blk b1 [.int .i64 n] 2, cellsS 185 kvs, blk b2 [.int .u32 0, .int .i32 0, .int .u32 0, .int .u32 0, .func (.func 128) #[] #[.pointer (some ⟨b1, 0, none⟩)], .string ⟨#[]⟩] 185] [blk r (runC pv key vv fuel pos steps halted sv g tv (.map (some mb))) 108, gl] := H
    replace H := H.pick 2 rfl
    replace H := H.pick 2 rfl
    replace H : Hd _ _ _ [blk b1 [.int .i64 n] 2, cellsS 185 kvs, mapI mb (kvs.map ptrOf ++ [(n, .pointer (some ⟨b2, 0, none⟩))]), blk b2 [.int .u32 0, .int .i32 0, .int .u32 0, .int .u32 0, .func (.func 128) #[] #[.pointer (some ⟨b1, 0, none⟩)], .string ⟨#[]⟩] 185] [blk r (runC pv key vv fuel pos steps halted sv g tv (.map (some mb))) 108, gl] := H
    refine d_back ⟨_, H⟩ ?_
    refine d_nil ?_
    refine q_then ?_
    refine c_env [(0, .pointer (some ⟨r, 0, none⟩)), (3, .pointer (some ⟨b1, 0, none⟩)), (4, .string ⟨#[]⟩)] ⟨rfl, rfl, rfl, trivial⟩ ?_
    refine c_seq ?_
    replace H := H.pick 2 rfl
    replace H := H.pick 2 rfl
    replace H := H.pick 2 rfl
    replace H : Hd _ _ _ [blk b1 [.int .i64 n] 2, cellsS 185 kvs, mapI mb (kvs.map ptrOf ++ [(n, .pointer (some ⟨b2, 0, none⟩))]), blk b2 [.int .u32 0, .int .i32 0, .int .u32 0, .int .u32 0, .func (.func 128) #[] #[.pointer (some ⟨b1, 0, none⟩)], .string ⟨#[]⟩] 185] [blk r (runC pv key vv fuel pos steps halted sv g tv (.map (some mb))) 108, gl] := H
    refine c_ord (.e 0 (.e 1 (.e 2 (.e 3 (.e 4 (.e 5 (.m 6 (.e 7 .z)))))))) (fun w => ∃ Ar, Hd w0 F0 w (blk b1 [.int .i64 n] 2 :: cellsS 185 kvs :: mapI mb (kvs.map ptrOf ++ [(n, .pointer (some ⟨b2, 0, none⟩))]) :: Ar) [blk r (runC pv key vv fuel pos steps halted sv g tv (.map (some mb))) 108, gl]) mo (by kernel_rfl) (fun w H => ⟨_, H⟩) H (fun w H => ?_)
    refine d_val rfl rfl rfl (fun w ⟨Ar, H⟩ => r_mv rfl rfl) ?_
    refine d_val rfl rfl rfl (fun w ⟨Ar, H⟩ => r_nilP rfl rfl) ?_
    refine d_val rfl rfl rfl (fun w ⟨Ar, H⟩ => r_fa rfl fo108_10 rfl) ?_
    refine d_val rfl rfl rfl (fun w ⟨Ar, H⟩ => r_ld rfl ty106 rfl (H.cellRI 0 rfl rfl)) ?_
    refine d_val rfl rfl rfl (fun w ⟨Ar, H⟩ => r_ld rfl ty2 rfl (H.cellI 0 rfl rfl)) ?_
    refine d_val rfl rfl rfl (fun w ⟨Ar, H⟩ => r_look1 rfl un106 un2 zr164 rfl rfl H 2 rfl (by rw [alook_snoc hno] <;> rfl)) ?_
    refine d_main rfl ?_
    replace H := H.pick 3 rfl
    replace H : Hd _ _ _ [blk b2 [.int .u32 0, .int .i32 0, .int .u32 0, .int .u32 0, .func (.func 128) #[] #[.pointer (some ⟨b1, 0, none⟩)], .string ⟨#[]⟩] 185, blk b1 [.int .i64 n] 2, cellsS 185 kvs, mapI mb (kvs.map ptrOf ++ [(n, .pointer (some ⟨b2, 0, none⟩))])] [blk r (runC pv key vv fuel pos steps halted sv g tv (.map (some mb))) 108, gl] := H
    refine sc (getNew_ok b2 b1 n hn) H (lA 0 rfl (fun _ h => h) (lR 1 rfl l0)) rfl rfl (e_fn kn130 rfl rfl) ?_
    rintro _ _ w ⟨rfl, rfl⟩ H
    replace H := H.pick 3 rfl
    replace H := H.pick 3 rfl
    replace H := H.pick 3 rfl
    replace H : Hd _ _ _ [blk b1 [.int .i64 n] 2, cellsS 185 kvs, mapI mb (kvs.map ptrOf ++ [(n, .pointer (some ⟨b2, 0, none⟩))]), blk b2 [.int .u32 1, .int .i32 0, .int .u32 0, .int .u32 1, .func (.func 128) #[] #[.pointer (some ⟨b1, 0, none⟩)], .string (dg.dig n)] 185] [blk r (runC pv key vv fuel pos steps halted sv g tv (.map (some mb))) 108, gl] := H
    refine d_back ⟨_, H⟩ ?_
    refine d_val rfl rfl rfl (fun w ⟨Ar, H⟩ => r_as rfl rfl) ?_
    refine d_nil ?_
    refine q_then ?_
    refine c_env [(4, .string (dg.dig n))] ⟨rfl, trivial⟩ ?_
    refine c_ret ?_
    refine q_ret1 rfl rfl ?_
    replace H := H.pick 2 rfl
    replace H := H.pick 2 rfl
    replace H := H.pick 3 rfl
    replace H := H.keep 3
    replace H : Hd _ _ _ [blk b2 [.int .u32 1, .int .i32 0, .int .u32 0, .int .u32 1, .func (.func 128) #[] #[.pointer (some ⟨b1, 0, none⟩)], .string (dg.dig n)] 185, cellsS 185 kvs, mapI mb (kvs.map ptrOf ++ [(n, .pointer (some ⟨b2, 0, none⟩))])] [blk r (runC pv key vv fuel pos steps halted sv g tv (.map (some mb))) 108, gl] := H
    replace H := cells_put (n := n) (H.ex_in (A := fun f : Value => blk b2 [.int .u32 1, .int .i32 0, .int .u32 0, .int .u32 1, f, .string (digS n)] 185) (.func (.func 128) #[] #[.pointer (some ⟨b1, 0, none⟩)]))
    replace H := H.perm (List.Perm.swap _ _ _)
    rw [← map_snoc] at H
    replace H := digs_shut _ H
    replace H : Hd _ _ _ [digsP mb] [blk r (runC pv key vv fuel pos steps halted sv g tv (.map (some mb))) 108, gl] := H
    exact fin ⟨rfl, rfl⟩ H
  · skip
    refine c_draw mo (by kernel_rfl) H ?_
    refine u_val rfl rfl (fun w H => r_mv rfl rfl) ?_
    refine u_val rfl rfl (fun w H => r_nilP rfl rfl) ?_
    refine u_val rfl rfl (fun w H => r_fa rfl fo108_10 rfl) ?_
    refine u_val rfl rfl (fun w H => r_ld rfl ty106 rfl (H.cellRI 0 rfl rfl)) ?_
    refine u_val rfl rfl (fun w H => r_ld rfl ty2 rfl (H.cellI 0 rfl rfl)) ?_
    obtain ⟨v0, hv0⟩ := Option.ne_none_iff_exists'.1 hno
    obtain ⟨c, rfl, hmem⟩ := alook_ptr hv0
    refine u_val rfl rfl (fun w H => r_look1 rfl un106 un2 zr164 rfl rfl H 1 rfl (by rw [hv0] <;> rfl)) ?_
    refine u_val rfl rfl (fun w H => r_peq rfl un164 rfl rfl) ?_
    refine u_end (fun w H => ?_)
    refine q_then ?_
    refine c_env [(0, .pointer (some ⟨r, 0, none⟩)), (3, .pointer (some ⟨b1, 0, none⟩)), (4, .string ⟨#[]⟩), (11, .bool false)] ⟨rfl, rfl, rfl, rfl, trivial⟩ ?_
    refine c_no rfl ?_
    refine c_skip ?_
    refine q_then ?_
    refine c_env [(0, .pointer (some ⟨r, 0, none⟩)), (3, .pointer (some ⟨b1, 0, none⟩)), (4, .string ⟨#[]⟩)] ⟨rfl, rfl, rfl, trivial⟩ ?_
    refine c_seq ?_
    replace H := H.pick 2 rfl
    replace H := H.pick 2 rfl
    replace H := H.pick 2 rfl
    replace H : Hd _ _ _ [blk b1 [.int .i64 n] 2, mapI mb (kvs.map ptrOf), cellsS 185 kvs] [blk r (runC pv key vv fuel pos steps halted sv g tv (.map (some mb))) 108, gl] := H
    refine c_ord (.e 0 (.e 1 (.e 2 (.e 3 (.e 4 (.e 5 (.m 6 (.e 7 .z)))))))) (fun w => ∃ Ar, Hd w0 F0 w (blk b1 [.int .i64 n] 2 :: mapI mb (kvs.map ptrOf) :: cellsS 185 kvs :: Ar) [blk r (runC pv key vv fuel pos steps halted sv g tv (.map (some mb))) 108, gl]) mo (by kernel_rfl) (fun w H => ⟨_, H⟩) H (fun w H => ?_)
    refine d_val rfl rfl rfl (fun w ⟨Ar, H⟩ => r_mv rfl rfl) ?_
    refine d_val rfl rfl rfl (fun w ⟨Ar, H⟩ => r_nilP rfl rfl) ?_
    refine d_val rfl rfl rfl (fun w ⟨Ar, H⟩ => r_fa rfl fo108_10 rfl) ?_
    refine d_val rfl rfl rfl (fun w ⟨Ar, H⟩ => r_ld rfl ty106 rfl (H.cellRI 0 rfl rfl)) ?_
    refine d_val rfl rfl rfl (fun w ⟨Ar, H⟩ => r_ld rfl ty2 rfl (H.cellI 0 rfl rfl)) ?_
    refine d_val rfl rfl rfl (fun w ⟨Ar, H⟩ => r_look1 rfl un106 un2 zr164 rfl rfl H 1 rfl (by rw [hv0] <;> rfl)) ?_
    refine d_main rfl ?_
    replace H := H.pick 2 rfl
    replace H : Hd _ _ _ [cellsS 185 kvs, blk b1 [.int .i64 n] 2, mapI mb (kvs.map ptrOf)] [blk r (runC pv key vv fuel pos steps halted sv g tv (.map (some mb))) 108, gl] := H
    obtain ⟨rest, H, hback⟩ := cells_take hmem H
    obtain ⟨f0, H⟩ := H.ex_out
    refine sc (getOld_ok c f0 (digS n)) H l0 rfl rfl (e_fn kn130 rfl rfl) ?_
    rintro _ _ w ⟨rfl, rfl⟩ H
    replace H := hback (H.ex_in (A := fun f : Value => blk c [.int .u32 1, .int .i32 0, .int .u32 0, .int .u32 1, f, .string (digS n)] 185) f0)
    replace H := H.pick 2 rfl
    replace H := H.pick 2 rfl
    replace H : Hd _ _ _ [blk b1 [.int .i64 n] 2, mapI mb (kvs.map ptrOf), cellsS 185 kvs] [blk r (runC pv key vv fuel pos steps halted sv g tv (.map (some mb))) 108, gl] := H
    refine d_back ⟨_, H⟩ ?_
    refine d_val rfl rfl rfl (fun w ⟨Ar, H⟩ => r_as rfl rfl) ?_
    refine d_nil ?_
    refine q_then ?_
    refine c_env [(4, .string (dg.dig n))] ⟨rfl, trivial⟩ ?_
    refine c_ret ?_
    refine q_ret1 rfl rfl ?_
    replace H := H.pick 2 rfl
    replace H := H.pick 2 rfl
    replace H := H.keep 2
    replace H : Hd _ _ _ [mapI mb (kvs.map ptrOf), cellsS 185 kvs] [blk r (runC pv key vv fuel pos steps halted sv g tv (.map (some mb))) 108, gl] := H
    replace H := digs_shut _ H
    replace H : Hd _ _ _ [digsP mb] [blk r (runC pv key vv fuel pos steps halted sv g tv (.map (some mb))) 108, gl] := H
    exact fin ⟨rfl, rfl⟩ H

end Go.Proofs.YtlpgdkbokakniaaGreatDoor.X
