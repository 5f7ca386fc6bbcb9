/- MapperPushes: texts O1, O2, V5, P1, V6, V7, joined by a program of ours; what nothing names is left out. -/
import Derived.Test.YthgehekecfpikaaGreatDoorMapperPushesQ2
import Derived.Tactics2
import Derived.Laws.Pointers
import Derived.RegionTactic
import Derived.RegionCalls
import Derived.ChangeAlike
set_option linter.unusedVariables false
set_option linter.unusedSimpArgs false
namespace Go.Proofs.YthgehekecfpikaaGreatDoor.X
open Go
set_option maxHeartbeats 1000000 in
theorem b32_ok (b : Bool) :
    Cn Tryz.prog 187 [.bool b] [] [] (fun v Bs => v = .int .u32 (if b = true then 1 else 0) ∧ Bs = []) := by
 intro w0 F0 H
 refine enter Tryz.func187 rfl rfl (Nat.le_of_ble_eq_true rfl) (c_seq (c_reg (s_1 rfl (s_nil (q_then (c_seq (c_seq (c_reg (s_1 rfl (s_nil (q_then ?_)))))))))))
 refine c_cond (b := b) rfl (fun h1 => ?_) (fun h1 => ?_)
 ·exact c_seq (c_reg (s_1 rfl (s_nil (q_then (c_ret (q_thenR (q_ret1 rfl rfl (fin ⟨by simp [h1], rfl⟩ H))))))))
 ·exact c_skip (q_then (c_seq (c_reg (s_1 rfl (s_nil (q_then (c_ret (q_ret1 rfl rfl (fin ⟨by simp [h1], rfl⟩ H)))))))))
set_option maxHeartbeats 1000000 in
theorem storeMade_ok (c : Nat) (d m : Int) (sm : Value) (md : Int) (fv : Value) (tx : ByteArray) :
    Cn Tryz.prog 142 [.pointer (some ⟨c, 3, none⟩), .bool true] [blk c [.int .u32 d, .int .i32 m, sm, .int .u32 md, fv, .string tx] 234] [] (fun v Bs => v = .tuple #[] ∧ Bs = [blk c [.int .u32 d, .int .i32 m, sm, .int .u32 1, fv, .string tx] 234]) := by
 intro w0 F0 H
 refine enter Tryz.func142 rfl rfl (Nat.le_of_ble_eq_true rfl) (c_ord (.e 0 (.e 1 (.e 2 (.e 3 (.m 4 (.m 5 .z)))))) (fun w => ∃ Ar, Hd w0 F0 w (Ar) []) mo (by kernel_rfl) (fun w H => ⟨_, H⟩) H (fun w H => (d_1 rfl (d_val rfl rfl rfl (fun w ⟨Ar, H⟩ => r_nilP rfl rfl) (d_val rfl rfl rfl (fun w ⟨Ar, H⟩ => r_fa rfl fo208_1 rfl) (d_1 rfl (d_main rfl (sc (b32_ok true) H l0 rfl rfl (e_fn kn187 rfl rfl) ?_))))))))
 rintro _ _ w ⟨rfl, rfl⟩ H
 refine d_back ⟨_, H⟩ (d_main rfl (s_astore ex186 rfl rfl rfl rfl H rfl (fun w H => ?_)))
 replace H : Hd _ _ _ [blk c [.int .u32 d, .int .i32 m, sm, .int .u32 1, fv, .string tx] 234] [] := H
 exact d_back ⟨_, H⟩ (d_nil (q_end rfl (fin ⟨rfl, rfl⟩ H)))
set_option maxHeartbeats 1000000 in
theorem storeDone_ok (c : Nat) (d m : Int) (sm : Value) (md : Int) (fv : Value) (tx : ByteArray) :
    CnD Tryz.prog 142 [.pointer (some ⟨c, 0, none⟩), .bool true] [blk c [.int .u32 d, .int .i32 m, sm, .int .u32 md, fv, .string tx] 234] [] (fun v Bs => v = .tuple #[] ∧ Bs = [blk c [.int .u32 1, .int .i32 m, sm, .int .u32 md, fv, .string tx] 234]) := by
 intro w0 F0 ufm H
 refine enterD Tryz.func142 rfl rfl (Nat.le_of_ble_eq_true rfl) (c_ord (.e 0 (.e 1 (.e 2 (.e 3 (.m 4 (.m 5 .z)))))) (fun w => ∃ Ar, Hd w0 F0 w (Ar) []) mo (by kernel_rfl) (fun w H => ⟨_, H⟩) H (fun w H => (d_1 rfl (d_val rfl rfl rfl (fun w ⟨Ar, H⟩ => r_nilP rfl rfl) (d_val rfl rfl rfl (fun w ⟨Ar, H⟩ => r_fa rfl fo208_1 rfl) (d_1 rfl (d_main rfl (sc (b32_ok true) H l0 rfl rfl (e_fn kn187 rfl rfl) ?_))))))))
 rintro _ _ w ⟨rfl, rfl⟩ H
 refine d_back ⟨_, H⟩ (d_main rfl (s_astore ex186 rfl rfl rfl rfl H rfl (fun w H => ?_)))
 replace H : Hd _ _ _ [blk c [.int .u32 1, .int .i32 m, sm, .int .u32 md, fv, .string tx] 234] [] := H
 exact d_back ⟨_, H⟩ (d_nil (q_end rfl (fin ⟨rfl, rfl⟩ H)))
set_option maxHeartbeats 1000000 in
theorem loadDone0_ok (c : Nat) (m : Int) (sm : Value) (md : Int) (fv : Value) (tx : ByteArray) :
    Cn Tryz.prog 144 [.pointer (some ⟨c, 0, none⟩)] [] [blk c [.int .u32 0, .int .i32 m, sm, .int .u32 md, fv, .string tx] 234] (fun v Bs => v = .bool false ∧ Bs = []) := by
 intro w0 F0 H
 refine enter Tryz.func144 rfl rfl (Nat.le_of_ble_eq_true rfl) (c_seq (c_reg (s_1 rfl (s_nil (q_then (c_seq (c_reg (s_1 rfl (s_val rfl rfl (r_nilP rfl rfl) (s_val rfl rfl (r_fa rfl fo208_1 rfl) (s_val rfl rfl (r_aload ex188 rfl rfl (H.cellRI 0 rfl rfl)) (s_val rfl rfl (r_ne rfl rfl rfl) (s_1 rfl (s_nil (q_then (c_ret (q_ret1 rfl rfl ?_)))))))))))))))))
 replace H : Hd _ _ _ [] [blk c [.int .u32 0, .int .i32 m, sm, .int .u32 md, fv, .string tx] 234] := H
 exact fin ⟨rfl, rfl⟩ H
set_option maxHeartbeats 1000000 in
theorem loadDone1_ok (c : Nat) (m : Int) (sm : Value) (md : Int) (fv : Value) (tx : ByteArray) :
    Cn Tryz.prog 144 [.pointer (some ⟨c, 0, none⟩)] [] [blk c [.int .u32 1, .int .i32 m, sm, .int .u32 md, fv, .string tx] 234] (fun v Bs => v = .bool true ∧ Bs = []) := by
 intro w0 F0 H
 refine enter Tryz.func144 rfl rfl (Nat.le_of_ble_eq_true rfl) (c_seq (c_reg (s_1 rfl (s_nil (q_then (c_seq (c_reg (s_1 rfl (s_val rfl rfl (r_nilP rfl rfl) (s_val rfl rfl (r_fa rfl fo208_1 rfl) (s_val rfl rfl (r_aload ex188 rfl rfl (H.cellRI 0 rfl rfl)) (s_val rfl rfl (r_ne rfl rfl rfl) (s_1 rfl (s_nil (q_then (c_ret (q_ret1 rfl rfl ?_)))))))))))))))))
 replace H : Hd _ _ _ [] [blk c [.int .u32 1, .int .i32 m, sm, .int .u32 md, fv, .string tx] 234] := H
 exact fin ⟨rfl, rfl⟩ H
set_option maxHeartbeats 1000000 in
theorem ilock_ok (c : Nat) (d : Int) (sm : Value) (md : Int) (fv : Value) (tx : ByteArray) :
    Cn Tryz.prog 262 [.pointer (some ⟨c, 1, none⟩)] [blk c [.int .u32 d, .int .i32 0, sm, .int .u32 md, fv, .string tx] 234] [] (fun v Bs => v = .tuple #[] ∧ Bs = [blk c [.int .u32 d, .int .i32 1, sm, .int .u32 md, fv, .string tx] 234]) := by
 intro w0 F0 H
 refine enter Tryz.func262 rfl rfl (Nat.le_of_ble_eq_true rfl) (c_seq (c_reg (s_val rfl rfl (r_mark0 ex294 rfl rfl) (s_nil (q_then (c_seq (c_seq (c_reg (s_1 rfl (s_val rfl rfl (r_nilP rfl rfl) (s_val rfl rfl (r_fa rfl fo228_0 rfl) (s_acas ex295 rfl rfl rfl rfl H rfl (fun w H => ?_)))))))))))))
 replace H : Hd _ _ _ [blk c [.int .u32 d, .int .i32 1, sm, .int .u32 md, fv, .string tx] 234] [] := H
 exact s_nil (q_then (c_yes rfl (c_seq (c_yes rfl (c_seq (c_reg (s_val rfl rfl (r_mark0 ex296 rfl rfl) (s_nil (q_then (c_reg (s_1 rfl (s_val rfl rfl (r_unsafe rfl un362 up366 nz228 rfl (H.cellI 0 rfl rfl)) (s_val rfl rfl (r_marked ex297 rfl rfl) (s_nil (q_then (c_ret (q_thenR (q_ret0 rfl (fin ⟨rfl, rfl⟩ H)))))))))))))))))))
set_option maxHeartbeats 1000000 in
theorem lock_ok (c : Nat) (d : Int) (sm : Value) (md : Int) (fv : Value) (tx : ByteArray) :
    Cn Tryz.prog 241 [.pointer (some ⟨c, 1, none⟩)] [blk c [.int .u32 d, .int .i32 0, sm, .int .u32 md, fv, .string tx] 234] [] (fun v Bs => v = .tuple #[] ∧ Bs = [blk c [.int .u32 d, .int .i32 1, sm, .int .u32 md, fv, .string tx] 234]) := by
 intro w0 F0 H
 refine enter Tryz.func241 rfl rfl (Nat.le_of_ble_eq_true rfl) (c_reg (s_1 rfl (s_val rfl rfl (r_nilP rfl rfl) (s_val rfl rfl (r_fa rfl fo230_1 rfl) (sc (ilock_ok c d sm md fv tx) H l0 rfl rfl (e_fn kn262 rfl rfl) ?_)))))
 rintro _ _ w ⟨rfl, rfl⟩ H
 refine s_nil (q_end rfl ?_)
 replace H : Hd _ _ _ [blk c [.int .u32 d, .int .i32 1, sm, .int .u32 md, fv, .string tx] 234] [] := H
 exact fin ⟨rfl, rfl⟩ H
set_option maxHeartbeats 1000000 in
theorem iunlock_ok (c : Nat) (d : Int) (sm : Value) (md : Int) (fv : Value) (tx : ByteArray) :
    Cn Tryz.prog 263 [.pointer (some ⟨c, 1, none⟩)] [blk c [.int .u32 d, .int .i32 1, sm, .int .u32 md, fv, .string tx] 234] [] (fun v Bs => v = .tuple #[] ∧ Bs = [blk c [.int .u32 d, .int .i32 0, sm, .int .u32 md, fv, .string tx] 234]) := by
 intro w0 F0 H
 refine enter Tryz.func263 rfl rfl (Nat.le_of_ble_eq_true rfl) (c_seq (c_yes rfl (c_seq (c_reg (s_1 rfl (s_val rfl rfl (r_nilP rfl rfl) (s_val rfl rfl (r_fa rfl fo228_0 rfl) (s_val rfl rfl (r_ld rfl ty21 rfl (H.cellI 0 rfl rfl)) (s_nil (q_then (c_seq (c_reg (s_1 rfl (s_val rfl rfl (r_unsafe rfl un362 up366 nz228 rfl (H.cellI 0 rfl rfl)) (s_val rfl rfl (r_marked ex299 rfl rfl) (s_nil (q_then (c_reg (s_val rfl rfl (r_mark0 ex294 rfl rfl) (s_nil (q_then (c_seq (c_reg (s_1 rfl (s_val rfl rfl (r_nilP rfl rfl) (s_val rfl rfl (r_fa rfl fo228_0 rfl) (s_aadd ex300 rfl rfl rfl rfl H rfl rfl (fun w H => ?_))))))))))))))))))))))))))))
 replace H : Hd _ _ _ [blk c [.int .u32 d, .int .i32 0, sm, .int .u32 md, fv, .string tx] 234] [] := H
 exact s_1 rfl (s_nil (q_then (c_seq (c_seq (c_reg (s_1 rfl (s_val rfl rfl (r_ne rfl rfl rfl) (s_nil (q_then (c_no rfl (c_skip (q_then (c_reg (s_val rfl rfl (r_mark0 ex296 rfl rfl) (s_nil (q_end rfl (fin ⟨rfl, rfl⟩ H)))))))))))))))))
set_option maxHeartbeats 1000000 in
theorem unlockD_ok (c : Nat) (d : Int) (sm : Value) (md : Int) (fv : Value) (tx : ByteArray) :
    CnD Tryz.prog 242 [.pointer (some ⟨c, 1, none⟩)] [blk c [.int .u32 d, .int .i32 1, sm, .int .u32 md, fv, .string tx] 234] [] (fun v Bs => v = .tuple #[] ∧ Bs = [blk c [.int .u32 d, .int .i32 0, sm, .int .u32 md, fv, .string tx] 234]) := by
 intro w0 F0 ufm H
 refine enterD Tryz.func242 rfl rfl (Nat.le_of_ble_eq_true rfl) (c_reg (s_1 rfl (s_val rfl rfl (r_nilP rfl rfl) (s_val rfl rfl (r_fa rfl fo230_1 rfl) (sc (iunlock_ok c d sm md fv tx) H l0 rfl rfl (e_fn kn263 rfl rfl) ?_)))))
 rintro _ _ w ⟨rfl, rfl⟩ H
 refine s_nil (q_end rfl ?_)
 replace H : Hd _ _ _ [blk c [.int .u32 d, .int .i32 0, sm, .int .u32 md, fv, .string tx] 234] [] := H
 exact fin ⟨rfl, rfl⟩ H

set_option maxRecDepth 100000 in
set_option maxHeartbeats 1600000 in
theorem doSlow_ok (c pl : Nat) (sm : Value) (md : Int) (fv : Value) (tx tx2 : ByteArray) (Rs : List SP)
  (hcl : Cn Tryz.prog 170 [.pointer (some ⟨pl, 0, none⟩)] [blk c [.int .u32 0, .int .i32 1, sm, .int .u32 md, fv, .string tx] 234] Rs (fun v Bs => v = .tuple #[] ∧ Bs = [blk c [.int .u32 0, .int .i32 1, sm, .int .u32 md, fv, .string tx2] 234])) :
  Cn Tryz.prog 205 [.pointer (some ⟨c, 0, none⟩), .func (.func 170) #[] #[.pointer (some ⟨pl, 0, none⟩)]] [blk c [.int .u32 0, .int .i32 0, sm, .int .u32 md, fv, .string tx] 234] Rs (fun v Bs => v = .tuple #[] ∧ Bs = [blk c [.int .u32 1, .int .i32 0, sm, .int .u32 md, fv, .string tx2] 234]) := by
 intro w F H
 have hnot : ∀ (x : Bool) (w : World), (Op.unary .not (.bool x)).run Tryz.prog w = .ok (.bool (!x)) w := fun _ _ => rfl
 go_enter_defers Tryz.func205, Tryz.ntmps205
 go_wp2_with (first
  | (go_at_call 241; refine (call_frame (As := []) (lock_ok c 0 sm md fv tx) H l0).mono ?_; rintro e w1 ⟨v, rfl, Bs, ⟨rfl, rfl⟩, H1⟩)
  | (go_at_call 144; refine (call_frame (Cs := []) (loadDone0_ok c 1 sm md fv tx) H1 (lA 0 rfl (fun _ h => h) l0)).mono ?_; rintro e w2 ⟨v, rfl, Bs, ⟨rfl, rfl⟩, H2⟩)
  | (go_at_call 170; refine (call_frame (As := []) hcl H2 lAll).mono ?_; rintro e w3 ⟨v, rfl, Bs, ⟨rfl, rfl⟩, H3⟩))
 refine leaves_cons (f := 142) (args := #[.pointer (some ⟨c, 0, none⟩), .bool true]) (by simp) (by simp [go_sem]) ?_
 refine (call_frameD (As := []) (storeDone_ok c 0 1 sm md fv tx2) H3 l0).mono ?_
 rintro e u' w4 ⟨rfl, v, rfl, Bs, ⟨rfl, rfl⟩, H4⟩
 refine leaves_cons (f := 242) (args := #[.pointer (some ⟨c, 1, none⟩)]) (by simp [settle]) (by simp [go_sem]) ?_
 refine (call_frameD (As := []) (unlockD_ok c 1 sm md fv tx2) H4 l0).mono ?_
 rintro e u' w5 ⟨rfl, v, rfl, Bs, ⟨rfl, rfl⟩, H5⟩
 exact ⟨.tuple #[], by simp [results, Tryz.results205], .tuple #[], rfl, _, ⟨rfl, rfl⟩, H5⟩

set_option maxHeartbeats 1000000 in
theorem text1_ok (nb : Nat) (n : Int) (hn : In64 n) :
    Cn Tryz.prog 303 [.pointer (some ⟨nb, 0, none⟩)] [] [blk nb [.int .i64 n] 2, gl] (fun v Bs => v = .string (dg.dig n) ∧ Bs = []) := by
 intro w0 F0 H
 refine enter Tryz.func303 rfl rfl (Nat.le_of_ble_eq_true rfl) (c_seq (c_reg (s_1 rfl (s_nil (q_then (c_seq (c_reg (s_val rfl rfl (r_ld rfl ty2 rfl (H.cellRI 0 rfl rfl)) (sc (digits_ok n (by assumption)) H (lR 1 rfl l0) rfl rfl (e_fn kn304 rfl rfl) ?_)))))))))
 rintro _ _ w ⟨rfl, rfl⟩ H
 refine s_1 rfl (s_nil (q_then (c_ret (q_ret1 rfl rfl ?_))))
 replace H : Hd _ _ _ [] [blk nb [.int .i64 n] 2, gl] := H
 exact fin ⟨rfl, rfl⟩ H
set_option maxHeartbeats 1000000 in
theorem getf_ok (c pl nb : Nat) (n : Int) (hn : In64 n) (sm : Value) (md : Int) (tx : ByteArray) :
    Cn Tryz.prog 170 [.pointer (some ⟨pl, 0, none⟩)] [blk c [.int .u32 0, .int .i32 1, sm, .int .u32 md, .func (.func 303) #[] #[.pointer (some ⟨nb, 0, none⟩)], .string tx] 234] [blk pl [.pointer (some ⟨c, 0, none⟩)] 161, blk nb [.int .i64 n] 2, gl] (fun v Bs => v = .tuple #[] ∧ Bs = [blk c [.int .u32 0, .int .i32 1, sm, .int .u32 md, .func (.func 303) #[] #[.pointer (some ⟨nb, 0, none⟩)], .string (dg.dig n)] 234]) := by
 intro w0 F0 H
 refine enter Tryz.func170 rfl rfl (Nat.le_of_ble_eq_true rfl) (c_seq (c_reg (s_val rfl rfl (r_ld rfl ty161 rfl (H.cellRI 0 rfl rfl)) (s_val rfl rfl (r_nilP rfl rfl) (s_val rfl rfl (r_fa rfl fo234_2 rfl) (s_val rfl rfl (r_ld rfl ty167 rfl (H.cellI 0 rfl rfl)) (s_val rfl rfl (r_fne rfl un167 rfl rfl) (s_nil (q_then (c_yes rfl (c_ord (.e 0 (.e 1 (.e 2 (.e 3 (.m 4 (.m 5 (.e 6 (.e 7 (.m 8 .z))))))))) (fun w => ∃ Ar, Hd w0 F0 w (Ar) [blk pl [.pointer (some ⟨c, 0, none⟩)] 161, blk nb [.int .i64 n] 2, gl]) mo (by kernel_rfl) (fun w H => ⟨_, H⟩) H (fun w H => (d_val rfl rfl rfl (fun w ⟨Ar, H⟩ => r_ld rfl ty161 rfl (H.cellRI 0 rfl rfl)) (d_val rfl rfl rfl (fun w ⟨Ar, H⟩ => r_ld rfl ty161 rfl (H.cellRI 0 rfl rfl)) (d_val rfl rfl rfl (fun w ⟨Ar, H⟩ => r_nilP rfl rfl) (d_val rfl rfl rfl (fun w ⟨Ar, H⟩ => r_fa rfl fo234_2 rfl) (d_main rfl (s_val rfl rfl (r_ld rfl ty167 rfl (H.cellI 0 rfl rfl)) ?_))))))))))))))))))
 refine d_back ⟨_, H⟩ (d_main rfl (sc (text1_ok nb n hn) H (lR 1 rfl (lR 2 rfl l0)) rfl rfl (e_val (vs := []) (fs := #[]) (cs := #[.pointer (some ⟨nb, 0, none⟩)]) kn303 rfl rfl rfl) ?_))
 rintro _ _ w ⟨rfl, rfl⟩ H
 refine d_back ⟨_, H⟩ (d_val rfl rfl rfl (fun w ⟨Ar, H⟩ => r_nilP rfl rfl) (d_val rfl rfl rfl (fun w ⟨Ar, H⟩ => r_fa rfl fo234_3 rfl) (d_main rfl (s_st rfl rfl rfl ty9 rfl rfl H rfl (Nat.le_of_ble_eq_true rfl) (fun u hu => by simp [Value.cells] at hu; subst hu; rfl) (fun w H => ?_)))))
 replace H : Hd _ _ _ [blk c [.int .u32 0, .int .i32 1, sm, .int .u32 md, .func (.func 303) #[] #[.pointer (some ⟨nb, 0, none⟩)], .string (dg.dig n)] 234] [blk pl [.pointer (some ⟨c, 0, none⟩)] 161, blk nb [.int .i64 n] 2, gl] := H
 exact d_back ⟨_, H⟩ (d_nil (q_end rfl (fin ⟨rfl, rfl⟩ H)))
set_option maxHeartbeats 1000000 in
theorem doNew_ok (c pl nb : Nat) (n : Int) (hn : In64 n) (sm : Value) (md : Int) (tx : ByteArray) :
    Cn Tryz.prog 169 [.pointer (some ⟨c, 0, none⟩), .func (.func 170) #[] #[.pointer (some ⟨pl, 0, none⟩)]] [blk c [.int .u32 0, .int .i32 0, sm, .int .u32 md, .func (.func 303) #[] #[.pointer (some ⟨nb, 0, none⟩)], .string tx] 234] [blk pl [.pointer (some ⟨c, 0, none⟩)] 161, blk nb [.int .i64 n] 2, gl] (fun v Bs => v = .tuple #[] ∧ Bs = [blk c [.int .u32 1, .int .i32 0, sm, .int .u32 md, .func (.func 303) #[] #[.pointer (some ⟨nb, 0, none⟩)], .string (dg.dig n)] 234]) := by
 intro w0 F0 H
 refine enter Tryz.func169 rfl rfl (Nat.le_of_ble_eq_true rfl) (c_seq (c_reg (s_1 rfl (s_val rfl rfl (r_nilP rfl rfl) (s_val rfl rfl (r_fa rfl fo232_1 rfl) (sc (loadDone0_ok c 0 sm md (.func (.func 303) #[] #[.pointer (some ⟨nb, 0, none⟩)]) tx) H (lA 0 rfl (fun _ h => h) l0) rfl rfl (e_fn kn144 rfl rfl) ?_))))))
 rintro _ _ w ⟨rfl, rfl⟩ H
 refine s_val rfl rfl (r_not rfl rfl rfl) (s_nil (q_then (c_yes rfl (c_reg (s_k 2 rfl (sc (doSlow_ok c pl sm md (.func (.func 303) #[] #[.pointer (some ⟨nb, 0, none⟩)]) tx (dg.dig n) [blk pl [.pointer (some ⟨c, 0, none⟩)] 161, blk nb [.int .i64 n] 2, gl] (getf_ok c pl nb n hn sm md tx)) H (lR 0 rfl (lR 1 rfl (lR 2 rfl l0))) rfl rfl (e_fn kn205 rfl rfl) ?_))))))
 rintro _ _ w ⟨rfl, rfl⟩ H
 refine s_nil (q_end rfl ?_)
 replace H : Hd _ _ _ [blk c [.int .u32 1, .int .i32 0, sm, .int .u32 md, .func (.func 303) #[] #[.pointer (some ⟨nb, 0, none⟩)], .string (dg.dig n)] 234] [blk pl [.pointer (some ⟨c, 0, none⟩)] 161, blk nb [.int .i64 n] 2, gl] := H
 exact fin ⟨rfl, rfl⟩ H
set_option maxHeartbeats 1000000 in
theorem doOld_ok (c pl : Nat) (m : Int) (sm : Value) (md : Int) (fv : Value) (tx : ByteArray) :
    Cn Tryz.prog 169 [.pointer (some ⟨c, 0, none⟩), .func (.func 170) #[] #[.pointer (some ⟨pl, 0, none⟩)]] [] [blk c [.int .u32 1, .int .i32 m, sm, .int .u32 md, fv, .string tx] 234] (fun v Bs => v = .tuple #[] ∧ Bs = []) := by
 intro w0 F0 H
 refine enter Tryz.func169 rfl rfl (Nat.le_of_ble_eq_true rfl) (c_seq (c_reg (s_1 rfl (s_val rfl rfl (r_nilP rfl rfl) (s_val rfl rfl (r_fa rfl fo232_1 rfl) (sc (loadDone1_ok c m sm md fv tx) H (lR 0 rfl l0) rfl rfl (e_fn kn144 rfl rfl) ?_))))))
 rintro _ _ w ⟨rfl, rfl⟩ H
 refine s_val rfl rfl (r_not rfl rfl rfl) (s_nil (q_then (c_no rfl (c_skip (q_end rfl ?_)))))
 replace H : Hd _ _ _ [] [blk c [.int .u32 1, .int .i32 m, sm, .int .u32 md, fv, .string tx] 234] := H
 exact fin ⟨rfl, rfl⟩ H
set_option maxHeartbeats 1000000 in
theorem getNew_ok (c nb : Nat) (n : Int) (hn : In64 n) :
    Cn Tryz.prog 109 [.pointer (some ⟨c, 0, none⟩)] [blk c [.int .u32 0, .int .i32 0, .int .u32 0, .int .u32 0, .func (.func 303) #[] #[.pointer (some ⟨nb, 0, none⟩)], .string ⟨#[]⟩] 234] [blk nb [.int .i64 n] 2, gl] (fun v Bs => v = .string (dg.dig n) ∧ Bs = [blk c [.int .u32 1, .int .i32 0, .int .u32 0, .int .u32 1, .func (.func 303) #[] #[.pointer (some ⟨nb, 0, none⟩)], .string (dg.dig n)] 234]) := by
 intro w0 F0 H
 refine enter Tryz.func109 rfl rfl (Nat.le_of_ble_eq_true rfl) (c_seq (c_reg (s_box rfl rfl rfl rfl H (fun b1 w H => (s_1 rfl (s_nil (q_then ?_)))))))
 replace H : Hd _ _ _ [blk b1 [.pointer (some ⟨c, 0, none⟩)] 161, blk c [.int .u32 0, .int .i32 0, .int .u32 0, .int .u32 0, .func (.func 303) #[] #[.pointer (some ⟨nb, 0, none⟩)], .string ⟨#[]⟩] 234] [blk nb [.int .i64 n] 2, gl] := H
 refine c_seq (c_seq (c_reg (s_val rfl rfl (r_ld rfl ty161 rfl (H.cellI 0 rfl rfl)) (s_val rfl rfl (r_peq rfl un161 rfl rfl) (s_nil (q_then (c_no rfl (c_skip (q_then (c_seq (c_reg (s_val rfl rfl (r_ld rfl ty161 rfl (H.cellI 0 rfl rfl)) (s_val rfl rfl (r_nilP rfl rfl) (s_val rfl rfl (r_fa rfl fo234_1 rfl) ?_))))))))))))))
 replace H := H.p1
 refine sc (storeMade_ok c 0 0 (.int .u32 0) 0 (.func (.func 303) #[] #[.pointer (some ⟨nb, 0, none⟩)]) (⟨#[]⟩ : ByteArray)) H l0 rfl rfl (e_fn kn142 rfl rfl) ?_
 rintro _ _ w ⟨rfl, rfl⟩ H
 replace H := H.h1 (A := blk c [.int .u32 0, .int .i32 0, .int .u32 0, .int .u32 1, .func (.func 303) #[] #[.pointer (some ⟨nb, 0, none⟩)], .string ⟨#[]⟩] 234)
 refine s_nil (q_then (c_seq (c_reg (s_val rfl rfl (r_ld rfl ty161 rfl (H.cellI 1 rfl rfl)) (s_val rfl rfl (r_nilP rfl rfl) (s_val rfl rfl (r_fa rfl fo234_0 rfl) (s_val rfl rfl (r_fn (fs := #[]) (cs := #[.pointer (some ⟨b1, 0, none⟩)]) rfl rfl rfl) (sc (doNew_ok c b1 nb n hn (.int .u32 0) 1 ⟨#[]⟩) H (lA 0 rfl (fun _ h => h) (lR 0 rfl (lR 1 rfl l0))) rfl rfl (e_fn kn169 rfl rfl) ?_))))))))
 rintro _ _ w ⟨rfl, rfl⟩ H
 replace H := H.h1 (A := blk c [.int .u32 1, .int .i32 0, .int .u32 0, .int .u32 1, .func (.func 303) #[] #[.pointer (some ⟨nb, 0, none⟩)], .string (dg.dig n)] 234)
 refine s_nil (q_then (c_seq (c_reg (s_val rfl rfl (r_ld rfl ty161 rfl (H.cellI 1 rfl rfl)) (s_val rfl rfl (r_nilP rfl rfl) (s_val rfl rfl (r_fa rfl fo234_3 rfl) (s_val rfl rfl (r_ld rfl ty9 rfl (H.cellI 0 rfl rfl)) (s_1 rfl (s_nil (q_then (c_ret (q_ret1 rfl rfl ?_))))))))))))
 replace H := H.k1
 exact fin ⟨rfl, rfl⟩ H
set_option maxHeartbeats 1000000 in
theorem getOld_ok (c : Nat) (fv : Value) (tx : ByteArray) :
    Cn Tryz.prog 109 [.pointer (some ⟨c, 0, none⟩)] [blk c [.int .u32 1, .int .i32 0, .int .u32 0, .int .u32 1, fv, .string tx] 234] [] (fun v Bs => v = .string tx ∧ Bs = [blk c [.int .u32 1, .int .i32 0, .int .u32 0, .int .u32 1, fv, .string tx] 234]) := by
 intro w0 F0 H
 refine enter Tryz.func109 rfl rfl (Nat.le_of_ble_eq_true rfl) (c_seq (c_reg (s_box rfl rfl rfl rfl H (fun b1 w H => (s_1 rfl (s_nil (q_then ?_)))))))
 replace H : Hd _ _ _ [blk b1 [.pointer (some ⟨c, 0, none⟩)] 161, blk c [.int .u32 1, .int .i32 0, .int .u32 0, .int .u32 1, fv, .string tx] 234] [] := H
 refine c_seq (c_seq (c_reg (s_val rfl rfl (r_ld rfl ty161 rfl (H.cellI 0 rfl rfl)) (s_val rfl rfl (r_peq rfl un161 rfl rfl) (s_nil (q_then (c_no rfl (c_skip (q_then (c_seq (c_reg (s_val rfl rfl (r_ld rfl ty161 rfl (H.cellI 0 rfl rfl)) (s_val rfl rfl (r_nilP rfl rfl) (s_val rfl rfl (r_fa rfl fo234_1 rfl) ?_))))))))))))))
 replace H := H.p1
 refine sc (storeMade_ok c 1 0 (.int .u32 0) 1 fv tx) H l0 rfl rfl (e_fn kn142 rfl rfl) ?_
 rintro _ _ w ⟨rfl, rfl⟩ H
 refine s_nil (q_then (c_seq (c_reg (s_val rfl rfl (r_ld rfl ty161 rfl (H.cellI 1 rfl rfl)) (s_val rfl rfl (r_nilP rfl rfl) (s_val rfl rfl (r_fa rfl fo234_0 rfl) (s_val rfl rfl (r_fn (fs := #[]) (cs := #[.pointer (some ⟨b1, 0, none⟩)]) rfl rfl rfl) (sc (doOld_ok c b1 0 (.int .u32 0) 1 fv tx) H (lA 0 rfl (fun _ h => h) l0) rfl rfl (e_fn kn169 rfl rfl) ?_))))))))
 rintro _ _ w ⟨rfl, rfl⟩ H
 refine s_nil (q_then (c_seq (c_reg (s_val rfl rfl (r_ld rfl ty161 rfl (H.cellI 1 rfl rfl)) (s_val rfl rfl (r_nilP rfl rfl) (s_val rfl rfl (r_fa rfl fo234_3 rfl) (s_val rfl rfl (r_ld rfl ty9 rfl (H.cellI 0 rfl rfl)) (s_1 rfl (s_nil (q_then (c_ret (q_ret1 rfl rfl ?_))))))))))))
 replace H := H.k1
 exact fin ⟨rfl, rfl⟩ H
set_option maxHeartbeats 1000000 in
theorem lazyNew_ok (nb : Nat) :
    Cn Tryz.prog 95 [.func (.func 303) #[] #[.pointer (some ⟨nb, 0, none⟩)]] [] [] (fun v Bs => ∃ b, v = .pointer (some ⟨b, 0, none⟩) ∧ Bs = [blk b [.int .u32 0, .int .i32 0, .int .u32 0, .int .u32 0, .func (.func 303) #[] #[.pointer (some ⟨nb, 0, none⟩)], .string ⟨#[]⟩] 234]) := by
 intro w0 F0 H
 refine enter Tryz.func95 rfl rfl (Nat.le_of_ble_eq_true rfl) (c_seq (c_reg (s_1 rfl (s_nil (q_then (c_seq (c_reg (s_1 rfl (s_val rfl rfl (r_bd (parts := [(2, .tmp 3)]) (vs := [.func (.func 303) #[] #[.pointer (some ⟨nb, 0, none⟩)]]) (cs := [.int .u32 0, .int .i32 0, .int .u32 0, .int .u32 0, .func (.func 303) #[] #[.pointer (some ⟨nb, 0, none⟩)], .string ⟨#[]⟩]) rfl bd234 rfl rfl) (s_box rfl rfl rfl rfl H (fun b1 w H => (s_1 rfl (s_nil (q_then ?_))))))))))))))
 replace H : Hd _ _ _ [blk b1 [.int .u32 0, .int .i32 0, .int .u32 0, .int .u32 0, .func (.func 303) #[] #[.pointer (some ⟨nb, 0, none⟩)], .string ⟨#[]⟩] 234] [] := H
 exact c_ret (q_ret1 rfl rfl (fin ⟨_, rfl, rfl⟩ H))
set_option maxHeartbeats 1000000 in
theorem text_ok (r : Nat) (pv : Value) (key : ByteArray) (vv : Value) (fuel pos steps : Int) (halted : Bool) (sv : Value) (g : Nat → Val) (tv : Value) (mb : Nat) (n : Int) (hn : In64 n) :
    Cn Tryz.prog 274 [.pointer (some ⟨r, 0, none⟩), .int .i64 n] [digsP mb] [blk r (runC pv key vv fuel pos steps halted sv g tv (.map (some mb))) 288, gl] (fun v Bs => v = .string (dg.dig n) ∧ Bs = [digsP mb]) := by
 intro w0 F0 H
 obtain ⟨kvs, H⟩ := digs_open H
 refine enter Tryz.func274 rfl rfl (Nat.le_of_ble_eq_true rfl) (c_seq (c_reg (s_box rfl rfl rfl rfl H (fun b1 w H => (s_1 rfl (s_nil (q_then ?_)))))))
 replace H : Hd _ _ _ [blk b1 [.int .i64 n] 2, mapI mb (kvs.map ptrOf), cellsS 234 kvs] [blk r (runC pv key vv fuel pos steps halted sv g tv (.map (some mb))) 288, gl] := H
 refine c_seq (c_seq ?_)
 by_cases hno : alook n (kvs.map ptrOf) = none
 ·refine c_draw mo (by kernel_rfl) H (u_1 rfl (u_val rfl rfl (fun w H => r_nilP rfl rfl) (u_val rfl rfl (fun w H => r_fa rfl fo288_10 rfl) (u_val rfl rfl (fun w H => r_ld rfl ty286 rfl (H.cellRI 0 rfl rfl)) (u_val rfl rfl (fun w H => r_ld rfl ty2 rfl (H.cellI 0 rfl rfl)) (u_val rfl rfl (fun w H => r_look1 rfl un286 un2 zr161 rfl rfl H 1 rfl (by rw [hno] <;> rfl)) (u_val rfl rfl (fun w H => r_peq rfl un161 rfl rfl) (u_end (fun w H => (q_then (c_yes rfl ?_)))))))))))
  replace H := H.sel 3 [0, 2, 1] [] rfl (by kernel_rfl)
  replace H : Hd _ _ _ [blk b1 [.int .i64 n] 2, cellsS 234 kvs, mapI mb (kvs.map ptrOf)] [blk r (runC pv key vv fuel pos steps halted sv g tv (.map (some mb))) 288, gl] := H
  refine c_ord (.e 0 (.e 1 (.e 2 (.e 3 (.e 4 (.e 5 (.m 6 (.m 7 .z)))))))) (fun w => ∃ Ar, Hd w0 F0 w (blk b1 [.int .i64 n] 2 :: cellsS 234 kvs :: Ar) [blk r (runC pv key vv fuel pos steps halted sv g tv (.map (some mb))) 288, gl]) mo (by kernel_rfl) (fun w H => ⟨_, H⟩) H (fun w H => (d_1 rfl (d_val rfl rfl rfl (fun w ⟨Ar, H⟩ => r_nilP rfl rfl) (d_val rfl rfl rfl (fun w ⟨Ar, H⟩ => r_fa rfl fo288_10 rfl) (d_val rfl rfl rfl (fun w ⟨Ar, H⟩ => r_ld rfl ty286 rfl (H.cellRI 0 rfl rfl)) (d_val rfl rfl rfl (fun w ⟨Ar, H⟩ => r_ld rfl ty2 rfl (H.cellI 0 rfl rfl)) (d_val rfl rfl rfl (fun w ⟨Ar, H⟩ => r_fn (fs := #[]) (cs := #[.pointer (some ⟨b1, 0, none⟩)]) rfl rfl rfl) (d_main rfl (sc (lazyNew_ok b1) H l0 rfl rfl (e_fn kn95 rfl rfl) ?_)))))))))
  rintro _ _ w ⟨b2, rfl, rfl⟩ H
  replace H := H.h1 (A := blk b2 [.int .u32 0, .int .i32 0, .int .u32 0, .int .u32 0, .func (.func 303) #[] #[.pointer (some ⟨b1, 0, none⟩)], .string ⟨#[]⟩] 234) |>.p2 |>.p2
  refine d_back ⟨_, H⟩ (d_main rfl ?_)
  replace H := H.p3
  refine s_mset rfl rfl rfl un286 un2 rfl rfl rfl hno H (fun w H => ?_)
  replace H := H.h1 (A := mapI mb (kvs.map ptrOf ++ [(n, .pointer (some ⟨b2, 0, none⟩))])) |>.p2 |>.p2
  refine d_back ⟨_, H⟩ (d_nil (q_then (c_seq (c_ord (.e 0 (.e 1 (.e 2 (.e 3 (.e 4 (.e 5 (.m 6 (.e 7 .z)))))))) (fun w => ∃ Ar, Hd w0 F0 w (blk b1 [.int .i64 n] 2 :: cellsS 234 kvs :: mapI mb (kvs.map ptrOf ++ [(n, .pointer (some ⟨b2, 0, none⟩))]) :: Ar) [blk r (runC pv key vv fuel pos steps halted sv g tv (.map (some mb))) 288, gl]) mo (by kernel_rfl) (fun w H => ⟨_, H⟩) H (fun w H => (d_1 rfl (d_val rfl rfl rfl (fun w ⟨Ar, H⟩ => r_nilP rfl rfl) (d_val rfl rfl rfl (fun w ⟨Ar, H⟩ => r_fa rfl fo288_10 rfl) (d_val rfl rfl rfl (fun w ⟨Ar, H⟩ => r_ld rfl ty286 rfl (H.cellRI 0 rfl rfl)) (d_val rfl rfl rfl (fun w ⟨Ar, H⟩ => r_ld rfl ty2 rfl (H.cellI 0 rfl rfl)) (d_val rfl rfl rfl (fun w ⟨Ar, H⟩ => r_look1 rfl un286 un2 zr161 rfl rfl H 2 rfl (by rw [alook_snoc hno] <;> rfl)) (d_main rfl ?_))))))))))))
  replace H := H.p3
  refine sc (getNew_ok b2 b1 n hn) H (lA 0 rfl (fun _ h => h) (lR 1 rfl l0)) rfl rfl (e_fn kn109 rfl rfl) ?_
  rintro _ _ w ⟨rfl, rfl⟩ H
  replace H := H.h1 (A := blk b2 [.int .u32 1, .int .i32 0, .int .u32 0, .int .u32 1, .func (.func 303) #[] #[.pointer (some ⟨b1, 0, none⟩)], .string (dg.dig n)] 234) |>.p3 |>.p3 |>.p3
  refine d_back ⟨_, H⟩ (d_1 rfl (d_nil (q_then (c_ret (q_ret1 rfl rfl ?_)))))
  replace H := H.p2.p2.p3.k3
  replace H := cells_put (n := n) (H.ex_in (A := fun f : Value => blk b2 [.int .u32 1, .int .i32 0, .int .u32 0, .int .u32 1, f, .string (digS n)] 234) (.func (.func 303) #[] #[.pointer (some ⟨b1, 0, none⟩)]))
  replace H := H.perm (List.Perm.swap _ _ _)
  rw [← map_snoc] at H
  replace H := digs_shut _ H
  replace H : Hd _ _ _ [digsP mb] [blk r (runC pv key vv fuel pos steps halted sv g tv (.map (some mb))) 288, gl] := H
  exact fin ⟨rfl, rfl⟩ H
 ·refine c_draw mo (by kernel_rfl) H (u_1 rfl (u_val rfl rfl (fun w H => r_nilP rfl rfl) (u_val rfl rfl (fun w H => r_fa rfl fo288_10 rfl) (u_val rfl rfl (fun w H => r_ld rfl ty286 rfl (H.cellRI 0 rfl rfl)) (u_val rfl rfl (fun w H => r_ld rfl ty2 rfl (H.cellI 0 rfl rfl)) ?_)))))
  obtain ⟨v0, hv0⟩ := Option.ne_none_iff_exists'.1 hno
  obtain ⟨c, rfl, hmem⟩ := alook_ptr hv0
  refine u_val rfl rfl (fun w H => r_look1 rfl un286 un2 zr161 rfl rfl H 1 rfl (by rw [hv0] <;> rfl)) (u_val rfl rfl (fun w H => r_peq rfl un161 rfl rfl) (u_end (fun w H => (q_then (c_no rfl (c_skip (q_then (c_seq (c_ord (.e 0 (.e 1 (.e 2 (.e 3 (.e 4 (.e 5 (.m 6 (.e 7 .z)))))))) (fun w => ∃ Ar, Hd w0 F0 w (blk b1 [.int .i64 n] 2 :: mapI mb (kvs.map ptrOf) :: cellsS 234 kvs :: Ar) [blk r (runC pv key vv fuel pos steps halted sv g tv (.map (some mb))) 288, gl]) mo (by kernel_rfl) (fun w H => ⟨_, H⟩) H (fun w H => (d_1 rfl (d_val rfl rfl rfl (fun w ⟨Ar, H⟩ => r_nilP rfl rfl) (d_val rfl rfl rfl (fun w ⟨Ar, H⟩ => r_fa rfl fo288_10 rfl) (d_val rfl rfl rfl (fun w ⟨Ar, H⟩ => r_ld rfl ty286 rfl (H.cellRI 0 rfl rfl)) (d_val rfl rfl rfl (fun w ⟨Ar, H⟩ => r_ld rfl ty2 rfl (H.cellI 0 rfl rfl)) (d_val rfl rfl rfl (fun w ⟨Ar, H⟩ => r_look1 rfl un286 un2 zr161 rfl rfl H 1 rfl (by rw [hv0] <;> rfl)) ?_))))))))))))))))
  refine d_main rfl ?_
  replace H := H.p2
  replace H : Hd _ _ _ [cellsS 234 kvs, blk b1 [.int .i64 n] 2, mapI mb (kvs.map ptrOf)] [blk r (runC pv key vv fuel pos steps halted sv g tv (.map (some mb))) 288, gl] := H
  obtain ⟨rest, H, hback⟩ := cells_take hmem H
  obtain ⟨f0, H⟩ := H.ex_out
  refine sc (getOld_ok c f0 (digS n)) H l0 rfl rfl (e_fn kn109 rfl rfl) ?_
  rintro _ _ w ⟨rfl, rfl⟩ H
  replace H := hback (H.ex_in (A := fun f : Value => blk c [.int .u32 1, .int .i32 0, .int .u32 0, .int .u32 1, f, .string (digS n)] 234) f0)
  replace H := H.p2.p2
  refine d_back ⟨_, H⟩ (d_1 rfl (d_nil (q_then (c_ret (q_ret1 rfl rfl ?_)))))
  replace H := H.p2.p2.k2
  replace H := digs_shut _ H
  replace H := H.h1 (A := digsP mb)
  exact fin ⟨rfl, rfl⟩ H

set_option maxHeartbeats 4000000 in
theorem does_ok (r : Nat) (pv : Value) (key : ByteArray) (vv : Value) (fuel pos steps : Int) (halted : Bool) (sv : Value) (g : Nat → Val) (tv : Value) (mb : Nat) (stk : List Val) (told : List Pair) (vals : List ByteArray) (i : Ins) (n : Int) (hst : stk.length ≤ 16) (hto : told.length ≤ 40) (hok : (∀ v ∈ stk, OkV v) ∧ ∀ k, OkV (g k)) (hi : goodI i n) :
    Cn Tryz.prog 243 [.pointer (some ⟨r, 0, none⟩), .agg #[.int .i64 i.op, .int .i64 i.a, .string i.s]] [blk r (runC pv key vv fuel pos steps halted sv g tv (.map (some mb))) 288, osl kVal sv stk, osl kPair tv told, digsP mb] [rsl kStr vv vals, gl] (fun v Bs => ∃ sv2 tv2 vv2, v = .int .i64 (doesM dg key ⟨pos, halted, stk, g, told, vals⟩ i).2 ∧ Suf kStr vv vals vv2 (doesM dg key ⟨pos, halted, stk, g, told, vals⟩ i).1.vals ∧ Bs = [blk r (runC pv key vv2 fuel (doesM dg key ⟨pos, halted, stk, g, told, vals⟩ i).1.pos steps (doesM dg key ⟨pos, halted, stk, g, told, vals⟩ i).1.halted sv2 (doesM dg key ⟨pos, halted, stk, g, told, vals⟩ i).1.g tv2 (.map (some mb))) 288, osl kVal sv2 (doesM dg key ⟨pos, halted, stk, g, told, vals⟩ i).1.stk, osl kPair tv2 (doesM dg key ⟨pos, halted, stk, g, told, vals⟩ i).1.told, digsP mb]) := by
 intro w0 F0 H
 refine enter Tryz.func243 rfl rfl (Nat.le_of_ble_eq_true rfl) (c_seq (c_reg (s_box rfl rfl rfl rfl H (fun b1 w H => (s_1 rfl (s_nil (q_then ?_)))))))
 replace H : Hd _ _ _ [blk b1 [.int .i64 i.op, .int .i64 i.a, .string i.s] 223, blk r (runC pv key vv fuel pos steps halted sv g tv (.map (some mb))) 288, osl kVal sv stk, osl kPair tv told, digsP mb] [rsl kStr vv vals, gl] := H
 refine c_seq (c_reg (s_1 rfl (s_val rfl rfl (r_fa rfl fo223_0 rfl) (s_val rfl rfl (r_ld rfl ty3 rfl (H.cellI 0 rfl rfl)) ?_))))
 replace H := H.p2.p2
 refine sc (needs_ok r pv key vv fuel pos steps halted sv g tv (.map (some mb)) stk i.op (by first | omega | exact Nat.le_trans hN.2.1 hst)) H l0 rfl rfl (e_fn kn264 rfl rfl) ?_
 rintro _ _ w ⟨u2, s3, rfl, rfl⟩ H
 replace H := H.h3 (A := blk r (runC pv key vv fuel pos steps halted s3 g tv (.map (some mb))) 288) (B := osl kVal s3 ((needsM i.op stk).2.1)) (C := osl kVal u2 ((needsM i.op stk).2.2))
 refine s_k 5 rfl (s_nil (q_then (c_seq (c_seq (c_reg (s_1 rfl (s_val rfl rfl (r_ne rfl rfl rfl) (s_nil (q_then ?_)))))))))
 refine c_dec rfl (fun h4 => ?_) (fun h4 => ?_)
 ·refine c_seq (c_reg (s_k 2 rfl (s_nil (q_then (c_ret (q_thenR (q_ret1 rfl rfl ?_)))))))
  replace H := H.p5.p5.p3.p3.k4
  have e : doesM dg key (⟨pos, halted, stk, g, told, vals⟩ : VM) i = ((⟨pos, halted, stk, g, told, vals⟩ : VM), (needsM i.op stk).1) := does_fail (m := (⟨pos, halted, stk, g, told, vals⟩ : VM)) h4
  have e2 := needs_same h4
  rw [e2] at H
  replace H : Hd _ _ _ [blk r (runC pv key vv fuel pos steps halted s3 g tv (.map (some mb))) 288, osl kVal s3 stk, osl kPair tv told, digsP mb] [rsl kStr vv vals, gl] := H
  exact fin ⟨s3, tv, vv, by rw [e] <;> rfl, by rw [e] <;> exact Suf.refl _ _ _, by rw [e] <;> rfl⟩ H
 ·refine c_skip (q_then (c_seq (c_seq ?_)))
  have hN0 := Classical.not_not.1 h4
  have hN := needs_len hN0
  refine c_reg (s_val rfl rfl (r_fa rfl fo223_0 rfl) (s_val rfl rfl (r_ld rfl ty3 rfl (H.cellI 3 rfl rfl)) (s_nil (q_then (c_block (c_seq (c_reg (s_val rfl rfl (r_eq rfl rfl rfl) (s_1 rfl (s_nil (q_then ?_)))))))))))
  refine c_dec rfl (fun h5 => ?_) (fun h5 => ?_)
  ·have hks : (kindsS i.op).size = 0 := by rw [h5]; rfl
   refine c_reg (s_1 rfl (s_val rfl rfl (r_nilP rfl rfl) (s_val rfl rfl (r_fa rfl fo288_6 rfl) (s_st rfl rfl rfl ty4 rfl rfl H rfl (Nat.le_of_ble_eq_true rfl) (fun u hu => by simp [Value.cells] at hu; subst hu; rfl) (fun w H => ?_)))))
   replace H := H.h1 (A := blk r (runC pv key vv fuel pos steps true s3 g tv (.map (some mb))) 288)
   refine s_nil (q_blockN (q_then (c_seq (c_reg (s_1 rfl (s_nil (q_then (c_ret (q_ret1 rfl rfl ?_)))))))))
   replace H := H.p5.p5.p3.p3.k4
   have e : doesM dg key (⟨pos, halted, stk, g, told, vals⟩ : VM) i = ((⟨pos, true, (needsM i.op stk).2.1, g, told, vals⟩ : VM), 0) := by
     rw [does_act (m := (⟨pos, halted, stk, g, told, vals⟩ : VM)) h4, act_0 h5]
     all_goals rfl
   replace H : Hd _ _ _ [blk r (runC pv key vv fuel pos steps true s3 g tv (.map (some mb))) 288, osl kVal s3 ((needsM i.op stk).2.1), osl kPair tv told, digsP mb] [rsl kStr vv vals, gl] := H
   exact fin ⟨s3, tv, vv, by rw [e] <;> rfl, by rw [e] <;> exact Suf.refl _ _ _, by rw [e] <;> rfl⟩ H
  ·refine c_seq (c_reg (s_val rfl rfl (r_eq rfl rfl rfl) (s_1 rfl (s_nil (q_then ?_)))))
   refine c_dec rfl (fun h6 => ?_) (fun h6 => ?_)
   ·have hks : (kindsS i.op).size = 0 := by rw [h6]; rfl
    refine c_seq (c_reg (s_1 rfl (s_val rfl rfl (r_fa rfl fo223_1 rfl) (s_val rfl rfl (r_ld rfl ty3 rfl (H.cellI 3 rfl rfl)) (sc (vInt_ok i.a) H l0 rfl rfl (e_fn kn266 rfl rfl) ?_)))))
    rintro _ _ w ⟨rfl, rfl⟩ H
    refine s_bsl (parts := [(0, .tmp 29)]) (vs := [.agg #[.bool false, .int .i64 i.a, .string ⟨#[]⟩]]) (cs := [.bool false, .int .i64 i.a, .string ⟨#[]⟩]) rfl rfl rfl sl282 zr284 rfl (by decide) (by decide) rfl rfl H (fun b7 w H => ?_)
    replace H := H.h1 (A := blk b7 [.bool false, .int .i64 i.a, .string ⟨#[]⟩] 284) |>.p2 |>.p2
    refine sc (push_ok r pv key vv fuel pos steps halted s3 g tv (.map (some mb)) ((needsM i.op stk).2.1) (.slice (some ⟨b7, 0, none⟩) 1 1) [(⟨false, i.a, ⟨#[]⟩⟩ : Val)] (by first | omega | exact Nat.le_trans hN.2.1 hst) (Nat.le_of_ble_eq_true rfl)) H (lA 0 rfl (fun F h => blk_rsl h rfl (by decide) (RepsR.flat_eq.2 rfl)) l0) rfl rfl (e_fn kn265 rfl rfl) ?_
    rintro _ _ w ⟨s8, rfl, rfl⟩ H
    replace H := H.h2 (A := blk r (runC pv key vv fuel pos steps halted s8 g tv (.map (some mb))) 288) (B := osl kVal s8 ((pushM ((needsM i.op stk).2.1) [(⟨false, i.a, ⟨#[]⟩⟩ : Val)]).2))
    refine s_1 rfl (s_nil (q_then (c_ret (q_blockR (q_thenR (q_ret1 rfl rfl ?_))))))
    replace H := H.p6.p6.p3.p3.k4
    have e : doesM dg key (⟨pos, halted, stk, g, told, vals⟩ : VM) i = ((⟨pos, halted, (pushM ((needsM i.op stk).2.1) [(⟨false, i.a, ⟨#[]⟩⟩ : Val)]).2, g, told, vals⟩ : VM), (pushM ((needsM i.op stk).2.1) [(⟨false, i.a, ⟨#[]⟩⟩ : Val)]).1) := by
      rw [does_act (m := (⟨pos, halted, stk, g, told, vals⟩ : VM)) h4, act_1 h6]
      all_goals rfl
    replace H : Hd _ _ _ [blk r (runC pv key vv fuel pos steps halted s8 g tv (.map (some mb))) 288, osl kVal s8 ((pushM ((needsM i.op stk).2.1) [(⟨false, i.a, ⟨#[]⟩⟩ : Val)]).2), osl kPair tv told, digsP mb] [rsl kStr vv vals, gl] := H
    exact fin ⟨s8, tv, vv, by rw [e] <;> rfl, by rw [e] <;> exact Suf.refl _ _ _, by rw [e] <;> rfl⟩ H
   ·refine c_seq (c_reg (s_val rfl rfl (r_eq rfl rfl rfl) (s_1 rfl (s_nil (q_then ?_)))))
    refine c_dec rfl (fun h9 => ?_) (fun h9 => ?_)
    ·have hks : (kindsS i.op).size = 0 := by rw [h9]; rfl
     refine c_seq (c_reg (s_1 rfl (s_val rfl rfl (r_fa rfl fo223_2 rfl) (s_val rfl rfl (r_ld rfl ty9 rfl (H.cellI 3 rfl rfl)) (sc (vBytes_ok i.s) H l0 rfl rfl (e_fn kn267 rfl rfl) ?_)))))
     rintro _ _ w ⟨rfl, rfl⟩ H
     refine s_bsl (parts := [(0, .tmp 37)]) (vs := [.agg #[.bool true, .int .i64 0, .string i.s]]) (cs := [.bool true, .int .i64 0, .string i.s]) rfl rfl rfl sl282 zr284 rfl (by decide) (by decide) rfl rfl H (fun b10 w H => ?_)
     replace H := H.h1 (A := blk b10 [.bool true, .int .i64 0, .string i.s] 284) |>.p2 |>.p2
     refine sc (push_ok r pv key vv fuel pos steps halted s3 g tv (.map (some mb)) ((needsM i.op stk).2.1) (.slice (some ⟨b10, 0, none⟩) 1 1) [(⟨true, 0, i.s⟩ : Val)] (by first | omega | exact Nat.le_trans hN.2.1 hst) (Nat.le_of_ble_eq_true rfl)) H (lA 0 rfl (fun F h => blk_rsl h rfl (by decide) (RepsR.flat_eq.2 rfl)) l0) rfl rfl (e_fn kn265 rfl rfl) ?_
     rintro _ _ w ⟨s11, rfl, rfl⟩ H
     replace H := H.h2 (A := blk r (runC pv key vv fuel pos steps halted s11 g tv (.map (some mb))) 288) (B := osl kVal s11 ((pushM ((needsM i.op stk).2.1) [(⟨true, 0, i.s⟩ : Val)]).2))
     refine s_1 rfl (s_nil (q_then (c_ret (q_blockR (q_thenR (q_ret1 rfl rfl ?_))))))
     replace H := H.p6.p6.p3.p3.k4
     have e : doesM dg key (⟨pos, halted, stk, g, told, vals⟩ : VM) i = ((⟨pos, halted, (pushM ((needsM i.op stk).2.1) [(⟨true, 0, i.s⟩ : Val)]).2, g, told, vals⟩ : VM), (pushM ((needsM i.op stk).2.1) [(⟨true, 0, i.s⟩ : Val)]).1) := by
       rw [does_act (m := (⟨pos, halted, stk, g, told, vals⟩ : VM)) h4, act_2 h9]
       all_goals rfl
     replace H : Hd _ _ _ [blk r (runC pv key vv fuel pos steps halted s11 g tv (.map (some mb))) 288, osl kVal s11 ((pushM ((needsM i.op stk).2.1) [(⟨true, 0, i.s⟩ : Val)]).2), osl kPair tv told, digsP mb] [rsl kStr vv vals, gl] := H
     exact fin ⟨s11, tv, vv, by rw [e] <;> rfl, by rw [e] <;> exact Suf.refl _ _ _, by rw [e] <;> rfl⟩ H
    ·refine c_seq (c_reg (s_val rfl rfl (r_eq rfl rfl rfl) (s_1 rfl (s_nil (q_then ?_)))))
     refine c_dec rfl (fun h12 => ?_) (fun h12 => ?_)
     ·have hks : (kindsS i.op).size = 1 := by rw [h12]; rfl
      refine c_seq ?_
      obtain ⟨A13, c14, rfl, hc15, hm16, hp17⟩ := H.fA 2 rfl
      obtain ⟨x18, hx19⟩ : ∃ z9, ((needsM i.op stk).2.2)[0]? = some z9 := ⟨_, List.getElem?_eq_getElem (show 0 < ((needsM i.op stk).2.2).length by omega)⟩
      have okx18 := hok.1 _ (hN.2.2.1 _ (at_mem hx19))
      have szx18 := okx18.2
      have inx18 := okx18.1
      replace H := H.p5.p5.p5.p5
      refine c_ord (.e 0 (.e 1 (.e 2 (.e 3 (.e 4 (.e 5 (.e 6 (.m 7 (.m 8 (.e 9 .z)))))))))) (fun w => ∃ Ar, Hd w0 F0 w (osl kVal (.slice A13 (((needsM i.op stk).2.2).length) c14) ((needsM i.op stk).2.2) :: blk b1 [.int .i64 i.op, .int .i64 i.a, .string i.s] 223 :: osl kPair tv told :: digsP mb :: Ar) [rsl kStr vv vals, gl]) mo (by kernel_rfl) (fun w H => ⟨_, H⟩) H (fun w H => (d_1 rfl (d_1 rfl ?_)))
      have th20 := H.thA 0 rfl hx19
      refine d_val rfl rfl rfl (fun w ⟨Ar, H⟩ => r_iaE (p := oOf A13 + 0 * 3) rfl sl282 rfl rfl (by omega) (by omega) th20 (by omega)) (d_val rfl rfl rfl (fun w ⟨Ar, H⟩ => r_ldA (cs := [.bool x18.t, .int .i64 x18.n, .string x18.b]) rfl ty284 rfl rfl (H.elsA 0 rfl hx19 rfl)) (d_1 rfl ?_))
      have th21 := H.thA 0 rfl hx19
      refine d_val rfl rfl rfl (fun w ⟨Ar, H⟩ => r_iaE (p := oOf A13 + 0 * 3) rfl sl282 rfl rfl (by omega) (by omega) th21 (by omega)) (d_val rfl rfl rfl (fun w ⟨Ar, H⟩ => r_ldA (cs := [.bool x18.t, .int .i64 x18.n, .string x18.b]) rfl ty284 rfl rfl (H.elsA 0 rfl hx19 rfl)) (d_main rfl (s_bsl (parts := [(0, .tmp 45), (1, .tmp 48)]) (vs := [.agg #[.bool x18.t, .int .i64 x18.n, .string x18.b], .agg #[.bool x18.t, .int .i64 x18.n, .string x18.b]]) (cs := [.bool x18.t, .int .i64 x18.n, .string x18.b, .bool x18.t, .int .i64 x18.n, .string x18.b]) rfl rfl rfl sl282 zr284 rfl (by decide) (by decide) rfl rfl H (fun b22 w H => ?_))))
      replace H := H.h1 (A := blk b22 [.bool x18.t, .int .i64 x18.n, .string x18.b, .bool x18.t, .int .i64 x18.n, .string x18.b] 284) |>.p4 |>.p4 |>.p4 |>.p4
      refine d_back ⟨_, H⟩ (d_main rfl ?_)
      replace H := H.p6.p6
      refine sc (push_ok r pv key vv fuel pos steps halted s3 g tv (.map (some mb)) ((needsM i.op stk).2.1) (.slice (some ⟨b22, 0, none⟩) 2 2) [x18, x18] (by first | omega | exact Nat.le_trans hN.2.1 hst) (Nat.le_of_ble_eq_true rfl)) H (lA 4 rfl (fun F h => blk_rsl h rfl (by decide) (RepsR.flat_eq.2 rfl)) l0) rfl rfl (e_fn kn265 rfl rfl) ?_
      rintro _ _ w ⟨s23, rfl, rfl⟩ H
      replace H := H.h2 (A := blk r (runC pv key vv fuel pos steps halted s23 g tv (.map (some mb))) 288) (B := osl kVal s23 ((pushM ((needsM i.op stk).2.1) [x18, x18]).2)) |>.p5 |>.p5 |>.p5 |>.p5
      refine d_back ⟨_, H⟩ (d_1 rfl (d_nil (q_then (c_ret (q_blockR (q_thenR (q_ret1 rfl rfl ?_)))))))
      replace H := H.p3.p3.p5.p5.k4
      have e : doesM dg key (⟨pos, halted, stk, g, told, vals⟩ : VM) i = ((⟨pos, halted, (pushM ((needsM i.op stk).2.1) [x18, x18]).2, g, told, vals⟩ : VM), (pushM ((needsM i.op stk).2.1) [x18, x18]).1) := by
        rw [does_act (m := (⟨pos, halted, stk, g, told, vals⟩ : VM)) h4, act_3 h12]
        rw [getD_at hx19] <;> rfl
      replace H : Hd _ _ _ [blk r (runC pv key vv fuel pos steps halted s23 g tv (.map (some mb))) 288, osl kVal s23 ((pushM ((needsM i.op stk).2.1) [x18, x18]).2), osl kPair tv told, digsP mb] [rsl kStr vv vals, gl] := H
      exact fin ⟨s23, tv, vv, by rw [e] <;> rfl, by rw [e] <;> exact Suf.refl _ _ _, by rw [e] <;> rfl⟩ H
     ·refine c_seq (c_reg (s_val rfl rfl (r_eq rfl rfl rfl) (s_1 rfl (s_nil (q_then ?_)))))
      refine c_dec rfl (fun h24 => ?_) (fun h24 => ?_)
      ·have hks : (kindsS i.op).size = 2 := by rw [h24]; rfl
       refine c_seq ?_
       obtain ⟨A25, c26, rfl, hc27, hm28, hp29⟩ := H.fA 2 rfl
       obtain ⟨x30, hx31⟩ : ∃ z9, ((needsM i.op stk).2.2)[0]? = some z9 := ⟨_, List.getElem?_eq_getElem (show 0 < ((needsM i.op stk).2.2).length by omega)⟩
       have okx30 := hok.1 _ (hN.2.2.1 _ (at_mem hx31))
       have szx30 := okx30.2
       have inx30 := okx30.1
       obtain ⟨x32, hx33⟩ : ∃ z9, ((needsM i.op stk).2.2)[1]? = some z9 := ⟨_, List.getElem?_eq_getElem (show 1 < ((needsM i.op stk).2.2).length by omega)⟩
       have okx32 := hok.1 _ (hN.2.2.1 _ (at_mem hx33))
       have szx32 := okx32.2
       have inx32 := okx32.1
       replace H := H.p5.p5.p5.p5
       refine c_ord (.e 0 (.e 1 (.e 2 (.e 3 (.e 4 (.e 5 (.e 6 (.m 7 (.m 8 (.e 9 .z)))))))))) (fun w => ∃ Ar, Hd w0 F0 w (osl kVal (.slice A25 (((needsM i.op stk).2.2).length) c26) ((needsM i.op stk).2.2) :: blk b1 [.int .i64 i.op, .int .i64 i.a, .string i.s] 223 :: osl kPair tv told :: digsP mb :: Ar) [rsl kStr vv vals, gl]) mo (by kernel_rfl) (fun w H => ⟨_, H⟩) H (fun w H => (d_1 rfl (d_1 rfl ?_)))
       have th34 := H.thA 0 rfl hx33
       refine d_val rfl rfl rfl (fun w ⟨Ar, H⟩ => r_iaE (p := oOf A25 + 1 * 3) rfl sl282 rfl rfl (by omega) (by omega) th34 (by omega)) (d_val rfl rfl rfl (fun w ⟨Ar, H⟩ => r_ldA (cs := [.bool x32.t, .int .i64 x32.n, .string x32.b]) rfl ty284 rfl rfl (H.elsA 0 rfl hx33 rfl)) (d_1 rfl ?_))
       have th35 := H.thA 0 rfl hx31
       refine d_val rfl rfl rfl (fun w ⟨Ar, H⟩ => r_iaE (p := oOf A25 + 0 * 3) rfl sl282 rfl rfl (by omega) (by omega) th35 (by omega)) (d_val rfl rfl rfl (fun w ⟨Ar, H⟩ => r_ldA (cs := [.bool x30.t, .int .i64 x30.n, .string x30.b]) rfl ty284 rfl rfl (H.elsA 0 rfl hx31 rfl)) (d_main rfl (s_bsl (parts := [(0, .tmp 56), (1, .tmp 59)]) (vs := [.agg #[.bool x32.t, .int .i64 x32.n, .string x32.b], .agg #[.bool x30.t, .int .i64 x30.n, .string x30.b]]) (cs := [.bool x32.t, .int .i64 x32.n, .string x32.b, .bool x30.t, .int .i64 x30.n, .string x30.b]) rfl rfl rfl sl282 zr284 rfl (by decide) (by decide) rfl rfl H (fun b36 w H => ?_))))
       replace H := H.h1 (A := blk b36 [.bool x32.t, .int .i64 x32.n, .string x32.b, .bool x30.t, .int .i64 x30.n, .string x30.b] 284) |>.p4 |>.p4 |>.p4 |>.p4
       refine d_back ⟨_, H⟩ (d_main rfl ?_)
       replace H := H.p6.p6
       refine sc (push_ok r pv key vv fuel pos steps halted s3 g tv (.map (some mb)) ((needsM i.op stk).2.1) (.slice (some ⟨b36, 0, none⟩) 2 2) [x32, x30] (by first | omega | exact Nat.le_trans hN.2.1 hst) (Nat.le_of_ble_eq_true rfl)) H (lA 4 rfl (fun F h => blk_rsl h rfl (by decide) (RepsR.flat_eq.2 rfl)) l0) rfl rfl (e_fn kn265 rfl rfl) ?_
       rintro _ _ w ⟨s37, rfl, rfl⟩ H
       replace H := H.h2 (A := blk r (runC pv key vv fuel pos steps halted s37 g tv (.map (some mb))) 288) (B := osl kVal s37 ((pushM ((needsM i.op stk).2.1) [x32, x30]).2)) |>.p5 |>.p5 |>.p5 |>.p5
       refine d_back ⟨_, H⟩ (d_1 rfl (d_nil (q_then (c_ret (q_blockR (q_thenR (q_ret1 rfl rfl ?_)))))))
       replace H := H.p3.p3.p5.p5.k4
       have e : doesM dg key (⟨pos, halted, stk, g, told, vals⟩ : VM) i = ((⟨pos, halted, (pushM ((needsM i.op stk).2.1) [x32, x30]).2, g, told, vals⟩ : VM), (pushM ((needsM i.op stk).2.1) [x32, x30]).1) := by
         rw [does_act (m := (⟨pos, halted, stk, g, told, vals⟩ : VM)) h4, act_5 h24]
         rw [getD_at hx31, getD_at hx33] <;> rfl
       replace H : Hd _ _ _ [blk r (runC pv key vv fuel pos steps halted s37 g tv (.map (some mb))) 288, osl kVal s37 ((pushM ((needsM i.op stk).2.1) [x32, x30]).2), osl kPair tv told, digsP mb] [rsl kStr vv vals, gl] := H
       exact fin ⟨s37, tv, vv, by rw [e] <;> rfl, by rw [e] <;> exact Suf.refl _ _ _, by rw [e] <;> rfl⟩ H
      ·refine c_seq (c_reg (s_val rfl rfl (r_eq rfl rfl rfl) (s_1 rfl (s_nil (q_then ?_)))))
       refine c_dec rfl (fun h38 => ?_) (fun h38 => ?_)
       ·have hks : (kindsS i.op).size = 0 := by rw [h38]; rfl
        refine c_seq (c_reg (s_k 2 rfl (s_val rfl rfl (r_nilP rfl rfl) (s_val rfl rfl (r_fa rfl fo288_1 rfl) (s_val rfl rfl (r_ld rfl ty9 rfl (H.cellI 0 rfl rfl)) (sc (vBytes_ok key) H l0 rfl rfl (e_fn kn267 rfl rfl) ?_))))))
        rintro _ _ w ⟨rfl, rfl⟩ H
        refine s_bsl (parts := [(0, .tmp 69)]) (vs := [.agg #[.bool true, .int .i64 0, .string key]]) (cs := [.bool true, .int .i64 0, .string key]) rfl rfl rfl sl282 zr284 rfl (by decide) (by decide) rfl rfl H (fun b39 w H => ?_)
        replace H := H.h1 (A := blk b39 [.bool true, .int .i64 0, .string key] 284) |>.p2 |>.p2
        refine sc (push_ok r pv key vv fuel pos steps halted s3 g tv (.map (some mb)) ((needsM i.op stk).2.1) (.slice (some ⟨b39, 0, none⟩) 1 1) [(⟨true, 0, key⟩ : Val)] (by first | omega | exact Nat.le_trans hN.2.1 hst) (Nat.le_of_ble_eq_true rfl)) H (lA 0 rfl (fun F h => blk_rsl h rfl (by decide) (RepsR.flat_eq.2 rfl)) l0) rfl rfl (e_fn kn265 rfl rfl) ?_
        rintro _ _ w ⟨s40, rfl, rfl⟩ H
        replace H := H.h2 (A := blk r (runC pv key vv fuel pos steps halted s40 g tv (.map (some mb))) 288) (B := osl kVal s40 ((pushM ((needsM i.op stk).2.1) [(⟨true, 0, key⟩ : Val)]).2))
        refine s_1 rfl (s_nil (q_then (c_ret (q_blockR (q_thenR (q_ret1 rfl rfl ?_))))))
        replace H := H.p6.p6.p3.p3.k4
        have e : doesM dg key (⟨pos, halted, stk, g, told, vals⟩ : VM) i = ((⟨pos, halted, (pushM ((needsM i.op stk).2.1) [(⟨true, 0, key⟩ : Val)]).2, g, told, vals⟩ : VM), (pushM ((needsM i.op stk).2.1) [(⟨true, 0, key⟩ : Val)]).1) := by
          rw [does_act (m := (⟨pos, halted, stk, g, told, vals⟩ : VM)) h4, act_6 h38]
          all_goals rfl
        replace H : Hd _ _ _ [blk r (runC pv key vv fuel pos steps halted s40 g tv (.map (some mb))) 288, osl kVal s40 ((pushM ((needsM i.op stk).2.1) [(⟨true, 0, key⟩ : Val)]).2), osl kPair tv told, digsP mb] [rsl kStr vv vals, gl] := H
        exact fin ⟨s40, tv, vv, by rw [e] <;> rfl, by rw [e] <;> exact Suf.refl _ _ _, by rw [e] <;> rfl⟩ H
       ·refine c_seq (c_reg (s_val rfl rfl (r_eq rfl rfl rfl) (s_1 rfl (s_nil (q_then ?_)))))
        refine c_dec rfl (fun h41 => ?_) (fun h41 => ?_)
        ·have hks : (kindsS i.op).size = 0 := by rw [h41]; rfl
         refine c_seq (c_reg (s_1 rfl (sc (next_ok r pv key vv fuel pos steps halted s3 g tv (.map (some mb)) ((needsM i.op stk).2.1) vals (by first | omega | exact Nat.le_trans hN.2.1 hst)) H (lR 0 rfl l0) rfl rfl (e_fn kn268 rfl rfl) ?_)))
         rintro _ _ w ⟨s42, vv43, rfl, hsuf44, rfl⟩ H
         replace H := H.h2 (A := blk r (runC pv key vv43 fuel pos steps halted s42 g tv (.map (some mb))) 288) (B := osl kVal s42 ((nextS ((needsM i.op stk).2.1) vals).2.1))
         refine s_1 rfl (s_nil (q_then (c_ret (q_blockR (q_thenR (q_ret1 rfl rfl ?_))))))
         replace H := H.p5.p5.p3.p3.k4
         have e : doesM dg key (⟨pos, halted, stk, g, told, vals⟩ : VM) i = ((⟨pos, halted, (nextS ((needsM i.op stk).2.1) vals).2.1, g, told, (nextS (needsM i.op stk).2.1 vals).2.2⟩ : VM), (nextS ((needsM i.op stk).2.1) vals).1) := by
           rw [does_act (m := (⟨pos, halted, stk, g, told, vals⟩ : VM)) h4, act_7 h41]
           rw [next_S]
         replace H : Hd _ _ _ [blk r (runC pv key vv43 fuel pos steps halted s42 g tv (.map (some mb))) 288, osl kVal s42 ((nextS ((needsM i.op stk).2.1) vals).2.1), osl kPair tv told, digsP mb] [rsl kStr vv vals, gl] := H
         exact fin ⟨s42, tv, vv43, by rw [e] <;> rfl, by rw [e] <;> exact hsuf44, by rw [e] <;> rfl⟩ H
        ·refine c_seq (c_seq (c_reg (s_val rfl rfl (r_eq rfl rfl rfl) (s_1 rfl (s_nil (q_then ?_))))))
         refine c_dec rfl (fun h45 => ?_) (fun h45 => ?_)
         ·have hks : (kindsS i.op).size = 2 := by rw [h45]; rfl
          refine c_skip (q_then ?_)
          refine c_dec rfl (fun h46 => ?_) (fun h46 => ?_)
          ·have hks : (kindsS i.op).size = 2 := by rw [h46]; rfl
           refine c_seq ?_
           obtain ⟨A47, c48, rfl, hc49, hm50, hp51⟩ := H.fA 2 rfl
           obtain ⟨x52, hx53⟩ : ∃ z9, ((needsM i.op stk).2.2)[0]? = some z9 := ⟨_, List.getElem?_eq_getElem (show 0 < ((needsM i.op stk).2.2).length by omega)⟩
           have okx52 := hok.1 _ (hN.2.2.1 _ (at_mem hx53))
           have szx52 := okx52.2
           have inx52 := okx52.1
           obtain ⟨x54, hx55⟩ : ∃ z9, ((needsM i.op stk).2.2)[1]? = some z9 := ⟨_, List.getElem?_eq_getElem (show 1 < ((needsM i.op stk).2.2).length by omega)⟩
           have okx54 := hok.1 _ (hN.2.2.1 _ (at_mem hx55))
           have szx54 := okx54.2
           have inx54 := okx54.1
           replace H := H.p5.p5.p5.p5
           refine c_ord (.e 0 (.e 1 (.e 2 (.e 3 (.e 4 (.e 5 (.e 6 (.e 7 (.e 8 (.e 9 (.e 10 (.m 11 (.m 12 (.m 13 (.e 14 .z))))))))))))))) (fun w => ∃ Ar, Hd w0 F0 w (osl kVal (.slice A47 (((needsM i.op stk).2.2).length) c48) ((needsM i.op stk).2.2) :: blk b1 [.int .i64 i.op, .int .i64 i.a, .string i.s] 223 :: osl kPair tv told :: digsP mb :: Ar) [rsl kStr vv vals, gl]) mo (by kernel_rfl) (fun w H => ⟨_, H⟩) H (fun w H => (d_1 rfl (d_val rfl rfl rfl (fun w ⟨Ar, H⟩ => r_fa rfl fo223_0 rfl) (d_val rfl rfl rfl (fun w ⟨Ar, H⟩ => r_ld rfl ty3 rfl (H.cellI 1 rfl rfl)) (d_1 rfl ?_)))))
           have th56 := H.thA 0 rfl hx53
           refine d_val rfl rfl rfl (fun w ⟨Ar, H⟩ => r_iaE (p := oOf A47 + 0 * 3) rfl sl282 rfl rfl (by omega) (by omega) th56 (by omega)) (d_val rfl rfl rfl (fun w ⟨Ar, H⟩ => r_fa rfl fo284_1 rfl) (d_val rfl rfl rfl (fun w ⟨Ar, H⟩ => r_ld rfl ty2 rfl (H.elA 0 rfl hx53 (q := 1) rfl rfl)) (d_1 rfl ?_)))
           have th57 := H.thA 0 rfl hx55
           refine d_val rfl rfl rfl (fun w ⟨Ar, H⟩ => r_iaE (p := oOf A47 + 1 * 3) rfl sl282 rfl rfl (by omega) (by omega) th57 (by omega)) (d_val rfl rfl rfl (fun w ⟨Ar, H⟩ => r_fa rfl fo284_1 rfl) (d_val rfl rfl rfl (fun w ⟨Ar, H⟩ => r_ld rfl ty2 rfl (H.elA 0 rfl hx55 (q := 1) rfl rfl)) (d_main rfl (sc (numbers_ok i.op x52.n x54.n) H l0 rfl rfl (e_fn kn269 rfl rfl) ?_))))
           rintro _ _ w ⟨rfl, rfl⟩ H
           refine d_back ⟨_, H⟩ (d_main rfl (s_bsl (parts := [(0, .tmp 92)]) (vs := [.agg #[.bool ((numM i.op x52.n x54.n).t), .int .i64 ((numM i.op x52.n x54.n).n), .string ((numM i.op x52.n x54.n).b)]]) (cs := [.bool ((numM i.op x52.n x54.n).t), .int .i64 ((numM i.op x52.n x54.n).n), .string ((numM i.op x52.n x54.n).b)]) rfl rfl rfl sl282 zr284 rfl (by decide) (by decide) rfl rfl H (fun b58 w H => ?_)))
           replace H := H.h1 (A := blk b58 [.bool ((numM i.op x52.n x54.n).t), .int .i64 ((numM i.op x52.n x54.n).n), .string ((numM i.op x52.n x54.n).b)] 284) |>.p4 |>.p4 |>.p4 |>.p4
           refine d_back ⟨_, H⟩ (d_main rfl ?_)
           replace H := H.p6.p6
           refine sc (push_ok r pv key vv fuel pos steps halted s3 g tv (.map (some mb)) ((needsM i.op stk).2.1) (.slice (some ⟨b58, 0, none⟩) 1 1) [(numM i.op x52.n x54.n)] (by first | omega | exact Nat.le_trans hN.2.1 hst) (Nat.le_of_ble_eq_true rfl)) H (lA 4 rfl (fun F h => blk_rsl h rfl (by decide) (RepsR.flat_eq.2 rfl)) l0) rfl rfl (e_fn kn265 rfl rfl) ?_
           rintro _ _ w ⟨s59, rfl, rfl⟩ H
           replace H := H.h2 (A := blk r (runC pv key vv fuel pos steps halted s59 g tv (.map (some mb))) 288) (B := osl kVal s59 ((pushM ((needsM i.op stk).2.1) [(numM i.op x52.n x54.n)]).2)) |>.p5 |>.p5 |>.p5 |>.p5
           refine d_back ⟨_, H⟩ (d_1 rfl (d_nil (q_then (c_ret (q_blockR (q_thenR (q_ret1 rfl rfl ?_)))))))
           replace H := H.p3.p3.p5.p5.k4
           have e : doesM dg key (⟨pos, halted, stk, g, told, vals⟩ : VM) i = ((⟨pos, halted, (pushM ((needsM i.op stk).2.1) [(numM i.op x52.n x54.n)]).2, g, told, vals⟩ : VM), (pushM ((needsM i.op stk).2.1) [(numM i.op x52.n x54.n)]).1) := by
             rw [does_act (m := (⟨pos, halted, stk, g, told, vals⟩ : VM)) h4, act_8 (by omega)]
             rw [getD_at hx53, getD_at hx55] <;> rfl
           replace H : Hd _ _ _ [blk r (runC pv key vv fuel pos steps halted s59 g tv (.map (some mb))) 288, osl kVal s59 ((pushM ((needsM i.op stk).2.1) [(numM i.op x52.n x54.n)]).2), osl kPair tv told, digsP mb] [rsl kStr vv vals, gl] := H
           exact fin ⟨s59, tv, vv, by rw [e] <;> rfl, by rw [e] <;> exact Suf.refl _ _ _, by rw [e] <;> rfl⟩ H
          ·exact absurd h45 h46
         ·refine c_seq (c_reg (s_val rfl rfl (r_eq rfl rfl rfl) (s_1 rfl (s_nil (q_then ?_)))))
          refine c_dec rfl (fun h60 => ?_) (fun h60 => ?_)
          ·have hks : (kindsS i.op).size = 2 := by rw [h60]; rfl
           refine c_skip (q_then ?_)
           refine c_dec rfl (fun h61 => ?_) (fun h61 => ?_)
           ·have hks : (kindsS i.op).size = 2 := by rw [h61]; rfl
            refine c_seq ?_
            obtain ⟨A62, c63, rfl, hc64, hm65, hp66⟩ := H.fA 2 rfl
            obtain ⟨x67, hx68⟩ : ∃ z9, ((needsM i.op stk).2.2)[0]? = some z9 := ⟨_, List.getElem?_eq_getElem (show 0 < ((needsM i.op stk).2.2).length by omega)⟩
            have okx67 := hok.1 _ (hN.2.2.1 _ (at_mem hx68))
            have szx67 := okx67.2
            have inx67 := okx67.1
            obtain ⟨x69, hx70⟩ : ∃ z9, ((needsM i.op stk).2.2)[1]? = some z9 := ⟨_, List.getElem?_eq_getElem (show 1 < ((needsM i.op stk).2.2).length by omega)⟩
            have okx69 := hok.1 _ (hN.2.2.1 _ (at_mem hx70))
            have szx69 := okx69.2
            have inx69 := okx69.1
            replace H := H.p5.p5.p5.p5
            refine c_ord (.e 0 (.e 1 (.e 2 (.e 3 (.e 4 (.e 5 (.e 6 (.e 7 (.e 8 (.e 9 (.e 10 (.m 11 (.m 12 (.m 13 (.e 14 .z))))))))))))))) (fun w => ∃ Ar, Hd w0 F0 w (osl kVal (.slice A62 (((needsM i.op stk).2.2).length) c63) ((needsM i.op stk).2.2) :: blk b1 [.int .i64 i.op, .int .i64 i.a, .string i.s] 223 :: osl kPair tv told :: digsP mb :: Ar) [rsl kStr vv vals, gl]) mo (by kernel_rfl) (fun w H => ⟨_, H⟩) H (fun w H => (d_1 rfl (d_val rfl rfl rfl (fun w ⟨Ar, H⟩ => r_fa rfl fo223_0 rfl) (d_val rfl rfl rfl (fun w ⟨Ar, H⟩ => r_ld rfl ty3 rfl (H.cellI 1 rfl rfl)) (d_1 rfl ?_)))))
            have th71 := H.thA 0 rfl hx68
            refine d_val rfl rfl rfl (fun w ⟨Ar, H⟩ => r_iaE (p := oOf A62 + 0 * 3) rfl sl282 rfl rfl (by omega) (by omega) th71 (by omega)) (d_val rfl rfl rfl (fun w ⟨Ar, H⟩ => r_fa rfl fo284_1 rfl) (d_val rfl rfl rfl (fun w ⟨Ar, H⟩ => r_ld rfl ty2 rfl (H.elA 0 rfl hx68 (q := 1) rfl rfl)) (d_1 rfl ?_)))
            have th72 := H.thA 0 rfl hx70
            refine d_val rfl rfl rfl (fun w ⟨Ar, H⟩ => r_iaE (p := oOf A62 + 1 * 3) rfl sl282 rfl rfl (by omega) (by omega) th72 (by omega)) (d_val rfl rfl rfl (fun w ⟨Ar, H⟩ => r_fa rfl fo284_1 rfl) (d_val rfl rfl rfl (fun w ⟨Ar, H⟩ => r_ld rfl ty2 rfl (H.elA 0 rfl hx70 (q := 1) rfl rfl)) (d_main rfl (sc (numbers_ok i.op x67.n x69.n) H l0 rfl rfl (e_fn kn269 rfl rfl) ?_))))
            rintro _ _ w ⟨rfl, rfl⟩ H
            refine d_back ⟨_, H⟩ (d_main rfl (s_bsl (parts := [(0, .tmp 92)]) (vs := [.agg #[.bool ((numM i.op x67.n x69.n).t), .int .i64 ((numM i.op x67.n x69.n).n), .string ((numM i.op x67.n x69.n).b)]]) (cs := [.bool ((numM i.op x67.n x69.n).t), .int .i64 ((numM i.op x67.n x69.n).n), .string ((numM i.op x67.n x69.n).b)]) rfl rfl rfl sl282 zr284 rfl (by decide) (by decide) rfl rfl H (fun b73 w H => ?_)))
            replace H := H.h1 (A := blk b73 [.bool ((numM i.op x67.n x69.n).t), .int .i64 ((numM i.op x67.n x69.n).n), .string ((numM i.op x67.n x69.n).b)] 284) |>.p4 |>.p4 |>.p4 |>.p4
            refine d_back ⟨_, H⟩ (d_main rfl ?_)
            replace H := H.p6.p6
            refine sc (push_ok r pv key vv fuel pos steps halted s3 g tv (.map (some mb)) ((needsM i.op stk).2.1) (.slice (some ⟨b73, 0, none⟩) 1 1) [(numM i.op x67.n x69.n)] (by first | omega | exact Nat.le_trans hN.2.1 hst) (Nat.le_of_ble_eq_true rfl)) H (lA 4 rfl (fun F h => blk_rsl h rfl (by decide) (RepsR.flat_eq.2 rfl)) l0) rfl rfl (e_fn kn265 rfl rfl) ?_
            rintro _ _ w ⟨s74, rfl, rfl⟩ H
            replace H := H.h2 (A := blk r (runC pv key vv fuel pos steps halted s74 g tv (.map (some mb))) 288) (B := osl kVal s74 ((pushM ((needsM i.op stk).2.1) [(numM i.op x67.n x69.n)]).2)) |>.p5 |>.p5 |>.p5 |>.p5
            refine d_back ⟨_, H⟩ (d_1 rfl (d_nil (q_then (c_ret (q_blockR (q_thenR (q_ret1 rfl rfl ?_)))))))
            replace H := H.p3.p3.p5.p5.k4
            have e : doesM dg key (⟨pos, halted, stk, g, told, vals⟩ : VM) i = ((⟨pos, halted, (pushM ((needsM i.op stk).2.1) [(numM i.op x67.n x69.n)]).2, g, told, vals⟩ : VM), (pushM ((needsM i.op stk).2.1) [(numM i.op x67.n x69.n)]).1) := by
              rw [does_act (m := (⟨pos, halted, stk, g, told, vals⟩ : VM)) h4, act_8 (by omega)]
              rw [getD_at hx68, getD_at hx70] <;> rfl
            replace H : Hd _ _ _ [blk r (runC pv key vv fuel pos steps halted s74 g tv (.map (some mb))) 288, osl kVal s74 ((pushM ((needsM i.op stk).2.1) [(numM i.op x67.n x69.n)]).2), osl kPair tv told, digsP mb] [rsl kStr vv vals, gl] := H
            exact fin ⟨s74, tv, vv, by rw [e] <;> rfl, by rw [e] <;> exact Suf.refl _ _ _, by rw [e] <;> rfl⟩ H
           ·exact absurd h60 h61
          ·refine c_seq (c_reg (s_val rfl rfl (r_eq rfl rfl rfl) (s_1 rfl (s_nil (q_then ?_)))))
           refine c_dec rfl (fun h75 => ?_) (fun h75 => ?_)
           ·have hks : (kindsS i.op).size = 2 := by rw [h75]; rfl
            refine c_skip (q_then ?_)
            refine c_dec rfl (fun h76 => ?_) (fun h76 => ?_)
            ·have hks : (kindsS i.op).size = 2 := by rw [h76]; rfl
             refine c_seq ?_
             obtain ⟨A77, c78, rfl, hc79, hm80, hp81⟩ := H.fA 2 rfl
             obtain ⟨x82, hx83⟩ : ∃ z9, ((needsM i.op stk).2.2)[0]? = some z9 := ⟨_, List.getElem?_eq_getElem (show 0 < ((needsM i.op stk).2.2).length by omega)⟩
             have okx82 := hok.1 _ (hN.2.2.1 _ (at_mem hx83))
             have szx82 := okx82.2
             have inx82 := okx82.1
             obtain ⟨x84, hx85⟩ : ∃ z9, ((needsM i.op stk).2.2)[1]? = some z9 := ⟨_, List.getElem?_eq_getElem (show 1 < ((needsM i.op stk).2.2).length by omega)⟩
             have okx84 := hok.1 _ (hN.2.2.1 _ (at_mem hx85))
             have szx84 := okx84.2
             have inx84 := okx84.1
             replace H := H.p5.p5.p5.p5
             refine c_ord (.e 0 (.e 1 (.e 2 (.e 3 (.e 4 (.e 5 (.e 6 (.e 7 (.e 8 (.e 9 (.e 10 (.m 11 (.m 12 (.m 13 (.e 14 .z))))))))))))))) (fun w => ∃ Ar, Hd w0 F0 w (osl kVal (.slice A77 (((needsM i.op stk).2.2).length) c78) ((needsM i.op stk).2.2) :: blk b1 [.int .i64 i.op, .int .i64 i.a, .string i.s] 223 :: osl kPair tv told :: digsP mb :: Ar) [rsl kStr vv vals, gl]) mo (by kernel_rfl) (fun w H => ⟨_, H⟩) H (fun w H => (d_1 rfl (d_val rfl rfl rfl (fun w ⟨Ar, H⟩ => r_fa rfl fo223_0 rfl) (d_val rfl rfl rfl (fun w ⟨Ar, H⟩ => r_ld rfl ty3 rfl (H.cellI 1 rfl rfl)) (d_1 rfl ?_)))))
             have th86 := H.thA 0 rfl hx83
             refine d_val rfl rfl rfl (fun w ⟨Ar, H⟩ => r_iaE (p := oOf A77 + 0 * 3) rfl sl282 rfl rfl (by omega) (by omega) th86 (by omega)) (d_val rfl rfl rfl (fun w ⟨Ar, H⟩ => r_fa rfl fo284_1 rfl) (d_val rfl rfl rfl (fun w ⟨Ar, H⟩ => r_ld rfl ty2 rfl (H.elA 0 rfl hx83 (q := 1) rfl rfl)) (d_1 rfl ?_)))
             have th87 := H.thA 0 rfl hx85
             refine d_val rfl rfl rfl (fun w ⟨Ar, H⟩ => r_iaE (p := oOf A77 + 1 * 3) rfl sl282 rfl rfl (by omega) (by omega) th87 (by omega)) (d_val rfl rfl rfl (fun w ⟨Ar, H⟩ => r_fa rfl fo284_1 rfl) (d_val rfl rfl rfl (fun w ⟨Ar, H⟩ => r_ld rfl ty2 rfl (H.elA 0 rfl hx85 (q := 1) rfl rfl)) (d_main rfl (sc (numbers_ok i.op x82.n x84.n) H l0 rfl rfl (e_fn kn269 rfl rfl) ?_))))
             rintro _ _ w ⟨rfl, rfl⟩ H
             refine d_back ⟨_, H⟩ (d_main rfl (s_bsl (parts := [(0, .tmp 92)]) (vs := [.agg #[.bool ((numM i.op x82.n x84.n).t), .int .i64 ((numM i.op x82.n x84.n).n), .string ((numM i.op x82.n x84.n).b)]]) (cs := [.bool ((numM i.op x82.n x84.n).t), .int .i64 ((numM i.op x82.n x84.n).n), .string ((numM i.op x82.n x84.n).b)]) rfl rfl rfl sl282 zr284 rfl (by decide) (by decide) rfl rfl H (fun b88 w H => ?_)))
             replace H := H.h1 (A := blk b88 [.bool ((numM i.op x82.n x84.n).t), .int .i64 ((numM i.op x82.n x84.n).n), .string ((numM i.op x82.n x84.n).b)] 284) |>.p4 |>.p4 |>.p4 |>.p4
             refine d_back ⟨_, H⟩ (d_main rfl ?_)
             replace H := H.p6.p6
             refine sc (push_ok r pv key vv fuel pos steps halted s3 g tv (.map (some mb)) ((needsM i.op stk).2.1) (.slice (some ⟨b88, 0, none⟩) 1 1) [(numM i.op x82.n x84.n)] (by first | omega | exact Nat.le_trans hN.2.1 hst) (Nat.le_of_ble_eq_true rfl)) H (lA 4 rfl (fun F h => blk_rsl h rfl (by decide) (RepsR.flat_eq.2 rfl)) l0) rfl rfl (e_fn kn265 rfl rfl) ?_
             rintro _ _ w ⟨s89, rfl, rfl⟩ H
             replace H := H.h2 (A := blk r (runC pv key vv fuel pos steps halted s89 g tv (.map (some mb))) 288) (B := osl kVal s89 ((pushM ((needsM i.op stk).2.1) [(numM i.op x82.n x84.n)]).2)) |>.p5 |>.p5 |>.p5 |>.p5
             refine d_back ⟨_, H⟩ (d_1 rfl (d_nil (q_then (c_ret (q_blockR (q_thenR (q_ret1 rfl rfl ?_)))))))
             replace H := H.p3.p3.p5.p5.k4
             have e : doesM dg key (⟨pos, halted, stk, g, told, vals⟩ : VM) i = ((⟨pos, halted, (pushM ((needsM i.op stk).2.1) [(numM i.op x82.n x84.n)]).2, g, told, vals⟩ : VM), (pushM ((needsM i.op stk).2.1) [(numM i.op x82.n x84.n)]).1) := by
               rw [does_act (m := (⟨pos, halted, stk, g, told, vals⟩ : VM)) h4, act_8 (by omega)]
               rw [getD_at hx83, getD_at hx85] <;> rfl
             replace H : Hd _ _ _ [blk r (runC pv key vv fuel pos steps halted s89 g tv (.map (some mb))) 288, osl kVal s89 ((pushM ((needsM i.op stk).2.1) [(numM i.op x82.n x84.n)]).2), osl kPair tv told, digsP mb] [rsl kStr vv vals, gl] := H
             exact fin ⟨s89, tv, vv, by rw [e] <;> rfl, by rw [e] <;> exact Suf.refl _ _ _, by rw [e] <;> rfl⟩ H
            ·exact absurd h75 h76
           ·refine c_reg (s_val rfl rfl (r_eq rfl rfl rfl) (s_1 rfl (s_nil (q_then ?_))))
            refine c_dec rfl (fun h90 => ?_) (fun h90 => ?_)
            ·have hks : (kindsS i.op).size = 2 := by rw [h90]; rfl
             refine c_seq ?_
             obtain ⟨A91, c92, rfl, hc93, hm94, hp95⟩ := H.fA 2 rfl
             obtain ⟨x96, hx97⟩ : ∃ z9, ((needsM i.op stk).2.2)[0]? = some z9 := ⟨_, List.getElem?_eq_getElem (show 0 < ((needsM i.op stk).2.2).length by omega)⟩
             have okx96 := hok.1 _ (hN.2.2.1 _ (at_mem hx97))
             have szx96 := okx96.2
             have inx96 := okx96.1
             obtain ⟨x98, hx99⟩ : ∃ z9, ((needsM i.op stk).2.2)[1]? = some z9 := ⟨_, List.getElem?_eq_getElem (show 1 < ((needsM i.op stk).2.2).length by omega)⟩
             have okx98 := hok.1 _ (hN.2.2.1 _ (at_mem hx99))
             have szx98 := okx98.2
             have inx98 := okx98.1
             replace H := H.p5.p5.p5.p5
             refine c_ord (.e 0 (.e 1 (.e 2 (.e 3 (.e 4 (.e 5 (.e 6 (.e 7 (.e 8 (.e 9 (.e 10 (.m 11 (.m 12 (.m 13 (.e 14 .z))))))))))))))) (fun w => ∃ Ar, Hd w0 F0 w (osl kVal (.slice A91 (((needsM i.op stk).2.2).length) c92) ((needsM i.op stk).2.2) :: blk b1 [.int .i64 i.op, .int .i64 i.a, .string i.s] 223 :: osl kPair tv told :: digsP mb :: Ar) [rsl kStr vv vals, gl]) mo (by kernel_rfl) (fun w H => ⟨_, H⟩) H (fun w H => (d_1 rfl (d_val rfl rfl rfl (fun w ⟨Ar, H⟩ => r_fa rfl fo223_0 rfl) (d_val rfl rfl rfl (fun w ⟨Ar, H⟩ => r_ld rfl ty3 rfl (H.cellI 1 rfl rfl)) (d_1 rfl ?_)))))
             have th100 := H.thA 0 rfl hx97
             refine d_val rfl rfl rfl (fun w ⟨Ar, H⟩ => r_iaE (p := oOf A91 + 0 * 3) rfl sl282 rfl rfl (by omega) (by omega) th100 (by omega)) (d_val rfl rfl rfl (fun w ⟨Ar, H⟩ => r_fa rfl fo284_1 rfl) (d_val rfl rfl rfl (fun w ⟨Ar, H⟩ => r_ld rfl ty2 rfl (H.elA 0 rfl hx97 (q := 1) rfl rfl)) (d_1 rfl ?_)))
             have th101 := H.thA 0 rfl hx99
             refine d_val rfl rfl rfl (fun w ⟨Ar, H⟩ => r_iaE (p := oOf A91 + 1 * 3) rfl sl282 rfl rfl (by omega) (by omega) th101 (by omega)) (d_val rfl rfl rfl (fun w ⟨Ar, H⟩ => r_fa rfl fo284_1 rfl) (d_val rfl rfl rfl (fun w ⟨Ar, H⟩ => r_ld rfl ty2 rfl (H.elA 0 rfl hx99 (q := 1) rfl rfl)) (d_main rfl (sc (numbers_ok i.op x96.n x98.n) H l0 rfl rfl (e_fn kn269 rfl rfl) ?_))))
             rintro _ _ w ⟨rfl, rfl⟩ H
             refine d_back ⟨_, H⟩ (d_main rfl (s_bsl (parts := [(0, .tmp 92)]) (vs := [.agg #[.bool ((numM i.op x96.n x98.n).t), .int .i64 ((numM i.op x96.n x98.n).n), .string ((numM i.op x96.n x98.n).b)]]) (cs := [.bool ((numM i.op x96.n x98.n).t), .int .i64 ((numM i.op x96.n x98.n).n), .string ((numM i.op x96.n x98.n).b)]) rfl rfl rfl sl282 zr284 rfl (by decide) (by decide) rfl rfl H (fun b102 w H => ?_)))
             replace H := H.h1 (A := blk b102 [.bool ((numM i.op x96.n x98.n).t), .int .i64 ((numM i.op x96.n x98.n).n), .string ((numM i.op x96.n x98.n).b)] 284) |>.p4 |>.p4 |>.p4 |>.p4
             refine d_back ⟨_, H⟩ (d_main rfl ?_)
             replace H := H.p6.p6
             refine sc (push_ok r pv key vv fuel pos steps halted s3 g tv (.map (some mb)) ((needsM i.op stk).2.1) (.slice (some ⟨b102, 0, none⟩) 1 1) [(numM i.op x96.n x98.n)] (by first | omega | exact Nat.le_trans hN.2.1 hst) (Nat.le_of_ble_eq_true rfl)) H (lA 4 rfl (fun F h => blk_rsl h rfl (by decide) (RepsR.flat_eq.2 rfl)) l0) rfl rfl (e_fn kn265 rfl rfl) ?_
             rintro _ _ w ⟨s103, rfl, rfl⟩ H
             replace H := H.h2 (A := blk r (runC pv key vv fuel pos steps halted s103 g tv (.map (some mb))) 288) (B := osl kVal s103 ((pushM ((needsM i.op stk).2.1) [(numM i.op x96.n x98.n)]).2)) |>.p5 |>.p5 |>.p5 |>.p5
             refine d_back ⟨_, H⟩ (d_1 rfl (d_nil (q_then (c_ret (q_blockR (q_thenR (q_ret1 rfl rfl ?_)))))))
             replace H := H.p3.p3.p5.p5.k4
             have e : doesM dg key (⟨pos, halted, stk, g, told, vals⟩ : VM) i = ((⟨pos, halted, (pushM ((needsM i.op stk).2.1) [(numM i.op x96.n x98.n)]).2, g, told, vals⟩ : VM), (pushM ((needsM i.op stk).2.1) [(numM i.op x96.n x98.n)]).1) := by
               rw [does_act (m := (⟨pos, halted, stk, g, told, vals⟩ : VM)) h4, act_8 (by omega)]
               rw [getD_at hx97, getD_at hx99] <;> rfl
             replace H : Hd _ _ _ [blk r (runC pv key vv fuel pos steps halted s103 g tv (.map (some mb))) 288, osl kVal s103 ((pushM ((needsM i.op stk).2.1) [(numM i.op x96.n x98.n)]).2), osl kPair tv told, digsP mb] [rsl kStr vv vals, gl] := H
             exact fin ⟨s103, tv, vv, by rw [e] <;> rfl, by rw [e] <;> exact Suf.refl _ _ _, by rw [e] <;> rfl⟩ H
            ·refine c_seq (c_reg (s_val rfl rfl (r_eq rfl rfl rfl) (s_1 rfl (s_nil (q_then ?_)))))
             refine c_dec rfl (fun h104 => ?_) (fun h104 => ?_)
             ·have hks : (kindsS i.op).size = 2 := by rw [h104]; rfl
              refine c_seq ?_
              obtain ⟨A105, c106, rfl, hc107, hm108, hp109⟩ := H.fA 2 rfl
              obtain ⟨x110, hx111⟩ : ∃ z9, ((needsM i.op stk).2.2)[0]? = some z9 := ⟨_, List.getElem?_eq_getElem (show 0 < ((needsM i.op stk).2.2).length by omega)⟩
              have okx110 := hok.1 _ (hN.2.2.1 _ (at_mem hx111))
              have szx110 := okx110.2
              have inx110 := okx110.1
              obtain ⟨x112, hx113⟩ : ∃ z9, ((needsM i.op stk).2.2)[1]? = some z9 := ⟨_, List.getElem?_eq_getElem (show 1 < ((needsM i.op stk).2.2).length by omega)⟩
              have okx112 := hok.1 _ (hN.2.2.1 _ (at_mem hx113))
              have szx112 := okx112.2
              have inx112 := okx112.1
              replace H := H.p5.p5.p5.p5
              refine c_ord (.e 0 (.e 1 (.e 2 (.e 3 (.e 4 (.e 5 (.e 6 (.m 7 (.m 8 (.m 9 (.m 10 (.e 11 .z)))))))))))) (fun w => ∃ Ar, Hd w0 F0 w (osl kVal (.slice A105 (((needsM i.op stk).2.2).length) c106) ((needsM i.op stk).2.2) :: blk b1 [.int .i64 i.op, .int .i64 i.a, .string i.s] 223 :: osl kPair tv told :: digsP mb :: Ar) [rsl kStr vv vals, gl]) mo (by kernel_rfl) (fun w H => ⟨_, H⟩) H (fun w H => (d_1 rfl (d_1 rfl ?_)))
              have th114 := H.thA 0 rfl hx111
              refine d_val rfl rfl rfl (fun w ⟨Ar, H⟩ => r_iaE (p := oOf A105 + 0 * 3) rfl sl282 rfl rfl (by omega) (by omega) th114 (by omega)) (d_val rfl rfl rfl (fun w ⟨Ar, H⟩ => r_ldA (cs := [.bool x110.t, .int .i64 x110.n, .string x110.b]) rfl ty284 rfl rfl (H.elsA 0 rfl hx111 rfl)) (d_1 rfl ?_))
              have th115 := H.thA 0 rfl hx113
              refine d_val rfl rfl rfl (fun w ⟨Ar, H⟩ => r_iaE (p := oOf A105 + 1 * 3) rfl sl282 rfl rfl (by omega) (by omega) th115 (by omega)) (d_val rfl rfl rfl (fun w ⟨Ar, H⟩ => r_ldA (cs := [.bool x112.t, .int .i64 x112.n, .string x112.b]) rfl ty284 rfl rfl (H.elsA 0 rfl hx113 rfl)) (d_main rfl (sc (vSame_ok x110 x112) H l0 rfl rfl (e_fn kn271 rfl rfl) ?_)))
              rintro _ _ w ⟨rfl, rfl⟩ H
              refine d_back ⟨_, H⟩ (d_main rfl (sc (one_ok (sameV x110 x112)) H l0 rfl rfl (e_fn kn270 rfl rfl) ?_))
              rintro _ _ w ⟨rfl, rfl⟩ H
              refine d_back ⟨_, H⟩ (d_main rfl (s_bsl (parts := [(0, .tmp 105)]) (vs := [.agg #[.bool false, .int .i64 (if (sameV x110 x112) = true then 1 else 0), .string ⟨#[]⟩]]) (cs := [.bool false, .int .i64 (if (sameV x110 x112) = true then 1 else 0), .string ⟨#[]⟩]) rfl rfl rfl sl282 zr284 rfl (by decide) (by decide) rfl rfl H (fun b116 w H => ?_)))
              replace H := H.h1 (A := blk b116 [.bool false, .int .i64 (if (sameV x110 x112) = true then 1 else 0), .string ⟨#[]⟩] 284) |>.p4 |>.p4 |>.p4 |>.p4
              refine d_back ⟨_, H⟩ (d_main rfl ?_)
              replace H := H.p6.p6
              refine sc (push_ok r pv key vv fuel pos steps halted s3 g tv (.map (some mb)) ((needsM i.op stk).2.1) (.slice (some ⟨b116, 0, none⟩) 1 1) [(⟨false, if (sameV x110 x112) = true then 1 else 0, ⟨#[]⟩⟩ : Val)] (by first | omega | exact Nat.le_trans hN.2.1 hst) (Nat.le_of_ble_eq_true rfl)) H (lA 4 rfl (fun F h => blk_rsl h rfl (by decide) (RepsR.flat_eq.2 rfl)) l0) rfl rfl (e_fn kn265 rfl rfl) ?_
              rintro _ _ w ⟨s117, rfl, rfl⟩ H
              replace H := H.h2 (A := blk r (runC pv key vv fuel pos steps halted s117 g tv (.map (some mb))) 288) (B := osl kVal s117 ((pushM ((needsM i.op stk).2.1) [(⟨false, if (sameV x110 x112) = true then 1 else 0, ⟨#[]⟩⟩ : Val)]).2)) |>.p5 |>.p5 |>.p5 |>.p5
              refine d_back ⟨_, H⟩ (d_1 rfl (d_nil (q_then (c_ret (q_blockR (q_thenR (q_ret1 rfl rfl ?_)))))))
              replace H := H.p3.p3.p5.p5.k4
              have e : doesM dg key (⟨pos, halted, stk, g, told, vals⟩ : VM) i = ((⟨pos, halted, (pushM ((needsM i.op stk).2.1) [(⟨false, if (sameV x110 x112) = true then 1 else 0, ⟨#[]⟩⟩ : Val)]).2, g, told, vals⟩ : VM), (pushM ((needsM i.op stk).2.1) [(⟨false, if (sameV x110 x112) = true then 1 else 0, ⟨#[]⟩⟩ : Val)]).1) := by
                rw [does_act (m := (⟨pos, halted, stk, g, told, vals⟩ : VM)) h4, act_12 h104]
                rw [getD_at hx111, getD_at hx113] <;> rfl
              replace H : Hd _ _ _ [blk r (runC pv key vv fuel pos steps halted s117 g tv (.map (some mb))) 288, osl kVal s117 ((pushM ((needsM i.op stk).2.1) [(⟨false, if (sameV x110 x112) = true then 1 else 0, ⟨#[]⟩⟩ : Val)]).2), osl kPair tv told, digsP mb] [rsl kStr vv vals, gl] := H
              exact fin ⟨s117, tv, vv, by rw [e] <;> rfl, by rw [e] <;> exact Suf.refl _ _ _, by rw [e] <;> rfl⟩ H
             ·refine c_seq (c_reg (s_val rfl rfl (r_eq rfl rfl rfl) (s_1 rfl (s_nil (q_then ?_)))))
              refine c_dec rfl (fun h118 => ?_) (fun h118 => ?_)
              ·have hks : (kindsS i.op).size = 2 := by rw [h118]; rfl
               refine c_seq ?_
               obtain ⟨A119, c120, rfl, hc121, hm122, hp123⟩ := H.fA 2 rfl
               obtain ⟨x124, hx125⟩ : ∃ z9, ((needsM i.op stk).2.2)[0]? = some z9 := ⟨_, List.getElem?_eq_getElem (show 0 < ((needsM i.op stk).2.2).length by omega)⟩
               have okx124 := hok.1 _ (hN.2.2.1 _ (at_mem hx125))
               have szx124 := okx124.2
               have inx124 := okx124.1
               obtain ⟨x126, hx127⟩ : ∃ z9, ((needsM i.op stk).2.2)[1]? = some z9 := ⟨_, List.getElem?_eq_getElem (show 1 < ((needsM i.op stk).2.2).length by omega)⟩
               have okx126 := hok.1 _ (hN.2.2.1 _ (at_mem hx127))
               have szx126 := okx126.2
               have inx126 := okx126.1
               replace H := H.p5.p5.p5.p5
               refine c_ord (.e 0 (.e 1 (.e 2 (.e 3 (.e 4 (.e 5 (.e 6 (.e 7 (.e 8 (.e 9 (.m 10 (.m 11 (.m 12 (.e 13 .z)))))))))))))) (fun w => ∃ Ar, Hd w0 F0 w (osl kVal (.slice A119 (((needsM i.op stk).2.2).length) c120) ((needsM i.op stk).2.2) :: blk b1 [.int .i64 i.op, .int .i64 i.a, .string i.s] 223 :: osl kPair tv told :: digsP mb :: Ar) [rsl kStr vv vals, gl]) mo (by kernel_rfl) (fun w H => ⟨_, H⟩) H (fun w H => (d_1 rfl (d_1 rfl ?_)))
               have th128 := H.thA 0 rfl hx125
               refine d_val rfl rfl rfl (fun w ⟨Ar, H⟩ => r_iaE (p := oOf A119 + 0 * 3) rfl sl282 rfl rfl (by omega) (by omega) th128 (by omega)) (d_val rfl rfl rfl (fun w ⟨Ar, H⟩ => r_fa rfl fo284_2 rfl) (d_val rfl rfl rfl (fun w ⟨Ar, H⟩ => r_ld rfl ty9 rfl (H.elA 0 rfl hx125 (q := 2) rfl rfl)) (d_1 rfl ?_)))
               have th129 := H.thA 0 rfl hx127
               refine d_val rfl rfl rfl (fun w ⟨Ar, H⟩ => r_iaE (p := oOf A119 + 1 * 3) rfl sl282 rfl rfl (by omega) (by omega) th129 (by omega)) (d_val rfl rfl rfl (fun w ⟨Ar, H⟩ => r_fa rfl fo284_2 rfl) (d_val rfl rfl rfl (fun w ⟨Ar, H⟩ => r_ld rfl ty9 rfl (H.elA 0 rfl hx127 (q := 2) rfl rfl)) (d_val rfl rfl rfl (fun w ⟨Ar, H⟩ => r_addS rfl rfl rfl (by omega)) (d_main rfl (sc (vBytes_ok (x124.b ++ x126.b)) H l0 rfl rfl (e_fn kn267 rfl rfl) ?_)))))
               rintro _ _ w ⟨rfl, rfl⟩ H
               refine d_back ⟨_, H⟩ (d_main rfl (s_bsl (parts := [(0, .tmp 120)]) (vs := [.agg #[.bool true, .int .i64 0, .string (x124.b ++ x126.b)]]) (cs := [.bool true, .int .i64 0, .string (x124.b ++ x126.b)]) rfl rfl rfl sl282 zr284 rfl (by decide) (by decide) rfl rfl H (fun b130 w H => ?_)))
               replace H := H.h1 (A := blk b130 [.bool true, .int .i64 0, .string (x124.b ++ x126.b)] 284) |>.p4 |>.p4 |>.p4 |>.p4
               refine d_back ⟨_, H⟩ (d_main rfl ?_)
               replace H := H.p6.p6
               refine sc (push_ok r pv key vv fuel pos steps halted s3 g tv (.map (some mb)) ((needsM i.op stk).2.1) (.slice (some ⟨b130, 0, none⟩) 1 1) [(⟨true, 0, (x124.b ++ x126.b)⟩ : Val)] (by first | omega | exact Nat.le_trans hN.2.1 hst) (Nat.le_of_ble_eq_true rfl)) H (lA 4 rfl (fun F h => blk_rsl h rfl (by decide) (RepsR.flat_eq.2 rfl)) l0) rfl rfl (e_fn kn265 rfl rfl) ?_
               rintro _ _ w ⟨s131, rfl, rfl⟩ H
               replace H := H.h2 (A := blk r (runC pv key vv fuel pos steps halted s131 g tv (.map (some mb))) 288) (B := osl kVal s131 ((pushM ((needsM i.op stk).2.1) [(⟨true, 0, (x124.b ++ x126.b)⟩ : Val)]).2)) |>.p5 |>.p5 |>.p5 |>.p5
               refine d_back ⟨_, H⟩ (d_1 rfl (d_nil (q_then (c_ret (q_blockR (q_thenR (q_ret1 rfl rfl ?_)))))))
               replace H := H.p3.p3.p5.p5.k4
               have e : doesM dg key (⟨pos, halted, stk, g, told, vals⟩ : VM) i = ((⟨pos, halted, (pushM ((needsM i.op stk).2.1) [(⟨true, 0, (x124.b ++ x126.b)⟩ : Val)]).2, g, told, vals⟩ : VM), (pushM ((needsM i.op stk).2.1) [(⟨true, 0, (x124.b ++ x126.b)⟩ : Val)]).1) := by
                 rw [does_act (m := (⟨pos, halted, stk, g, told, vals⟩ : VM)) h4, act_13 h118]
                 rw [getD_at hx125, getD_at hx127] <;> rfl
               replace H : Hd _ _ _ [blk r (runC pv key vv fuel pos steps halted s131 g tv (.map (some mb))) 288, osl kVal s131 ((pushM ((needsM i.op stk).2.1) [(⟨true, 0, (x124.b ++ x126.b)⟩ : Val)]).2), osl kPair tv told, digsP mb] [rsl kStr vv vals, gl] := H
               exact fin ⟨s131, tv, vv, by rw [e] <;> rfl, by rw [e] <;> exact Suf.refl _ _ _, by rw [e] <;> rfl⟩ H
              ·refine c_seq (c_reg (s_val rfl rfl (r_eq rfl rfl rfl) (s_1 rfl (s_nil (q_then ?_)))))
               refine c_dec rfl (fun h132 => ?_) (fun h132 => ?_)
               ·have hks : (kindsS i.op).size = 1 := by rw [h132]; rfl
                refine c_seq ?_
                obtain ⟨A133, c134, rfl, hc135, hm136, hp137⟩ := H.fA 2 rfl
                obtain ⟨x138, hx139⟩ : ∃ z9, ((needsM i.op stk).2.2)[0]? = some z9 := ⟨_, List.getElem?_eq_getElem (show 0 < ((needsM i.op stk).2.2).length by omega)⟩
                have okx138 := hok.1 _ (hN.2.2.1 _ (at_mem hx139))
                have szx138 := okx138.2
                have inx138 := okx138.1
                refine c_reg (s_k 2 rfl ?_)
                have th140 := H.thA 2 rfl hx139
                refine s_val rfl rfl (r_iaE (p := oOf A133 + 0 * 3) rfl sl282 rfl rfl (by omega) (by omega) th140 (by omega)) (s_val rfl rfl (r_fa rfl fo284_2 rfl) (s_val rfl rfl (r_ld rfl ty9 rfl (H.elA 2 rfl hx139 (q := 2) rfl rfl)) (s_val rfl rfl (r_lenS rfl un9 rfl) (sc (vInt_ok ((x138.b.size : Nat) : Int)) H l0 rfl rfl (e_fn kn266 rfl rfl) ?_))))
                rintro _ _ w ⟨rfl, rfl⟩ H
                refine s_bsl (parts := [(0, .tmp 131)]) (vs := [.agg #[.bool false, .int .i64 ((x138.b.size : Nat) : Int), .string ⟨#[]⟩]]) (cs := [.bool false, .int .i64 ((x138.b.size : Nat) : Int), .string ⟨#[]⟩]) rfl rfl rfl sl282 zr284 rfl (by decide) (by decide) rfl rfl H (fun b141 w H => ?_)
                replace H := H.p2.p2
                replace H : Hd _ _ _ [blk r (runC pv key vv fuel pos steps halted s3 g tv (.map (some mb))) 288, osl kVal s3 ((needsM i.op stk).2.1), blk b141 [.bool false, .int .i64 ((x138.b.size : Nat) : Int), .string ⟨#[]⟩] 284, osl kVal (.slice A133 (((needsM i.op stk).2.2).length) c134) ((needsM i.op stk).2.2), blk b1 [.int .i64 i.op, .int .i64 i.a, .string i.s] 223, osl kPair tv told, digsP mb] [rsl kStr vv vals, gl] := H
                refine sc (push_ok r pv key vv fuel pos steps halted s3 g tv (.map (some mb)) ((needsM i.op stk).2.1) (.slice (some ⟨b141, 0, none⟩) 1 1) [(⟨false, ((x138.b.size : Nat) : Int), ⟨#[]⟩⟩ : Val)] (by first | omega | exact Nat.le_trans hN.2.1 hst) (Nat.le_of_ble_eq_true rfl)) H (lA 0 rfl (fun F h => blk_rsl h rfl (by decide) (RepsR.flat_eq.2 rfl)) l0) rfl rfl (e_fn kn265 rfl rfl) ?_
                rintro _ _ w ⟨s142, rfl, rfl⟩ H
                replace H := H.h2 (A := blk r (runC pv key vv fuel pos steps halted s142 g tv (.map (some mb))) 288) (B := osl kVal s142 ((pushM ((needsM i.op stk).2.1) [(⟨false, ((x138.b.size : Nat) : Int), ⟨#[]⟩⟩ : Val)]).2))
                refine s_1 rfl (s_nil (q_then (c_ret (q_blockR (q_thenR (q_ret1 rfl rfl ?_))))))
                replace H := H.p6.p6.p3.p3.k4
                have e : doesM dg key (⟨pos, halted, stk, g, told, vals⟩ : VM) i = ((⟨pos, halted, (pushM ((needsM i.op stk).2.1) [(⟨false, ((x138.b.size : Nat) : Int), ⟨#[]⟩⟩ : Val)]).2, g, told, vals⟩ : VM), (pushM ((needsM i.op stk).2.1) [(⟨false, ((x138.b.size : Nat) : Int), ⟨#[]⟩⟩ : Val)]).1) := by
                  rw [does_act (m := (⟨pos, halted, stk, g, told, vals⟩ : VM)) h4, act_14 h132]
                  rw [getD_at hx139] <;> rfl
                replace H : Hd _ _ _ [blk r (runC pv key vv fuel pos steps halted s142 g tv (.map (some mb))) 288, osl kVal s142 ((pushM ((needsM i.op stk).2.1) [(⟨false, ((x138.b.size : Nat) : Int), ⟨#[]⟩⟩ : Val)]).2), osl kPair tv told, digsP mb] [rsl kStr vv vals, gl] := H
                exact fin ⟨s142, tv, vv, by rw [e] <;> rfl, by rw [e] <;> exact Suf.refl _ _ _, by rw [e] <;> rfl⟩ H
               ·refine c_seq (c_reg (s_val rfl rfl (r_eq rfl rfl rfl) (s_1 rfl (s_nil (q_then ?_)))))
                refine c_dec rfl (fun h143 => ?_) (fun h143 => ?_)
                ·have hks : (kindsS i.op).size = 2 := by rw [h143]; rfl
                 refine c_seq ?_
                 obtain ⟨A144, c145, rfl, hc146, hm147, hp148⟩ := H.fA 2 rfl
                 obtain ⟨x149, hx150⟩ : ∃ z9, ((needsM i.op stk).2.2)[0]? = some z9 := ⟨_, List.getElem?_eq_getElem (show 0 < ((needsM i.op stk).2.2).length by omega)⟩
                 have okx149 := hok.1 _ (hN.2.2.1 _ (at_mem hx150))
                 have szx149 := okx149.2
                 have inx149 := okx149.1
                 obtain ⟨x151, hx152⟩ : ∃ z9, ((needsM i.op stk).2.2)[1]? = some z9 := ⟨_, List.getElem?_eq_getElem (show 1 < ((needsM i.op stk).2.2).length by omega)⟩
                 have okx151 := hok.1 _ (hN.2.2.1 _ (at_mem hx152))
                 have szx151 := okx151.2
                 have inx151 := okx151.1
                 replace H := H.p5.p5.p5.p5
                 refine c_ord (.e 0 (.e 1 (.e 2 (.e 3 (.e 4 (.e 5 (.e 6 (.e 7 (.e 8 (.m 9 (.m 10 (.m 11 (.m 12 (.e 13 .z)))))))))))))) (fun w => ∃ Ar, Hd w0 F0 w (osl kVal (.slice A144 (((needsM i.op stk).2.2).length) c145) ((needsM i.op stk).2.2) :: blk b1 [.int .i64 i.op, .int .i64 i.a, .string i.s] 223 :: osl kPair tv told :: digsP mb :: Ar) [rsl kStr vv vals, gl]) mo (by kernel_rfl) (fun w H => ⟨_, H⟩) H (fun w H => (d_1 rfl (d_1 rfl ?_)))
                 have th153 := H.thA 0 rfl hx150
                 refine d_val rfl rfl rfl (fun w ⟨Ar, H⟩ => r_iaE (p := oOf A144 + 0 * 3) rfl sl282 rfl rfl (by omega) (by omega) th153 (by omega)) (d_val rfl rfl rfl (fun w ⟨Ar, H⟩ => r_fa rfl fo284_2 rfl) (d_val rfl rfl rfl (fun w ⟨Ar, H⟩ => r_ld rfl ty9 rfl (H.elA 0 rfl hx150 (q := 2) rfl rfl)) (d_1 rfl ?_)))
                 have th154 := H.thA 0 rfl hx152
                 refine d_val rfl rfl rfl (fun w ⟨Ar, H⟩ => r_iaE (p := oOf A144 + 1 * 3) rfl sl282 rfl rfl (by omega) (by omega) th154 (by omega)) (d_val rfl rfl rfl (fun w ⟨Ar, H⟩ => r_fa rfl fo284_1 rfl) (d_val rfl rfl rfl (fun w ⟨Ar, H⟩ => r_ld rfl ty2 rfl (H.elA 0 rfl hx152 (q := 1) rfl rfl)) (d_main rfl (sc (vAt_ok x149.b x151.n) H l0 rfl rfl (e_fn kn272 rfl rfl) ?_))))
                 rintro _ _ w ⟨rfl, rfl⟩ H
                 refine d_back ⟨_, H⟩ (d_main rfl (sc (vInt_ok (atS x149.b x151.n)) H l0 rfl rfl (e_fn kn266 rfl rfl) ?_))
                 rintro _ _ w ⟨rfl, rfl⟩ H
                 refine d_back ⟨_, H⟩ (d_main rfl (s_bsl (parts := [(0, .tmp 146)]) (vs := [.agg #[.bool false, .int .i64 (atS x149.b x151.n), .string ⟨#[]⟩]]) (cs := [.bool false, .int .i64 (atS x149.b x151.n), .string ⟨#[]⟩]) rfl rfl rfl sl282 zr284 rfl (by decide) (by decide) rfl rfl H (fun b155 w H => ?_)))
                 replace H := H.h1 (A := blk b155 [.bool false, .int .i64 (atS x149.b x151.n), .string ⟨#[]⟩] 284) |>.p4 |>.p4 |>.p4 |>.p4
                 refine d_back ⟨_, H⟩ (d_main rfl ?_)
                 replace H := H.p6.p6
                 refine sc (push_ok r pv key vv fuel pos steps halted s3 g tv (.map (some mb)) ((needsM i.op stk).2.1) (.slice (some ⟨b155, 0, none⟩) 1 1) [(⟨false, atS x149.b x151.n, ⟨#[]⟩⟩ : Val)] (by first | omega | exact Nat.le_trans hN.2.1 hst) (Nat.le_of_ble_eq_true rfl)) H (lA 4 rfl (fun F h => blk_rsl h rfl (by decide) (RepsR.flat_eq.2 rfl)) l0) rfl rfl (e_fn kn265 rfl rfl) ?_
                 rintro _ _ w ⟨s156, rfl, rfl⟩ H
                 replace H := H.h2 (A := blk r (runC pv key vv fuel pos steps halted s156 g tv (.map (some mb))) 288) (B := osl kVal s156 ((pushM ((needsM i.op stk).2.1) [(⟨false, atS x149.b x151.n, ⟨#[]⟩⟩ : Val)]).2)) |>.p5 |>.p5 |>.p5 |>.p5
                 refine d_back ⟨_, H⟩ (d_1 rfl (d_nil (q_then (c_ret (q_blockR (q_thenR (q_ret1 rfl rfl ?_)))))))
                 replace H := H.p3.p3.p5.p5.k4
                 have e : doesM dg key (⟨pos, halted, stk, g, told, vals⟩ : VM) i = ((⟨pos, halted, (pushM ((needsM i.op stk).2.1) [(⟨false, atS x149.b x151.n, ⟨#[]⟩⟩ : Val)]).2, g, told, vals⟩ : VM), (pushM ((needsM i.op stk).2.1) [(⟨false, atS x149.b x151.n, ⟨#[]⟩⟩ : Val)]).1) := by
                   rw [does_act (m := (⟨pos, halted, stk, g, told, vals⟩ : VM)) h4, act_15 h143]
                   rw [getD_at hx150, getD_at hx152] <;> rfl
                 replace H : Hd _ _ _ [blk r (runC pv key vv fuel pos steps halted s156 g tv (.map (some mb))) 288, osl kVal s156 ((pushM ((needsM i.op stk).2.1) [(⟨false, atS x149.b x151.n, ⟨#[]⟩⟩ : Val)]).2), osl kPair tv told, digsP mb] [rsl kStr vv vals, gl] := H
                 exact fin ⟨s156, tv, vv, by rw [e] <;> rfl, by rw [e] <;> exact Suf.refl _ _ _, by rw [e] <;> rfl⟩ H
                ·refine c_seq (c_reg (s_val rfl rfl (r_eq rfl rfl rfl) (s_1 rfl (s_nil (q_then ?_)))))
                 refine c_dec rfl (fun h157 => ?_) (fun h157 => ?_)
                 ·have hks : (kindsS i.op).size = 3 := by rw [h157]; rfl
                  refine c_seq ?_
                  obtain ⟨A158, c159, rfl, hc160, hm161, hp162⟩ := H.fA 2 rfl
                  obtain ⟨x163, hx164⟩ : ∃ z9, ((needsM i.op stk).2.2)[0]? = some z9 := ⟨_, List.getElem?_eq_getElem (show 0 < ((needsM i.op stk).2.2).length by omega)⟩
                  have okx163 := hok.1 _ (hN.2.2.1 _ (at_mem hx164))
                  have szx163 := okx163.2
                  have inx163 := okx163.1
                  obtain ⟨x165, hx166⟩ : ∃ z9, ((needsM i.op stk).2.2)[1]? = some z9 := ⟨_, List.getElem?_eq_getElem (show 1 < ((needsM i.op stk).2.2).length by omega)⟩
                  have okx165 := hok.1 _ (hN.2.2.1 _ (at_mem hx166))
                  have szx165 := okx165.2
                  have inx165 := okx165.1
                  obtain ⟨x167, hx168⟩ : ∃ z9, ((needsM i.op stk).2.2)[2]? = some z9 := ⟨_, List.getElem?_eq_getElem (show 2 < ((needsM i.op stk).2.2).length by omega)⟩
                  have okx167 := hok.1 _ (hN.2.2.1 _ (at_mem hx168))
                  have szx167 := okx167.2
                  have inx167 := okx167.1
                  replace H := H.p5.p5.p5.p5
                  refine c_ord (.e 0 (.e 1 (.e 2 (.e 3 (.e 4 (.e 5 (.e 6 (.e 7 (.e 8 (.e 9 (.e 10 (.e 11 (.e 12 (.m 13 (.m 14 (.m 15 (.m 16 (.e 17 .z)))))))))))))))))) (fun w => ∃ Ar, Hd w0 F0 w (osl kVal (.slice A158 (((needsM i.op stk).2.2).length) c159) ((needsM i.op stk).2.2) :: blk b1 [.int .i64 i.op, .int .i64 i.a, .string i.s] 223 :: osl kPair tv told :: digsP mb :: Ar) [rsl kStr vv vals, gl]) mo (by kernel_rfl) (fun w H => ⟨_, H⟩) H (fun w H => (d_1 rfl (d_1 rfl ?_)))
                  have th169 := H.thA 0 rfl hx164
                  refine d_val rfl rfl rfl (fun w ⟨Ar, H⟩ => r_iaE (p := oOf A158 + 0 * 3) rfl sl282 rfl rfl (by omega) (by omega) th169 (by omega)) (d_val rfl rfl rfl (fun w ⟨Ar, H⟩ => r_fa rfl fo284_2 rfl) (d_val rfl rfl rfl (fun w ⟨Ar, H⟩ => r_ld rfl ty9 rfl (H.elA 0 rfl hx164 (q := 2) rfl rfl)) (d_1 rfl ?_)))
                  have th170 := H.thA 0 rfl hx166
                  refine d_val rfl rfl rfl (fun w ⟨Ar, H⟩ => r_iaE (p := oOf A158 + 1 * 3) rfl sl282 rfl rfl (by omega) (by omega) th170 (by omega)) (d_val rfl rfl rfl (fun w ⟨Ar, H⟩ => r_fa rfl fo284_1 rfl) (d_val rfl rfl rfl (fun w ⟨Ar, H⟩ => r_ld rfl ty2 rfl (H.elA 0 rfl hx166 (q := 1) rfl rfl)) (d_1 rfl ?_)))
                  have th171 := H.thA 0 rfl hx168
                  refine d_val rfl rfl rfl (fun w ⟨Ar, H⟩ => r_iaE (p := oOf A158 + 2 * 3) rfl sl282 rfl rfl (by omega) (by omega) th171 (by omega)) (d_val rfl rfl rfl (fun w ⟨Ar, H⟩ => r_fa rfl fo284_1 rfl) (d_val rfl rfl rfl (fun w ⟨Ar, H⟩ => r_ld rfl ty2 rfl (H.elA 0 rfl hx168 (q := 1) rfl rfl)) (d_main rfl (sc (vCut_ok x163.b x165.n x167.n) H l0 rfl rfl (e_fn kn273 rfl rfl) ?_))))
                  rintro _ _ w ⟨rfl, rfl⟩ H
                  refine d_back ⟨_, H⟩ (d_main rfl (sc (vBytes_ok (cutS x163.b x165.n x167.n)) H l0 rfl rfl (e_fn kn267 rfl rfl) ?_))
                  rintro _ _ w ⟨rfl, rfl⟩ H
                  refine d_back ⟨_, H⟩ (d_main rfl (s_bsl (parts := [(0, .tmp 165)]) (vs := [.agg #[.bool true, .int .i64 0, .string (cutS x163.b x165.n x167.n)]]) (cs := [.bool true, .int .i64 0, .string (cutS x163.b x165.n x167.n)]) rfl rfl rfl sl282 zr284 rfl (by decide) (by decide) rfl rfl H (fun b172 w H => ?_)))
                  replace H := H.h1 (A := blk b172 [.bool true, .int .i64 0, .string (cutS x163.b x165.n x167.n)] 284) |>.p4 |>.p4 |>.p4 |>.p4
                  refine d_back ⟨_, H⟩ (d_main rfl ?_)
                  replace H := H.p6.p6
                  refine sc (push_ok r pv key vv fuel pos steps halted s3 g tv (.map (some mb)) ((needsM i.op stk).2.1) (.slice (some ⟨b172, 0, none⟩) 1 1) [(⟨true, 0, (cutS x163.b x165.n x167.n)⟩ : Val)] (by first | omega | exact Nat.le_trans hN.2.1 hst) (Nat.le_of_ble_eq_true rfl)) H (lA 4 rfl (fun F h => blk_rsl h rfl (by decide) (RepsR.flat_eq.2 rfl)) l0) rfl rfl (e_fn kn265 rfl rfl) ?_
                  rintro _ _ w ⟨s173, rfl, rfl⟩ H
                  replace H := H.h2 (A := blk r (runC pv key vv fuel pos steps halted s173 g tv (.map (some mb))) 288) (B := osl kVal s173 ((pushM ((needsM i.op stk).2.1) [(⟨true, 0, (cutS x163.b x165.n x167.n)⟩ : Val)]).2)) |>.p5 |>.p5 |>.p5 |>.p5
                  refine d_back ⟨_, H⟩ (d_1 rfl (d_nil (q_then (c_ret (q_blockR (q_thenR (q_ret1 rfl rfl ?_)))))))
                  replace H := H.p3.p3.p5.p5.k4
                  have e : doesM dg key (⟨pos, halted, stk, g, told, vals⟩ : VM) i = ((⟨pos, halted, (pushM ((needsM i.op stk).2.1) [(⟨true, 0, (cutS x163.b x165.n x167.n)⟩ : Val)]).2, g, told, vals⟩ : VM), (pushM ((needsM i.op stk).2.1) [(⟨true, 0, (cutS x163.b x165.n x167.n)⟩ : Val)]).1) := by
                    rw [does_act (m := (⟨pos, halted, stk, g, told, vals⟩ : VM)) h4, act_16 h157]
                    rw [getD_at hx164, getD_at hx166, getD_at hx168] <;> rfl
                  replace H : Hd _ _ _ [blk r (runC pv key vv fuel pos steps halted s173 g tv (.map (some mb))) 288, osl kVal s173 ((pushM ((needsM i.op stk).2.1) [(⟨true, 0, (cutS x163.b x165.n x167.n)⟩ : Val)]).2), osl kPair tv told, digsP mb] [rsl kStr vv vals, gl] := H
                  exact fin ⟨s173, tv, vv, by rw [e] <;> rfl, by rw [e] <;> exact Suf.refl _ _ _, by rw [e] <;> rfl⟩ H
                 ·refine c_seq (c_reg (s_val rfl rfl (r_eq rfl rfl rfl) (s_1 rfl (s_nil (q_then ?_)))))
                  refine c_dec rfl (fun h174 => ?_) (fun h174 => ?_)
                  ·have hks : (kindsS i.op).size = 1 := by rw [h174]; rfl
                   refine c_seq ?_
                   obtain ⟨A175, c176, rfl, hc177, hm178, hp179⟩ := H.fA 2 rfl
                   obtain ⟨x180, hx181⟩ : ∃ z9, ((needsM i.op stk).2.2)[0]? = some z9 := ⟨_, List.getElem?_eq_getElem (show 0 < ((needsM i.op stk).2.2).length by omega)⟩
                   have okx180 := hok.1 _ (hN.2.2.1 _ (at_mem hx181))
                   have szx180 := okx180.2
                   have inx180 := okx180.1
                   refine c_reg (s_k 3 rfl ?_)
                   have th182 := H.thA 2 rfl hx181
                   refine s_val rfl rfl (r_iaE (p := oOf A175 + 0 * 3) rfl sl282 rfl rfl (by omega) (by omega) th182 (by omega)) (s_val rfl rfl (r_fa rfl fo284_1 rfl) (s_val rfl rfl (r_ld rfl ty2 rfl (H.elA 2 rfl hx181 (q := 1) rfl rfl)) ?_))
                   replace H := H.p5
                   refine sc (text_ok r pv key vv fuel pos steps halted s3 g tv mb x180.n (by assumption)) H (lA 0 rfl (fun _ h => h) (lR 1 rfl l0)) rfl rfl (e_fn kn274 rfl rfl) ?_
                   rintro _ _ w ⟨rfl, rfl⟩ H
                   refine sc (vBytes_ok (dg.dig x180.n)) H l0 rfl rfl (e_fn kn267 rfl rfl) ?_
                   rintro _ _ w ⟨rfl, rfl⟩ H
                   refine s_bsl (parts := [(0, .tmp 177)]) (vs := [.agg #[.bool true, .int .i64 0, .string (dg.dig x180.n)]]) (cs := [.bool true, .int .i64 0, .string (dg.dig x180.n)]) rfl rfl rfl sl282 zr284 rfl (by decide) (by decide) rfl rfl H (fun b183 w H => ?_)
                   replace H := H.h1 (A := blk b183 [.bool true, .int .i64 0, .string (dg.dig x180.n)] 284) |>.p3 |>.p3
                   refine sc (push_ok r pv key vv fuel pos steps halted s3 g tv (.map (some mb)) ((needsM i.op stk).2.1) (.slice (some ⟨b183, 0, none⟩) 1 1) [(⟨true, 0, (dg.dig x180.n)⟩ : Val)] (by first | omega | exact Nat.le_trans hN.2.1 hst) (Nat.le_of_ble_eq_true rfl)) H (lA 0 rfl (fun F h => blk_rsl h rfl (by decide) (RepsR.flat_eq.2 rfl)) l0) rfl rfl (e_fn kn265 rfl rfl) ?_
                   rintro _ _ w ⟨s184, rfl, rfl⟩ H
                   replace H := H.h2 (A := blk r (runC pv key vv fuel pos steps halted s184 g tv (.map (some mb))) 288) (B := osl kVal s184 ((pushM ((needsM i.op stk).2.1) [(⟨true, 0, (dg.dig x180.n)⟩ : Val)]).2))
                   refine s_1 rfl (s_nil (q_then (c_ret (q_blockR (q_thenR (q_ret1 rfl rfl ?_))))))
                   replace H := H.p3.p6.p3.p3.k4
                   have e : doesM dg key (⟨pos, halted, stk, g, told, vals⟩ : VM) i = ((⟨pos, halted, (pushM ((needsM i.op stk).2.1) [(⟨true, 0, (dg.dig x180.n)⟩ : Val)]).2, g, told, vals⟩ : VM), (pushM ((needsM i.op stk).2.1) [(⟨true, 0, (dg.dig x180.n)⟩ : Val)]).1) := by
                     rw [does_act (m := (⟨pos, halted, stk, g, told, vals⟩ : VM)) h4, act_17 h174]
                     rw [getD_at hx181] <;> rfl
                   replace H : Hd _ _ _ [blk r (runC pv key vv fuel pos steps halted s184 g tv (.map (some mb))) 288, osl kVal s184 ((pushM ((needsM i.op stk).2.1) [(⟨true, 0, (dg.dig x180.n)⟩ : Val)]).2), osl kPair tv told, digsP mb] [rsl kStr vv vals, gl] := H
                   exact fin ⟨s184, tv, vv, by rw [e] <;> rfl, by rw [e] <;> exact Suf.refl _ _ _, by rw [e] <;> rfl⟩ H
                  ·refine c_seq (c_reg (s_val rfl rfl (r_eq rfl rfl rfl) (s_1 rfl (s_nil (q_then ?_)))))
                   refine c_dec rfl (fun h185 => ?_) (fun h185 => ?_)
                   ·have hks : (kindsS i.op).size = 1 := by rw [h185]; rfl
                    refine c_seq ?_
                    obtain ⟨A186, c187, rfl, hc188, hm189, hp190⟩ := H.fA 2 rfl
                    obtain ⟨x191, hx192⟩ : ∃ z9, ((needsM i.op stk).2.2)[0]? = some z9 := ⟨_, List.getElem?_eq_getElem (show 0 < ((needsM i.op stk).2.2).length by omega)⟩
                    have okx191 := hok.1 _ (hN.2.2.1 _ (at_mem hx192))
                    have szx191 := okx191.2
                    have inx191 := okx191.1
                    refine c_reg (s_k 2 rfl ?_)
                    have th193 := H.thA 2 rfl hx192
                    refine s_val rfl rfl (r_iaE (p := oOf A186 + 0 * 3) rfl sl282 rfl rfl (by omega) (by omega) th193 (by omega)) (s_val rfl rfl (r_fa rfl fo284_2 rfl) (s_val rfl rfl (r_ld rfl ty9 rfl (H.elA 2 rfl hx192 (q := 2) rfl rfl)) (sc (number_ok x191.b (by omega)) H (lR 1 rfl l0) rfl rfl (e_fn kn275 rfl rfl) ?_)))
                    rintro _ _ w ⟨rfl, rfl⟩ H
                    refine sc (vInt_ok (dg.num x191.b)) H l0 rfl rfl (e_fn kn266 rfl rfl) ?_
                    rintro _ _ w ⟨rfl, rfl⟩ H
                    refine s_bsl (parts := [(0, .tmp 188)]) (vs := [.agg #[.bool false, .int .i64 (dg.num x191.b), .string ⟨#[]⟩]]) (cs := [.bool false, .int .i64 (dg.num x191.b), .string ⟨#[]⟩]) rfl rfl rfl sl282 zr284 rfl (by decide) (by decide) rfl rfl H (fun b194 w H => ?_)
                    replace H := H.p2.p2
                    replace H : Hd _ _ _ [blk r (runC pv key vv fuel pos steps halted s3 g tv (.map (some mb))) 288, osl kVal s3 ((needsM i.op stk).2.1), blk b194 [.bool false, .int .i64 (dg.num x191.b), .string ⟨#[]⟩] 284, osl kVal (.slice A186 (((needsM i.op stk).2.2).length) c187) ((needsM i.op stk).2.2), blk b1 [.int .i64 i.op, .int .i64 i.a, .string i.s] 223, osl kPair tv told, digsP mb] [rsl kStr vv vals, gl] := H
                    refine sc (push_ok r pv key vv fuel pos steps halted s3 g tv (.map (some mb)) ((needsM i.op stk).2.1) (.slice (some ⟨b194, 0, none⟩) 1 1) [(⟨false, dg.num x191.b, ⟨#[]⟩⟩ : Val)] (by first | omega | exact Nat.le_trans hN.2.1 hst) (Nat.le_of_ble_eq_true rfl)) H (lA 0 rfl (fun F h => blk_rsl h rfl (by decide) (RepsR.flat_eq.2 rfl)) l0) rfl rfl (e_fn kn265 rfl rfl) ?_
                    rintro _ _ w ⟨s195, rfl, rfl⟩ H
                    replace H := H.h2 (A := blk r (runC pv key vv fuel pos steps halted s195 g tv (.map (some mb))) 288) (B := osl kVal s195 ((pushM ((needsM i.op stk).2.1) [(⟨false, dg.num x191.b, ⟨#[]⟩⟩ : Val)]).2))
                    refine s_1 rfl (s_nil (q_then (c_ret (q_blockR (q_thenR (q_ret1 rfl rfl ?_))))))
                    replace H := H.p6.p6.p3.p3.k4
                    have e : doesM dg key (⟨pos, halted, stk, g, told, vals⟩ : VM) i = ((⟨pos, halted, (pushM ((needsM i.op stk).2.1) [(⟨false, dg.num x191.b, ⟨#[]⟩⟩ : Val)]).2, g, told, vals⟩ : VM), (pushM ((needsM i.op stk).2.1) [(⟨false, dg.num x191.b, ⟨#[]⟩⟩ : Val)]).1) := by
                      rw [does_act (m := (⟨pos, halted, stk, g, told, vals⟩ : VM)) h4, act_18 h185]
                      rw [getD_at hx192] <;> rfl
                    replace H : Hd _ _ _ [blk r (runC pv key vv fuel pos steps halted s195 g tv (.map (some mb))) 288, osl kVal s195 ((pushM ((needsM i.op stk).2.1) [(⟨false, dg.num x191.b, ⟨#[]⟩⟩ : Val)]).2), osl kPair tv told, digsP mb] [rsl kStr vv vals, gl] := H
                    exact fin ⟨s195, tv, vv, by rw [e] <;> rfl, by rw [e] <;> exact Suf.refl _ _ _, by rw [e] <;> rfl⟩ H
                   ·refine c_seq (c_reg (s_val rfl rfl (r_eq rfl rfl rfl) (s_1 rfl (s_nil (q_then ?_)))))
                    refine c_dec rfl (fun h196 => ?_) (fun h196 => ?_)
                    ·have hks : (kindsS i.op).size = 0 := by rw [h196]; rfl
                     refine c_reg (s_1 rfl (s_val rfl rfl (r_fa rfl fo223_1 rfl) (s_val rfl rfl (r_ld rfl ty3 rfl (H.cellI 3 rfl rfl)) (s_val rfl rfl (r_nilP rfl rfl) (s_val rfl rfl (r_fa rfl fo288_4 rfl) (s_st rfl rfl rfl ty3 rfl rfl H rfl (Nat.le_of_ble_eq_true rfl) (fun u hu => by simp [Value.cells] at hu; subst hu; rfl) (fun w H => ?_)))))))
                     replace H := H.h1 (A := blk r (runC pv key vv fuel i.a steps halted s3 g tv (.map (some mb))) 288)
                     refine s_nil (q_blockN (q_then (c_seq (c_reg (s_1 rfl (s_nil (q_then (c_ret (q_ret1 rfl rfl ?_)))))))))
                     replace H := H.p5.p5.p3.p3.k4
                     have e : doesM dg key (⟨pos, halted, stk, g, told, vals⟩ : VM) i = ((⟨i.a, halted, (needsM i.op stk).2.1, g, told, vals⟩ : VM), 0) := by
                       rw [does_act (m := (⟨pos, halted, stk, g, told, vals⟩ : VM)) h4, act_19 h196]
                       all_goals rfl
                     replace H : Hd _ _ _ [blk r (runC pv key vv fuel i.a steps halted s3 g tv (.map (some mb))) 288, osl kVal s3 ((needsM i.op stk).2.1), osl kPair tv told, digsP mb] [rsl kStr vv vals, gl] := H
                     exact fin ⟨s3, tv, vv, by rw [e] <;> rfl, by rw [e] <;> exact Suf.refl _ _ _, by rw [e] <;> rfl⟩ H
                    ·refine c_seq (c_reg (s_val rfl rfl (r_eq rfl rfl rfl) (s_1 rfl (s_nil (q_then ?_)))))
                     refine c_dec rfl (fun h197 => ?_) (fun h197 => ?_)
                     ·have hks : (kindsS i.op).size = 1 := by rw [h197]; rfl
                      refine c_seq ?_
                      obtain ⟨A198, c199, rfl, hc200, hm201, hp202⟩ := H.fA 2 rfl
                      obtain ⟨x203, hx204⟩ : ∃ z9, ((needsM i.op stk).2.2)[0]? = some z9 := ⟨_, List.getElem?_eq_getElem (show 0 < ((needsM i.op stk).2.2).length by omega)⟩
                      have okx203 := hok.1 _ (hN.2.2.1 _ (at_mem hx204))
                      have szx203 := okx203.2
                      have inx203 := okx203.1
                      refine c_reg (s_1 rfl ?_)
                      have th205 := H.thA 2 rfl hx204
                      refine s_val rfl rfl (r_iaE (p := oOf A198 + 0 * 3) rfl sl282 rfl rfl (by omega) (by omega) th205 (by omega)) (s_val rfl rfl (r_fa rfl fo284_1 rfl) (s_val rfl rfl (r_ld rfl ty2 rfl (H.elA 2 rfl hx204 (q := 1) rfl rfl)) (s_val rfl rfl (r_ne rfl rfl rfl) (s_nil (q_then ?_)))))
                      refine c_dec rfl (fun h206 => ?_) (fun h206 => ?_)
                      ·refine c_reg (s_1 rfl (s_val rfl rfl (r_fa rfl fo223_1 rfl) (s_val rfl rfl (r_ld rfl ty3 rfl (H.cellI 3 rfl rfl)) (s_val rfl rfl (r_nilP rfl rfl) (s_val rfl rfl (r_fa rfl fo288_4 rfl) (s_st rfl rfl rfl ty3 rfl rfl H rfl (Nat.le_of_ble_eq_true rfl) (fun u hu => by simp [Value.cells] at hu; subst hu; rfl) (fun w H => ?_)))))))
                       replace H := H.h1 (A := blk r (runC pv key vv fuel i.a steps halted s3 g tv (.map (some mb))) 288)
                       refine s_nil (q_blockN (q_then (c_seq (c_reg (s_1 rfl (s_nil (q_then (c_ret (q_ret1 rfl rfl ?_)))))))))
                       replace H := H.p5.p5.p3.p3.k4
                       have e : doesM dg key (⟨pos, halted, stk, g, told, vals⟩ : VM) i = ((⟨i.a, halted, (needsM i.op stk).2.1, g, told, vals⟩ : VM), 0) := by
                         rw [does_act (m := (⟨pos, halted, stk, g, told, vals⟩ : VM)) h4, act_20 h197]
                         rw [getD_at hx204, if_pos h206]
                       replace H : Hd _ _ _ [blk r (runC pv key vv fuel i.a steps halted s3 g tv (.map (some mb))) 288, osl kVal s3 ((needsM i.op stk).2.1), osl kPair tv told, digsP mb] [rsl kStr vv vals, gl] := H
                       exact fin ⟨s3, tv, vv, by rw [e] <;> rfl, by rw [e] <;> exact Suf.refl _ _ _, by rw [e] <;> rfl⟩ H
                      ·refine c_skip (q_blockN (q_then (c_seq (c_reg (s_1 rfl (s_nil (q_then (c_ret (q_ret1 rfl rfl ?_)))))))))
                       replace H := H.p5.p5.p3.p3.k4
                       have e : doesM dg key (⟨pos, halted, stk, g, told, vals⟩ : VM) i = ((⟨pos, halted, (needsM i.op stk).2.1, g, told, vals⟩ : VM), 0) := by
                         rw [does_act (m := (⟨pos, halted, stk, g, told, vals⟩ : VM)) h4, act_20 h197]
                         rw [getD_at hx204, if_neg h206]
                       replace H : Hd _ _ _ [blk r (runC pv key vv fuel pos steps halted s3 g tv (.map (some mb))) 288, osl kVal s3 ((needsM i.op stk).2.1), osl kPair tv told, digsP mb] [rsl kStr vv vals, gl] := H
                       exact fin ⟨s3, tv, vv, by rw [e] <;> rfl, by rw [e] <;> exact Suf.refl _ _ _, by rw [e] <;> rfl⟩ H
                     ·refine c_seq (c_reg (s_val rfl rfl (r_eq rfl rfl rfl) (s_1 rfl (s_nil (q_then ?_)))))
                      refine c_dec rfl (fun h207 => ?_) (fun h207 => ?_)
                      ·have hks : (kindsS i.op).size = 0 := by rw [h207]; rfl
                       refine c_seq ?_
                       have hia := hi.2.2.2.2.2.1 (by omega)
                       obtain ⟨gk, hgk⟩ : ∃ z, z = g (i.a).toNat := ⟨_, rfl⟩
                       replace H := H.p5.p5.p5.p5
                       refine c_ord (.e 0 (.e 1 (.e 2 (.e 3 (.e 4 (.e 5 (.e 6 (.m 7 (.m 8 (.m 9 (.e 10 .z))))))))))) (fun w => ∃ Ar, Hd w0 F0 w (osl kVal u2 ((needsM i.op stk).2.2) :: blk b1 [.int .i64 i.op, .int .i64 i.a, .string i.s] 223 :: osl kPair tv told :: digsP mb :: Ar) [rsl kStr vv vals, gl]) mo (by kernel_rfl) (fun w H => ⟨_, H⟩) H (fun w H => (d_1 rfl (d_1 rfl (d_val rfl rfl rfl (fun w ⟨Ar, H⟩ => r_fa rfl fo223_1 rfl) (d_val rfl rfl rfl (fun w ⟨Ar, H⟩ => r_ld rfl ty3 rfl (H.cellI 1 rfl rfl)) (d_val rfl rfl rfl (fun w ⟨Ar, H⟩ => r_nilP rfl rfl) (d_val rfl rfl rfl (fun w ⟨Ar, H⟩ => r_fa rfl fo288_8 rfl) (d_val rfl rfl rfl (fun w ⟨Ar, H⟩ => r_iaB (p := 8 + (i.a).toNat * 3) rfl un285 is284 rfl rfl (by omega) (by omega) (by omega)) (d_main rfl (s_val rfl rfl (r_ldA (cs := [.bool gk.t, .int .i64 gk.n, .string gk.b]) rfl ty284 rfl rfl (H.cellsI 4 rfl (by rw [hgk]; exact runC_reg (by omega)))) ?_))))))))))
                       refine d_back ⟨_, H⟩ (d_main rfl (s_bsl (parts := [(0, .tmp 219)]) (vs := [.agg #[.bool gk.t, .int .i64 gk.n, .string gk.b]]) (cs := [.bool gk.t, .int .i64 gk.n, .string gk.b]) rfl rfl rfl sl282 zr284 rfl (by decide) (by decide) rfl rfl H (fun b208 w H => ?_)))
                       replace H := H.h1 (A := blk b208 [.bool gk.t, .int .i64 gk.n, .string gk.b] 284) |>.p4 |>.p4 |>.p4 |>.p4
                       refine d_back ⟨_, H⟩ (d_main rfl ?_)
                       replace H := H.p6.p6
                       refine sc (push_ok r pv key vv fuel pos steps halted s3 g tv (.map (some mb)) ((needsM i.op stk).2.1) (.slice (some ⟨b208, 0, none⟩) 1 1) [gk] (by first | omega | exact Nat.le_trans hN.2.1 hst) (Nat.le_of_ble_eq_true rfl)) H (lA 4 rfl (fun F h => blk_rsl h rfl (by decide) (RepsR.flat_eq.2 rfl)) l0) rfl rfl (e_fn kn265 rfl rfl) ?_
                       rintro _ _ w ⟨s209, rfl, rfl⟩ H
                       replace H := H.h2 (A := blk r (runC pv key vv fuel pos steps halted s209 g tv (.map (some mb))) 288) (B := osl kVal s209 ((pushM ((needsM i.op stk).2.1) [gk]).2)) |>.p5 |>.p5 |>.p5 |>.p5
                       refine d_back ⟨_, H⟩ (d_1 rfl (d_nil (q_then (c_ret (q_blockR (q_thenR (q_ret1 rfl rfl ?_)))))))
                       replace H := H.p3.p3.p5.p5.k4
                       have e : doesM dg key (⟨pos, halted, stk, g, told, vals⟩ : VM) i = ((⟨pos, halted, (pushM ((needsM i.op stk).2.1) [gk]).2, g, told, vals⟩ : VM), (pushM ((needsM i.op stk).2.1) [gk]).1) := by
                         rw [does_act (m := (⟨pos, halted, stk, g, told, vals⟩ : VM)) h4, act_21 h207]
                         rw [show gk = g i.a.toNat from hgk] <;> rfl
                       replace H : Hd _ _ _ [blk r (runC pv key vv fuel pos steps halted s209 g tv (.map (some mb))) 288, osl kVal s209 ((pushM ((needsM i.op stk).2.1) [gk]).2), osl kPair tv told, digsP mb] [rsl kStr vv vals, gl] := H
                       exact fin ⟨s209, tv, vv, by rw [e] <;> rfl, by rw [e] <;> exact Suf.refl _ _ _, by rw [e] <;> rfl⟩ H
                      ·refine c_seq (c_reg (s_val rfl rfl (r_eq rfl rfl rfl) (s_1 rfl (s_nil (q_then ?_)))))
                       refine c_dec rfl (fun h210 => ?_) (fun h210 => ?_)
                       ·have hks : (kindsS i.op).size = 1 := by rw [h210]; rfl
                        have hia := hi.2.2.2.2.2.1 (by omega)
                        obtain ⟨A211, c212, rfl, hc213, hm214, hp215⟩ := H.fA 2 rfl
                        obtain ⟨x216, hx217⟩ : ∃ z9, ((needsM i.op stk).2.2)[0]? = some z9 := ⟨_, List.getElem?_eq_getElem (show 0 < ((needsM i.op stk).2.2).length by omega)⟩
                        have okx216 := hok.1 _ (hN.2.2.1 _ (at_mem hx217))
                        have szx216 := okx216.2
                        have inx216 := okx216.1
                        replace H := H.p5.p5.p5.p5.p5
                        refine c_ord (.e 0 (.e 1 (.e 2 (.e 3 (.e 4 (.e 5 (.e 6 (.e 7 (.e 8 (.m 9 .z)))))))))) (fun w => ∃ Ar, Hd w0 F0 w (osl kVal s3 ((needsM i.op stk).2.1) :: osl kVal (.slice A211 (((needsM i.op stk).2.2).length) c212) ((needsM i.op stk).2.2) :: blk b1 [.int .i64 i.op, .int .i64 i.a, .string i.s] 223 :: osl kPair tv told :: digsP mb :: Ar) [rsl kStr vv vals, gl]) mo (by kernel_rfl) (fun w H => ⟨_, H⟩) H (fun w H => (d_1 rfl (d_val rfl rfl rfl (fun w ⟨Ar, H⟩ => r_fa rfl fo223_1 rfl) (d_val rfl rfl rfl (fun w ⟨Ar, H⟩ => r_ld rfl ty3 rfl (H.cellI 2 rfl rfl)) (d_1 rfl ?_)))))
                        have th218 := H.thA 1 rfl hx217
                        refine d_val rfl rfl rfl (fun w ⟨Ar, H⟩ => r_iaE (p := oOf A211 + 0 * 3) rfl sl282 rfl rfl (by omega) (by omega) th218 (by omega)) (d_val rfl rfl rfl (fun w ⟨Ar, H⟩ => r_ldA (cs := [.bool x216.t, .int .i64 x216.n, .string x216.b]) rfl ty284 rfl rfl (H.elsA 1 rfl hx217 rfl)) (d_val rfl rfl rfl (fun w ⟨Ar, H⟩ => r_nilP rfl rfl) (d_val rfl rfl rfl (fun w ⟨Ar, H⟩ => r_fa rfl fo288_8 rfl) (d_val rfl rfl rfl (fun w ⟨Ar, H⟩ => r_iaB (p := 8 + (i.a).toNat * 3) rfl un285 is284 rfl rfl (by omega) (by omega) (by omega)) (d_main rfl ?_)))))
                        replace H := H.p5
                        refine s_st rfl rfl rfl ty284 rfl rfl H rfl (by show 8 + (i.a).toNat * 3 + 3 ≤ 34; omega) (fun u hu => by simp [Value.cells] at hu; rcases hu with rfl | rfl | rfl <;> rfl) (fun w H => ?_)
                        replace H : Hd w0 F0 w [blk r (runC pv key vv fuel pos steps halted s3 (setG g i.a.toNat x216) tv (.map (some mb))) 288, osl kVal s3 ((needsM i.op stk).2.1), osl kVal (.slice A211 (((needsM i.op stk).2.2).length) c212) ((needsM i.op stk).2.2), blk b1 [.int .i64 i.op, .int .i64 i.a, .string i.s] 223, osl kPair tv told, digsP mb] [rsl kStr vv vals, gl] := by rw [← runC_set (show i.a.toNat < 8 by omega) x216]; exact H
                        replace H := H.p5.p5.p5.p5.p5
                        refine d_back ⟨_, H⟩ (d_nil (q_blockN (q_then (c_seq (c_reg (s_1 rfl (s_nil (q_then (c_ret (q_ret1 rfl rfl ?_))))))))))
                        replace H := H.p4.p4.p2.p5.k4
                        have e : doesM dg key (⟨pos, halted, stk, g, told, vals⟩ : VM) i = ((⟨pos, halted, (needsM i.op stk).2.1, setG g i.a.toNat x216, told, vals⟩ : VM), 0) := by
                          rw [does_act (m := (⟨pos, halted, stk, g, told, vals⟩ : VM)) h4, act_22 h210]
                          rw [getD_at hx217] <;> rfl
                        replace H : Hd _ _ _ [blk r (runC pv key vv fuel pos steps halted s3 (setG g i.a.toNat x216) tv (.map (some mb))) 288, osl kVal s3 ((needsM i.op stk).2.1), osl kPair tv told, digsP mb] [rsl kStr vv vals, gl] := H
                        exact fin ⟨s3, tv, vv, by rw [e] <;> rfl, by rw [e] <;> exact Suf.refl _ _ _, by rw [e] <;> rfl⟩ H
                       ·refine c_seq (c_reg (s_val rfl rfl (r_eq rfl rfl rfl) (s_1 rfl (s_nil (q_then ?_)))))
                        refine c_dec rfl (fun h219 => ?_) (fun h219 => ?_)
                        ·have hks : (kindsS i.op).size = 2 := by rw [h219]; rfl
                         refine c_seq ?_
                         obtain ⟨A220, c221, rfl, hc222, hm223, hp224⟩ := H.fA 2 rfl
                         obtain ⟨x225, hx226⟩ : ∃ z9, ((needsM i.op stk).2.2)[0]? = some z9 := ⟨_, List.getElem?_eq_getElem (show 0 < ((needsM i.op stk).2.2).length by omega)⟩
                         have okx225 := hok.1 _ (hN.2.2.1 _ (at_mem hx226))
                         have szx225 := okx225.2
                         have inx225 := okx225.1
                         obtain ⟨x227, hx228⟩ : ∃ z9, ((needsM i.op stk).2.2)[1]? = some z9 := ⟨_, List.getElem?_eq_getElem (show 1 < ((needsM i.op stk).2.2).length by omega)⟩
                         have okx227 := hok.1 _ (hN.2.2.1 _ (at_mem hx228))
                         have szx227 := okx227.2
                         have inx227 := okx227.1
                         replace H := H.p5.p4.p4.p4
                         refine c_ord (.e 0 (.e 1 (.e 2 (.e 3 (.e 4 (.e 5 (.e 6 (.e 7 (.e 8 (.m 9 (.e 10 .z))))))))))) (fun w => ∃ Ar, Hd w0 F0 w (osl kVal s3 ((needsM i.op stk).2.1) :: osl kVal (.slice A220 (((needsM i.op stk).2.2).length) c221) ((needsM i.op stk).2.2) :: blk b1 [.int .i64 i.op, .int .i64 i.a, .string i.s] 223 :: digsP mb :: Ar) [rsl kStr vv vals, gl]) mo (by kernel_rfl) (fun w H => ⟨_, H⟩) H (fun w H => (d_1 rfl (d_1 rfl ?_)))
                         have th229 := H.thA 1 rfl hx226
                         refine d_val rfl rfl rfl (fun w ⟨Ar, H⟩ => r_iaE (p := oOf A220 + 0 * 3) rfl sl282 rfl rfl (by omega) (by omega) th229 (by omega)) (d_val rfl rfl rfl (fun w ⟨Ar, H⟩ => r_fa rfl fo284_2 rfl) (d_val rfl rfl rfl (fun w ⟨Ar, H⟩ => r_ld rfl ty9 rfl (H.elA 1 rfl hx226 (q := 2) rfl rfl)) (d_1 rfl ?_)))
                         have th230 := H.thA 1 rfl hx228
                         refine d_val rfl rfl rfl (fun w ⟨Ar, H⟩ => r_iaE (p := oOf A220 + 1 * 3) rfl sl282 rfl rfl (by omega) (by omega) th230 (by omega)) (d_val rfl rfl rfl (fun w ⟨Ar, H⟩ => r_fa rfl fo284_2 rfl) (d_val rfl rfl rfl (fun w ⟨Ar, H⟩ => r_ld rfl ty9 rfl (H.elA 1 rfl hx228 (q := 2) rfl rfl)) (d_main rfl ?_)))
                         replace H := H.p5.p5
                         refine sc (emit_ok r pv key vv fuel pos steps halted s3 g tv (.map (some mb)) told x225.b x227.b (by omega)) H l0 rfl rfl (e_fn kn276 rfl rfl) ?_
                         rintro _ _ w ⟨t231, rfl, rfl⟩ H
                         replace H := H.h2 (A := blk r (runC pv key vv fuel pos steps halted s3 g t231 (.map (some mb))) 288) (B := osl kPair t231 ((emitM told x225.b x227.b).2)) |>.p5 |>.p5 |>.p5 |>.p5
                         refine d_back ⟨_, H⟩ (d_1 rfl (d_nil (q_then (c_ret (q_blockR (q_thenR (q_ret1 rfl rfl ?_)))))))
                         replace H := H.p3.p5.p2.p5.k4
                         have e : doesM dg key (⟨pos, halted, stk, g, told, vals⟩ : VM) i = ((⟨pos, halted, (needsM i.op stk).2.1, g, (emitM told x225.b x227.b).2, vals⟩ : VM), (emitM told x225.b x227.b).1) := by
                           rw [does_act (m := (⟨pos, halted, stk, g, told, vals⟩ : VM)) h4, act_23 h219]
                           rw [getD_at hx226, getD_at hx228] <;> rfl
                         replace H : Hd _ _ _ [blk r (runC pv key vv fuel pos steps halted s3 g t231 (.map (some mb))) 288, osl kVal s3 ((needsM i.op stk).2.1), osl kPair t231 ((emitM told x225.b x227.b).2), digsP mb] [rsl kStr vv vals, gl] := H
                         exact fin ⟨s3, t231, vv, by rw [e] <;> rfl, by rw [e] <;> exact Suf.refl _ _ _, by rw [e] <;> rfl⟩ H
                        ·refine c_skip (q_blockN (q_then (c_seq (c_reg (s_1 rfl (s_nil (q_then (c_ret (q_ret1 rfl rfl ?_)))))))))
                         replace H := H.p5.p5.p3.p3.k4
                         have hop : i.op = 4 := by have := hi.1; have := hi.2.1; omega
                         have e : doesM dg key (⟨pos, halted, stk, g, told, vals⟩ : VM) i = ((⟨pos, halted, (needsM i.op stk).2.1, g, told, vals⟩ : VM), 0) := by
                           rw [does_act (m := (⟨pos, halted, stk, g, told, vals⟩ : VM)) h4, act_4 hop]
                           all_goals rfl
                         replace H : Hd _ _ _ [blk r (runC pv key vv fuel pos steps halted s3 g tv (.map (some mb))) 288, osl kVal s3 ((needsM i.op stk).2.1), osl kPair tv told, digsP mb] [rsl kStr vv vals, gl] := H
                         exact fin ⟨s3, tv, vv, by rw [e] <;> rfl, by rw [e] <;> exact Suf.refl _ _ _, by rw [e] <;> rfl⟩ H

set_option maxHeartbeats 1000000 in
theorem pmay_ok (p : Ins) (n : Int) :
    Cn Tryz.prog 224 [.agg #[.int .i64 p.op, .int .i64 p.a, .string p.s], .int .i64 n] [] [] (fun v Bs => v = .bool (decide (goodI p n)) ∧ Bs = []) := by
 intro w0 F0 H
 refine enter Tryz.func224 rfl rfl (Nat.le_of_ble_eq_true rfl) (c_seq (c_reg (s_box rfl rfl rfl rfl H (fun b1 w H => (s_1 rfl (s_nil (q_then ?_)))))))
 replace H : Hd _ _ _ [blk b1 [.int .i64 p.op, .int .i64 p.a, .string p.s] 223] [] := H
 refine c_seq (c_reg (s_k 3 rfl (s_nil (q_then (c_seq (c_seq (c_reg (s_val rfl rfl (r_fa rfl fo223_0 rfl) (s_val rfl rfl (r_ld rfl ty3 rfl (H.cellI 0 rfl rfl)) (s_nil (q_then (c_block (c_seq (c_reg (s_val rfl rfl (r_eq rfl rfl rfl) (s_1 rfl (s_nil (q_then ?_))))))))))))))))))
 refine c_dec rfl (fun h2 => ?_) (fun h2 => ?_)
 ·refine c_seq (c_reg (s_val rfl rfl (r_fa rfl fo223_2 rfl) (s_val rfl rfl (r_ld rfl ty9 rfl (H.cellI 0 rfl rfl)) (s_val rfl rfl (r_eqS rfl rfl rfl) (s_1 rfl (s_nil (q_then (c_ret (q_blockR (q_thenR (q_ret1 rfl rfl ?_)))))))))))
  replace H := H.nil
  exact fin ⟨congrArg Value.bool (decide_eq_decide.2 (by rw [nil_size]; unfold goodI; omega)), rfl⟩ H
 ·refine c_seq (c_reg (s_val rfl rfl (r_eq rfl rfl rfl) (s_1 rfl (s_nil (q_then ?_)))))
  refine c_dec rfl (fun h3 => ?_) (fun h3 => ?_)
  ·refine c_reg (s_1 rfl (s_nil (q_blockN (q_then (c_seq (c_reg (s_val rfl rfl (r_fa rfl fo223_0 rfl) (s_val rfl rfl (r_ld rfl ty3 rfl (H.cellI 0 rfl rfl)) (s_val rfl rfl (r_ge rfl rfl rfl) (s_1 rfl ?_))))))))))
   refine s_dec (d := 27) rfl (fun h4 => ?_) (fun h4 => ?_)
   ·refine s_val rfl rfl (r_fa rfl fo223_0 rfl) (s_val rfl rfl (r_ld rfl ty3 rfl (H.cellI 0 rfl rfl)) (s_val rfl rfl (r_le rfl rfl rfl) (s_k 2 rfl ?_)))
    refine s_dec (d := 32) rfl (fun h5 => ?_) (fun h5 => ?_)
    ·refine s_val rfl rfl (r_fa rfl fo223_1 rfl) (s_val rfl rfl (r_ld rfl ty3 rfl (H.cellI 0 rfl rfl)) (s_1 rfl (s_val rfl rfl (r_ge rfl rfl rfl) (s_k 2 rfl ?_))))
     refine s_dec (d := 38) rfl (fun h6 => ?_) (fun h6 => ?_)
     ·refine s_val rfl rfl (r_fa rfl fo223_1 rfl) (s_val rfl rfl (r_ld rfl ty3 rfl (H.cellI 0 rfl rfl)) (s_1 rfl (s_val rfl rfl (r_le rfl rfl rfl) (s_k 2 rfl ?_))))
      refine s_dec (d := 44) rfl (fun h7 => ?_) (fun h7 => ?_)
      ·refine s_val rfl rfl (r_fa rfl fo223_2 rfl) (s_val rfl rfl (r_ld rfl ty9 rfl (H.cellI 0 rfl rfl)) (s_val rfl rfl (r_lenS rfl un9 rfl) (s_1 rfl (s_val rfl rfl (r_le rfl rfl rfl) (s_k 2 rfl (s_nil (q_then (c_ret (q_ret1 rfl rfl ?_)))))))))
       replace H := H.nil
       exact fin ⟨congrArg Value.bool (decide_eq_decide.2 (by unfold goodI; omega)), rfl⟩ H
      ·refine s_k 7 rfl (s_nil (q_then (c_ret (q_ret1 rfl rfl ?_))))
       replace H := H.nil
       exact fin ⟨congrArg Value.bool (decide_eq_false (by unfold goodI; omega)).symm, rfl⟩ H
     ·refine s_k 12 rfl (s_1 rfl (s_nil (q_then (c_ret (q_ret1 rfl rfl ?_)))))
      replace H := H.nil
      exact fin ⟨congrArg Value.bool (decide_eq_false (by unfold goodI; omega)).symm, rfl⟩ H
    ·refine s_k 12 rfl (s_k 7 rfl (s_nil (q_then (c_ret (q_ret1 rfl rfl ?_)))))
     replace H := H.nil
     exact fin ⟨congrArg Value.bool (decide_eq_false (by unfold goodI; omega)).symm, rfl⟩ H
   ·refine s_k 12 rfl (s_k 12 rfl (s_nil (q_then (c_ret (q_ret1 rfl rfl ?_)))))
    replace H := H.nil
    exact fin ⟨congrArg Value.bool (decide_eq_false (by unfold goodI; omega)).symm, rfl⟩ H
  ·refine c_seq (c_seq (c_reg (s_val rfl rfl (r_eq rfl rfl rfl) (s_1 rfl (s_nil (q_then ?_))))))
   refine c_dec rfl (fun h8 => ?_) (fun h8 => ?_)
   ·refine c_skip (q_then ?_)
    refine c_dec rfl (fun h9 => ?_) (fun h9 => ?_)
    ·refine c_reg (s_k 2 rfl (s_nil (q_blockN (q_then (c_seq (c_reg (s_val rfl rfl (r_fa rfl fo223_0 rfl) (s_val rfl rfl (r_ld rfl ty3 rfl (H.cellI 0 rfl rfl)) (s_val rfl rfl (r_ge rfl rfl rfl) (s_1 rfl ?_))))))))))
     refine s_dec (d := 27) rfl (fun h10 => ?_) (fun h10 => ?_)
     ·refine s_val rfl rfl (r_fa rfl fo223_0 rfl) (s_val rfl rfl (r_ld rfl ty3 rfl (H.cellI 0 rfl rfl)) (s_val rfl rfl (r_le rfl rfl rfl) (s_k 2 rfl ?_)))
      refine s_dec (d := 32) rfl (fun h11 => ?_) (fun h11 => ?_)
      ·refine s_val rfl rfl (r_fa rfl fo223_1 rfl) (s_val rfl rfl (r_ld rfl ty3 rfl (H.cellI 0 rfl rfl)) (s_1 rfl (s_val rfl rfl (r_ge rfl rfl rfl) (s_k 2 rfl ?_))))
       refine s_dec (d := 38) rfl (fun h12 => ?_) (fun h12 => ?_)
       ·refine s_val rfl rfl (r_fa rfl fo223_1 rfl) (s_val rfl rfl (r_ld rfl ty3 rfl (H.cellI 0 rfl rfl)) (s_1 rfl (s_val rfl rfl (r_le rfl rfl rfl) (s_k 2 rfl ?_))))
        refine s_dec (d := 44) rfl (fun h13 => ?_) (fun h13 => ?_)
        ·refine s_val rfl rfl (r_fa rfl fo223_2 rfl) (s_val rfl rfl (r_ld rfl ty9 rfl (H.cellI 0 rfl rfl)) (s_val rfl rfl (r_lenS rfl un9 rfl) (s_1 rfl (s_val rfl rfl (r_le rfl rfl rfl) (s_k 2 rfl (s_nil (q_then (c_ret (q_ret1 rfl rfl ?_)))))))))
         replace H := H.nil
         exact fin ⟨congrArg Value.bool (decide_eq_decide.2 (by unfold goodI; omega)), rfl⟩ H
        ·refine s_k 7 rfl (s_nil (q_then (c_ret (q_ret1 rfl rfl ?_))))
         replace H := H.nil
         exact fin ⟨congrArg Value.bool (decide_eq_false (by unfold goodI; omega)).symm, rfl⟩ H
       ·refine s_k 12 rfl (s_1 rfl (s_nil (q_then (c_ret (q_ret1 rfl rfl ?_)))))
        replace H := H.nil
        exact fin ⟨congrArg Value.bool (decide_eq_false (by unfold goodI; omega)).symm, rfl⟩ H
      ·refine s_k 12 rfl (s_k 7 rfl (s_nil (q_then (c_ret (q_ret1 rfl rfl ?_)))))
       replace H := H.nil
       exact fin ⟨congrArg Value.bool (decide_eq_false (by unfold goodI; omega)).symm, rfl⟩ H
     ·refine s_k 12 rfl (s_k 12 rfl (s_nil (q_then (c_ret (q_ret1 rfl rfl ?_)))))
      replace H := H.nil
      exact fin ⟨congrArg Value.bool (decide_eq_false (by unfold goodI; omega)).symm, rfl⟩ H
    ·refine c_seq (c_seq (c_reg (s_val rfl rfl (r_eq rfl rfl rfl) (s_1 rfl (s_nil (q_then ?_))))))
     refine c_dec rfl (fun h14 => ?_) (fun h14 => ?_)
     ·refine c_skip (q_then ?_)
      refine c_dec rfl (fun h15 => ?_) (fun h15 => ?_)
      ·refine c_reg (s_1 rfl (s_nil (q_blockN (q_then (c_seq (c_reg (s_val rfl rfl (r_fa rfl fo223_0 rfl) (s_val rfl rfl (r_ld rfl ty3 rfl (H.cellI 0 rfl rfl)) (s_val rfl rfl (r_ge rfl rfl rfl) (s_1 rfl ?_))))))))))
       refine s_dec (d := 27) rfl (fun h16 => ?_) (fun h16 => ?_)
       ·refine s_val rfl rfl (r_fa rfl fo223_0 rfl) (s_val rfl rfl (r_ld rfl ty3 rfl (H.cellI 0 rfl rfl)) (s_val rfl rfl (r_le rfl rfl rfl) (s_k 2 rfl ?_)))
        refine s_dec (d := 32) rfl (fun h17 => ?_) (fun h17 => ?_)
        ·refine s_val rfl rfl (r_fa rfl fo223_1 rfl) (s_val rfl rfl (r_ld rfl ty3 rfl (H.cellI 0 rfl rfl)) (s_1 rfl (s_val rfl rfl (r_ge rfl rfl rfl) (s_k 2 rfl ?_))))
         refine s_dec (d := 38) rfl (fun h18 => ?_) (fun h18 => ?_)
         ·refine s_val rfl rfl (r_fa rfl fo223_1 rfl) (s_val rfl rfl (r_ld rfl ty3 rfl (H.cellI 0 rfl rfl)) (s_1 rfl (s_val rfl rfl (r_le rfl rfl rfl) (s_k 2 rfl ?_))))
          refine s_dec (d := 44) rfl (fun h19 => ?_) (fun h19 => ?_)
          ·refine s_val rfl rfl (r_fa rfl fo223_2 rfl) (s_val rfl rfl (r_ld rfl ty9 rfl (H.cellI 0 rfl rfl)) (s_val rfl rfl (r_lenS rfl un9 rfl) (s_1 rfl (s_val rfl rfl (r_le rfl rfl rfl) (s_k 2 rfl (s_nil (q_then (c_ret (q_ret1 rfl rfl ?_)))))))))
           replace H := H.nil
           exact fin ⟨congrArg Value.bool (decide_eq_decide.2 (by unfold goodI; omega)), rfl⟩ H
          ·refine s_k 7 rfl (s_nil (q_then (c_ret (q_ret1 rfl rfl ?_))))
           replace H := H.nil
           exact fin ⟨congrArg Value.bool (decide_eq_false (by unfold goodI; omega)).symm, rfl⟩ H
         ·refine s_k 12 rfl (s_1 rfl (s_nil (q_then (c_ret (q_ret1 rfl rfl ?_)))))
          replace H := H.nil
          exact fin ⟨congrArg Value.bool (decide_eq_false (by unfold goodI; omega)).symm, rfl⟩ H
        ·refine s_k 12 rfl (s_k 7 rfl (s_nil (q_then (c_ret (q_ret1 rfl rfl ?_)))))
         replace H := H.nil
         exact fin ⟨congrArg Value.bool (decide_eq_false (by unfold goodI; omega)).symm, rfl⟩ H
       ·refine s_k 12 rfl (s_k 12 rfl (s_nil (q_then (c_ret (q_ret1 rfl rfl ?_)))))
        replace H := H.nil
        exact fin ⟨congrArg Value.bool (decide_eq_false (by unfold goodI; omega)).symm, rfl⟩ H
      ·refine c_skip (q_blockN (q_then (c_seq (c_reg (s_val rfl rfl (r_fa rfl fo223_0 rfl) (s_val rfl rfl (r_ld rfl ty3 rfl (H.cellI 0 rfl rfl)) (s_val rfl rfl (r_ge rfl rfl rfl) (s_1 rfl ?_))))))))
       refine s_dec (d := 27) rfl (fun h20 => ?_) (fun h20 => ?_)
       ·refine s_val rfl rfl (r_fa rfl fo223_0 rfl) (s_val rfl rfl (r_ld rfl ty3 rfl (H.cellI 0 rfl rfl)) (s_val rfl rfl (r_le rfl rfl rfl) (s_k 2 rfl ?_)))
        refine s_dec (d := 32) rfl (fun h21 => ?_) (fun h21 => ?_)
        ·refine s_val rfl rfl (r_fa rfl fo223_1 rfl) (s_val rfl rfl (r_ld rfl ty3 rfl (H.cellI 0 rfl rfl)) (s_1 rfl (s_val rfl rfl (r_ge rfl rfl rfl) (s_k 2 rfl ?_))))
         refine s_dec (d := 38) rfl (fun h22 => ?_) (fun h22 => ?_)
         ·refine s_val rfl rfl (r_fa rfl fo223_1 rfl) (s_val rfl rfl (r_ld rfl ty3 rfl (H.cellI 0 rfl rfl)) (s_1 rfl (s_val rfl rfl (r_le rfl rfl rfl) (s_k 2 rfl ?_))))
          refine s_dec (d := 44) rfl (fun h23 => ?_) (fun h23 => ?_)
          ·refine s_val rfl rfl (r_fa rfl fo223_2 rfl) (s_val rfl rfl (r_ld rfl ty9 rfl (H.cellI 0 rfl rfl)) (s_val rfl rfl (r_lenS rfl un9 rfl) (s_1 rfl (s_val rfl rfl (r_le rfl rfl rfl) (s_k 2 rfl (s_nil (q_then (c_ret (q_ret1 rfl rfl ?_)))))))))
           replace H := H.nil
           exact fin ⟨congrArg Value.bool (decide_eq_decide.2 (by unfold goodI; omega)), rfl⟩ H
          ·refine s_k 7 rfl (s_nil (q_then (c_ret (q_ret1 rfl rfl ?_))))
           replace H := H.nil
           exact fin ⟨congrArg Value.bool (decide_eq_false (by unfold goodI; omega)).symm, rfl⟩ H
         ·refine s_k 12 rfl (s_1 rfl (s_nil (q_then (c_ret (q_ret1 rfl rfl ?_)))))
          replace H := H.nil
          exact fin ⟨congrArg Value.bool (decide_eq_false (by unfold goodI; omega)).symm, rfl⟩ H
        ·refine s_k 12 rfl (s_k 7 rfl (s_nil (q_then (c_ret (q_ret1 rfl rfl ?_)))))
         replace H := H.nil
         exact fin ⟨congrArg Value.bool (decide_eq_false (by unfold goodI; omega)).symm, rfl⟩ H
       ·refine s_k 12 rfl (s_k 12 rfl (s_nil (q_then (c_ret (q_ret1 rfl rfl ?_)))))
        replace H := H.nil
        exact fin ⟨congrArg Value.bool (decide_eq_false (by unfold goodI; omega)).symm, rfl⟩ H
     ·refine c_reg (s_val rfl rfl (r_eq rfl rfl rfl) (s_1 rfl (s_nil (q_then ?_))))
      refine c_dec rfl (fun h24 => ?_) (fun h24 => ?_)
      ·refine c_reg (s_1 rfl (s_nil (q_blockN (q_then (c_seq (c_reg (s_val rfl rfl (r_fa rfl fo223_0 rfl) (s_val rfl rfl (r_ld rfl ty3 rfl (H.cellI 0 rfl rfl)) (s_val rfl rfl (r_ge rfl rfl rfl) (s_1 rfl ?_))))))))))
       refine s_dec (d := 27) rfl (fun h25 => ?_) (fun h25 => ?_)
       ·refine s_val rfl rfl (r_fa rfl fo223_0 rfl) (s_val rfl rfl (r_ld rfl ty3 rfl (H.cellI 0 rfl rfl)) (s_val rfl rfl (r_le rfl rfl rfl) (s_k 2 rfl ?_)))
        refine s_dec (d := 32) rfl (fun h26 => ?_) (fun h26 => ?_)
        ·refine s_val rfl rfl (r_fa rfl fo223_1 rfl) (s_val rfl rfl (r_ld rfl ty3 rfl (H.cellI 0 rfl rfl)) (s_1 rfl (s_val rfl rfl (r_ge rfl rfl rfl) (s_k 2 rfl ?_))))
         refine s_dec (d := 38) rfl (fun h27 => ?_) (fun h27 => ?_)
         ·refine s_val rfl rfl (r_fa rfl fo223_1 rfl) (s_val rfl rfl (r_ld rfl ty3 rfl (H.cellI 0 rfl rfl)) (s_1 rfl (s_val rfl rfl (r_le rfl rfl rfl) (s_k 2 rfl ?_))))
          refine s_dec (d := 44) rfl (fun h28 => ?_) (fun h28 => ?_)
          ·refine s_val rfl rfl (r_fa rfl fo223_2 rfl) (s_val rfl rfl (r_ld rfl ty9 rfl (H.cellI 0 rfl rfl)) (s_val rfl rfl (r_lenS rfl un9 rfl) (s_1 rfl (s_val rfl rfl (r_le rfl rfl rfl) (s_k 2 rfl (s_nil (q_then (c_ret (q_ret1 rfl rfl ?_)))))))))
           replace H := H.nil
           exact fin ⟨congrArg Value.bool (decide_eq_decide.2 (by unfold goodI; omega)), rfl⟩ H
          ·refine s_k 7 rfl (s_nil (q_then (c_ret (q_ret1 rfl rfl ?_))))
           replace H := H.nil
           exact fin ⟨congrArg Value.bool (decide_eq_false (by unfold goodI; omega)).symm, rfl⟩ H
         ·refine s_k 12 rfl (s_1 rfl (s_nil (q_then (c_ret (q_ret1 rfl rfl ?_)))))
          replace H := H.nil
          exact fin ⟨congrArg Value.bool (decide_eq_false (by unfold goodI; omega)).symm, rfl⟩ H
        ·refine s_k 12 rfl (s_k 7 rfl (s_nil (q_then (c_ret (q_ret1 rfl rfl ?_)))))
         replace H := H.nil
         exact fin ⟨congrArg Value.bool (decide_eq_false (by unfold goodI; omega)).symm, rfl⟩ H
       ·refine s_k 12 rfl (s_k 12 rfl (s_nil (q_then (c_ret (q_ret1 rfl rfl ?_)))))
        replace H := H.nil
        exact fin ⟨congrArg Value.bool (decide_eq_false (by unfold goodI; omega)).symm, rfl⟩ H
      ·refine c_skip (q_blockN (q_then (c_seq (c_reg (s_val rfl rfl (r_fa rfl fo223_0 rfl) (s_val rfl rfl (r_ld rfl ty3 rfl (H.cellI 0 rfl rfl)) (s_val rfl rfl (r_ge rfl rfl rfl) (s_1 rfl ?_))))))))
       refine s_dec (d := 27) rfl (fun h29 => ?_) (fun h29 => ?_)
       ·refine s_val rfl rfl (r_fa rfl fo223_0 rfl) (s_val rfl rfl (r_ld rfl ty3 rfl (H.cellI 0 rfl rfl)) (s_val rfl rfl (r_le rfl rfl rfl) (s_k 2 rfl ?_)))
        refine s_dec (d := 32) rfl (fun h30 => ?_) (fun h30 => ?_)
        ·refine s_val rfl rfl (r_fa rfl fo223_1 rfl) (s_val rfl rfl (r_ld rfl ty3 rfl (H.cellI 0 rfl rfl)) (s_1 rfl (s_val rfl rfl (r_ge rfl rfl rfl) (s_k 2 rfl ?_))))
         refine s_dec (d := 38) rfl (fun h31 => ?_) (fun h31 => ?_)
         ·refine s_val rfl rfl (r_fa rfl fo223_1 rfl) (s_val rfl rfl (r_ld rfl ty3 rfl (H.cellI 0 rfl rfl)) (s_1 rfl (s_val rfl rfl (r_le rfl rfl rfl) (s_k 2 rfl ?_))))
          refine s_dec (d := 44) rfl (fun h32 => ?_) (fun h32 => ?_)
          ·refine s_val rfl rfl (r_fa rfl fo223_2 rfl) (s_val rfl rfl (r_ld rfl ty9 rfl (H.cellI 0 rfl rfl)) (s_val rfl rfl (r_lenS rfl un9 rfl) (s_1 rfl (s_val rfl rfl (r_le rfl rfl rfl) (s_k 2 rfl (s_nil (q_then (c_ret (q_ret1 rfl rfl ?_)))))))))
           replace H := H.nil
           exact fin ⟨congrArg Value.bool (decide_eq_decide.2 (by unfold goodI; omega)), rfl⟩ H
          ·refine s_k 7 rfl (s_nil (q_then (c_ret (q_ret1 rfl rfl ?_))))
           replace H := H.nil
           exact fin ⟨congrArg Value.bool (decide_eq_false (by unfold goodI; omega)).symm, rfl⟩ H
         ·refine s_k 12 rfl (s_1 rfl (s_nil (q_then (c_ret (q_ret1 rfl rfl ?_)))))
          replace H := H.nil
          exact fin ⟨congrArg Value.bool (decide_eq_false (by unfold goodI; omega)).symm, rfl⟩ H
        ·refine s_k 12 rfl (s_k 7 rfl (s_nil (q_then (c_ret (q_ret1 rfl rfl ?_)))))
         replace H := H.nil
         exact fin ⟨congrArg Value.bool (decide_eq_false (by unfold goodI; omega)).symm, rfl⟩ H
       ·refine s_k 12 rfl (s_k 12 rfl (s_nil (q_then (c_ret (q_ret1 rfl rfl ?_)))))
        replace H := H.nil
        exact fin ⟨congrArg Value.bool (decide_eq_false (by unfold goodI; omega)).symm, rfl⟩ H
   ·refine c_reg (s_val rfl rfl (r_eq rfl rfl rfl) (s_1 rfl (s_nil (q_then ?_))))
    refine c_dec rfl (fun h33 => ?_) (fun h33 => ?_)
    ·refine c_reg (s_k 2 rfl (s_nil (q_blockN (q_then (c_seq (c_reg (s_val rfl rfl (r_fa rfl fo223_0 rfl) (s_val rfl rfl (r_ld rfl ty3 rfl (H.cellI 0 rfl rfl)) (s_val rfl rfl (r_ge rfl rfl rfl) (s_1 rfl ?_))))))))))
     refine s_dec (d := 27) rfl (fun h34 => ?_) (fun h34 => ?_)
     ·refine s_val rfl rfl (r_fa rfl fo223_0 rfl) (s_val rfl rfl (r_ld rfl ty3 rfl (H.cellI 0 rfl rfl)) (s_val rfl rfl (r_le rfl rfl rfl) (s_k 2 rfl ?_)))
      refine s_dec (d := 32) rfl (fun h35 => ?_) (fun h35 => ?_)
      ·refine s_val rfl rfl (r_fa rfl fo223_1 rfl) (s_val rfl rfl (r_ld rfl ty3 rfl (H.cellI 0 rfl rfl)) (s_1 rfl (s_val rfl rfl (r_ge rfl rfl rfl) (s_k 2 rfl ?_))))
       refine s_dec (d := 38) rfl (fun h36 => ?_) (fun h36 => ?_)
       ·refine s_val rfl rfl (r_fa rfl fo223_1 rfl) (s_val rfl rfl (r_ld rfl ty3 rfl (H.cellI 0 rfl rfl)) (s_1 rfl (s_val rfl rfl (r_le rfl rfl rfl) (s_k 2 rfl ?_))))
        refine s_dec (d := 44) rfl (fun h37 => ?_) (fun h37 => ?_)
        ·refine s_val rfl rfl (r_fa rfl fo223_2 rfl) (s_val rfl rfl (r_ld rfl ty9 rfl (H.cellI 0 rfl rfl)) (s_val rfl rfl (r_lenS rfl un9 rfl) (s_1 rfl (s_val rfl rfl (r_le rfl rfl rfl) (s_k 2 rfl (s_nil (q_then (c_ret (q_ret1 rfl rfl ?_)))))))))
         replace H := H.nil
         exact fin ⟨congrArg Value.bool (decide_eq_decide.2 (by unfold goodI; omega)), rfl⟩ H
        ·refine s_k 7 rfl (s_nil (q_then (c_ret (q_ret1 rfl rfl ?_))))
         replace H := H.nil
         exact fin ⟨congrArg Value.bool (decide_eq_false (by unfold goodI; omega)).symm, rfl⟩ H
       ·refine s_k 12 rfl (s_1 rfl (s_nil (q_then (c_ret (q_ret1 rfl rfl ?_)))))
        replace H := H.nil
        exact fin ⟨congrArg Value.bool (decide_eq_false (by unfold goodI; omega)).symm, rfl⟩ H
      ·refine s_k 12 rfl (s_k 7 rfl (s_nil (q_then (c_ret (q_ret1 rfl rfl ?_)))))
       replace H := H.nil
       exact fin ⟨congrArg Value.bool (decide_eq_false (by unfold goodI; omega)).symm, rfl⟩ H
     ·refine s_k 12 rfl (s_k 12 rfl (s_nil (q_then (c_ret (q_ret1 rfl rfl ?_)))))
      replace H := H.nil
      exact fin ⟨congrArg Value.bool (decide_eq_false (by unfold goodI; omega)).symm, rfl⟩ H
    ·refine c_seq (c_seq (c_reg (s_val rfl rfl (r_eq rfl rfl rfl) (s_1 rfl (s_nil (q_then ?_))))))
     refine c_dec rfl (fun h38 => ?_) (fun h38 => ?_)
     ·refine c_skip (q_then ?_)
      refine c_dec rfl (fun h39 => ?_) (fun h39 => ?_)
      ·refine c_reg (s_1 rfl (s_nil (q_blockN (q_then (c_seq (c_reg (s_val rfl rfl (r_fa rfl fo223_0 rfl) (s_val rfl rfl (r_ld rfl ty3 rfl (H.cellI 0 rfl rfl)) (s_val rfl rfl (r_ge rfl rfl rfl) (s_1 rfl ?_))))))))))
       refine s_dec (d := 27) rfl (fun h40 => ?_) (fun h40 => ?_)
       ·refine s_val rfl rfl (r_fa rfl fo223_0 rfl) (s_val rfl rfl (r_ld rfl ty3 rfl (H.cellI 0 rfl rfl)) (s_val rfl rfl (r_le rfl rfl rfl) (s_k 2 rfl ?_)))
        refine s_dec (d := 32) rfl (fun h41 => ?_) (fun h41 => ?_)
        ·refine s_val rfl rfl (r_fa rfl fo223_1 rfl) (s_val rfl rfl (r_ld rfl ty3 rfl (H.cellI 0 rfl rfl)) (s_1 rfl (s_val rfl rfl (r_ge rfl rfl rfl) (s_k 2 rfl ?_))))
         refine s_dec (d := 38) rfl (fun h42 => ?_) (fun h42 => ?_)
         ·refine s_val rfl rfl (r_fa rfl fo223_1 rfl) (s_val rfl rfl (r_ld rfl ty3 rfl (H.cellI 0 rfl rfl)) (s_1 rfl (s_val rfl rfl (r_le rfl rfl rfl) (s_k 2 rfl ?_))))
          refine s_dec (d := 44) rfl (fun h43 => ?_) (fun h43 => ?_)
          ·refine s_val rfl rfl (r_fa rfl fo223_2 rfl) (s_val rfl rfl (r_ld rfl ty9 rfl (H.cellI 0 rfl rfl)) (s_val rfl rfl (r_lenS rfl un9 rfl) (s_1 rfl (s_val rfl rfl (r_le rfl rfl rfl) (s_k 2 rfl (s_nil (q_then (c_ret (q_ret1 rfl rfl ?_)))))))))
           replace H := H.nil
           exact fin ⟨congrArg Value.bool (decide_eq_decide.2 (by unfold goodI; omega)), rfl⟩ H
          ·refine s_k 7 rfl (s_nil (q_then (c_ret (q_ret1 rfl rfl ?_))))
           replace H := H.nil
           exact fin ⟨congrArg Value.bool (decide_eq_false (by unfold goodI; omega)).symm, rfl⟩ H
         ·refine s_k 12 rfl (s_1 rfl (s_nil (q_then (c_ret (q_ret1 rfl rfl ?_)))))
          replace H := H.nil
          exact fin ⟨congrArg Value.bool (decide_eq_false (by unfold goodI; omega)).symm, rfl⟩ H
        ·refine s_k 12 rfl (s_k 7 rfl (s_nil (q_then (c_ret (q_ret1 rfl rfl ?_)))))
         replace H := H.nil
         exact fin ⟨congrArg Value.bool (decide_eq_false (by unfold goodI; omega)).symm, rfl⟩ H
       ·refine s_k 12 rfl (s_k 12 rfl (s_nil (q_then (c_ret (q_ret1 rfl rfl ?_)))))
        replace H := H.nil
        exact fin ⟨congrArg Value.bool (decide_eq_false (by unfold goodI; omega)).symm, rfl⟩ H
      ·refine c_skip (q_blockN (q_then (c_seq (c_reg (s_val rfl rfl (r_fa rfl fo223_0 rfl) (s_val rfl rfl (r_ld rfl ty3 rfl (H.cellI 0 rfl rfl)) (s_val rfl rfl (r_ge rfl rfl rfl) (s_1 rfl ?_))))))))
       refine s_dec (d := 27) rfl (fun h44 => ?_) (fun h44 => ?_)
       ·refine s_val rfl rfl (r_fa rfl fo223_0 rfl) (s_val rfl rfl (r_ld rfl ty3 rfl (H.cellI 0 rfl rfl)) (s_val rfl rfl (r_le rfl rfl rfl) (s_k 2 rfl ?_)))
        refine s_dec (d := 32) rfl (fun h45 => ?_) (fun h45 => ?_)
        ·refine s_val rfl rfl (r_fa rfl fo223_1 rfl) (s_val rfl rfl (r_ld rfl ty3 rfl (H.cellI 0 rfl rfl)) (s_1 rfl (s_val rfl rfl (r_ge rfl rfl rfl) (s_k 2 rfl ?_))))
         refine s_dec (d := 38) rfl (fun h46 => ?_) (fun h46 => ?_)
         ·refine s_val rfl rfl (r_fa rfl fo223_1 rfl) (s_val rfl rfl (r_ld rfl ty3 rfl (H.cellI 0 rfl rfl)) (s_1 rfl (s_val rfl rfl (r_le rfl rfl rfl) (s_k 2 rfl ?_))))
          refine s_dec (d := 44) rfl (fun h47 => ?_) (fun h47 => ?_)
          ·refine s_val rfl rfl (r_fa rfl fo223_2 rfl) (s_val rfl rfl (r_ld rfl ty9 rfl (H.cellI 0 rfl rfl)) (s_val rfl rfl (r_lenS rfl un9 rfl) (s_1 rfl (s_val rfl rfl (r_le rfl rfl rfl) (s_k 2 rfl (s_nil (q_then (c_ret (q_ret1 rfl rfl ?_)))))))))
           replace H := H.nil
           exact fin ⟨congrArg Value.bool (decide_eq_decide.2 (by unfold goodI; omega)), rfl⟩ H
          ·refine s_k 7 rfl (s_nil (q_then (c_ret (q_ret1 rfl rfl ?_))))
           replace H := H.nil
           exact fin ⟨congrArg Value.bool (decide_eq_false (by unfold goodI; omega)).symm, rfl⟩ H
         ·refine s_k 12 rfl (s_1 rfl (s_nil (q_then (c_ret (q_ret1 rfl rfl ?_)))))
          replace H := H.nil
          exact fin ⟨congrArg Value.bool (decide_eq_false (by unfold goodI; omega)).symm, rfl⟩ H
        ·refine s_k 12 rfl (s_k 7 rfl (s_nil (q_then (c_ret (q_ret1 rfl rfl ?_)))))
         replace H := H.nil
         exact fin ⟨congrArg Value.bool (decide_eq_false (by unfold goodI; omega)).symm, rfl⟩ H
       ·refine s_k 12 rfl (s_k 12 rfl (s_nil (q_then (c_ret (q_ret1 rfl rfl ?_)))))
        replace H := H.nil
        exact fin ⟨congrArg Value.bool (decide_eq_false (by unfold goodI; omega)).symm, rfl⟩ H
     ·refine c_reg (s_val rfl rfl (r_eq rfl rfl rfl) (s_1 rfl (s_nil (q_then ?_))))
      refine c_dec rfl (fun h48 => ?_) (fun h48 => ?_)
      ·refine c_reg (s_1 rfl (s_nil (q_blockN (q_then (c_seq (c_reg (s_val rfl rfl (r_fa rfl fo223_0 rfl) (s_val rfl rfl (r_ld rfl ty3 rfl (H.cellI 0 rfl rfl)) (s_val rfl rfl (r_ge rfl rfl rfl) (s_1 rfl ?_))))))))))
       refine s_dec (d := 27) rfl (fun h49 => ?_) (fun h49 => ?_)
       ·refine s_val rfl rfl (r_fa rfl fo223_0 rfl) (s_val rfl rfl (r_ld rfl ty3 rfl (H.cellI 0 rfl rfl)) (s_val rfl rfl (r_le rfl rfl rfl) (s_k 2 rfl ?_)))
        refine s_dec (d := 32) rfl (fun h50 => ?_) (fun h50 => ?_)
        ·refine s_val rfl rfl (r_fa rfl fo223_1 rfl) (s_val rfl rfl (r_ld rfl ty3 rfl (H.cellI 0 rfl rfl)) (s_1 rfl (s_val rfl rfl (r_ge rfl rfl rfl) (s_k 2 rfl ?_))))
         refine s_dec (d := 38) rfl (fun h51 => ?_) (fun h51 => ?_)
         ·refine s_val rfl rfl (r_fa rfl fo223_1 rfl) (s_val rfl rfl (r_ld rfl ty3 rfl (H.cellI 0 rfl rfl)) (s_1 rfl (s_val rfl rfl (r_le rfl rfl rfl) (s_k 2 rfl ?_))))
          refine s_dec (d := 44) rfl (fun h52 => ?_) (fun h52 => ?_)
          ·refine s_val rfl rfl (r_fa rfl fo223_2 rfl) (s_val rfl rfl (r_ld rfl ty9 rfl (H.cellI 0 rfl rfl)) (s_val rfl rfl (r_lenS rfl un9 rfl) (s_1 rfl (s_val rfl rfl (r_le rfl rfl rfl) (s_k 2 rfl (s_nil (q_then (c_ret (q_ret1 rfl rfl ?_)))))))))
           replace H := H.nil
           exact fin ⟨congrArg Value.bool (decide_eq_decide.2 (by unfold goodI; omega)), rfl⟩ H
          ·refine s_k 7 rfl (s_nil (q_then (c_ret (q_ret1 rfl rfl ?_))))
           replace H := H.nil
           exact fin ⟨congrArg Value.bool (decide_eq_false (by unfold goodI; omega)).symm, rfl⟩ H
         ·refine s_k 12 rfl (s_1 rfl (s_nil (q_then (c_ret (q_ret1 rfl rfl ?_)))))
          replace H := H.nil
          exact fin ⟨congrArg Value.bool (decide_eq_false (by unfold goodI; omega)).symm, rfl⟩ H
        ·refine s_k 12 rfl (s_k 7 rfl (s_nil (q_then (c_ret (q_ret1 rfl rfl ?_)))))
         replace H := H.nil
         exact fin ⟨congrArg Value.bool (decide_eq_false (by unfold goodI; omega)).symm, rfl⟩ H
       ·refine s_k 12 rfl (s_k 12 rfl (s_nil (q_then (c_ret (q_ret1 rfl rfl ?_)))))
        replace H := H.nil
        exact fin ⟨congrArg Value.bool (decide_eq_false (by unfold goodI; omega)).symm, rfl⟩ H
      ·refine c_skip (q_blockN (q_then (c_seq (c_reg (s_val rfl rfl (r_fa rfl fo223_0 rfl) (s_val rfl rfl (r_ld rfl ty3 rfl (H.cellI 0 rfl rfl)) (s_val rfl rfl (r_ge rfl rfl rfl) (s_1 rfl ?_))))))))
       refine s_dec (d := 27) rfl (fun h53 => ?_) (fun h53 => ?_)
       ·refine s_val rfl rfl (r_fa rfl fo223_0 rfl) (s_val rfl rfl (r_ld rfl ty3 rfl (H.cellI 0 rfl rfl)) (s_val rfl rfl (r_le rfl rfl rfl) (s_k 2 rfl ?_)))
        refine s_dec (d := 32) rfl (fun h54 => ?_) (fun h54 => ?_)
        ·refine s_val rfl rfl (r_fa rfl fo223_1 rfl) (s_val rfl rfl (r_ld rfl ty3 rfl (H.cellI 0 rfl rfl)) (s_1 rfl (s_val rfl rfl (r_ge rfl rfl rfl) (s_k 2 rfl ?_))))
         refine s_dec (d := 38) rfl (fun h55 => ?_) (fun h55 => ?_)
         ·refine s_val rfl rfl (r_fa rfl fo223_1 rfl) (s_val rfl rfl (r_ld rfl ty3 rfl (H.cellI 0 rfl rfl)) (s_1 rfl (s_val rfl rfl (r_le rfl rfl rfl) (s_k 2 rfl ?_))))
          refine s_dec (d := 44) rfl (fun h56 => ?_) (fun h56 => ?_)
          ·refine s_val rfl rfl (r_fa rfl fo223_2 rfl) (s_val rfl rfl (r_ld rfl ty9 rfl (H.cellI 0 rfl rfl)) (s_val rfl rfl (r_lenS rfl un9 rfl) (s_1 rfl (s_val rfl rfl (r_le rfl rfl rfl) (s_k 2 rfl (s_nil (q_then (c_ret (q_ret1 rfl rfl ?_)))))))))
           replace H := H.nil
           exact fin ⟨congrArg Value.bool (decide_eq_decide.2 (by unfold goodI; omega)), rfl⟩ H
          ·refine s_k 7 rfl (s_nil (q_then (c_ret (q_ret1 rfl rfl ?_))))
           replace H := H.nil
           exact fin ⟨congrArg Value.bool (decide_eq_false (by unfold goodI; omega)).symm, rfl⟩ H
         ·refine s_k 12 rfl (s_1 rfl (s_nil (q_then (c_ret (q_ret1 rfl rfl ?_)))))
          replace H := H.nil
          exact fin ⟨congrArg Value.bool (decide_eq_false (by unfold goodI; omega)).symm, rfl⟩ H
        ·refine s_k 12 rfl (s_k 7 rfl (s_nil (q_then (c_ret (q_ret1 rfl rfl ?_)))))
         replace H := H.nil
         exact fin ⟨congrArg Value.bool (decide_eq_false (by unfold goodI; omega)).symm, rfl⟩ H
       ·refine s_k 12 rfl (s_k 12 rfl (s_nil (q_then (c_ret (q_ret1 rfl rfl ?_)))))
        replace H := H.nil
        exact fin ⟨congrArg Value.bool (decide_eq_false (by unfold goodI; omega)).symm, rfl⟩ H
set_option maxHeartbeats 1000000 in
theorem pbad_ok (vxs : Value) (xs : List Ins) :
    Cn Tryz.prog 195 [vxs] [] [rsl kIns vxs xs] (fun v Bs => v = .int .i64 (badI xs) ∧ Bs = []) := by
 intro w0 F0 H
 obtain ⟨A1, c2, rfl, hc3, hm4, hp5⟩ := H.fR 0 rfl
 refine enter Tryz.func195 rfl rfl (Nat.le_of_ble_eq_true rfl) (c_seq (c_reg (s_1 rfl (s_nil (q_then ?_)))))
 replace H : Hd _ _ _ [] [rsl kIns (.slice A1 xs.length c2) xs] := H
 refine c_seq (c_seq (c_reg (s_k 2 rfl (s_val rfl rfl (r_lenL rfl un23 rfl) (s_val rfl rfl (r_min (z := min ((xs.length : Nat) : Int) 40) rfl rfl rfl rfl) (s_val rfl rfl (r_cutP rfl sl23 rfl rfl (by omega) (by omega) rfl) (s_val rfl rfl (r_lenL rfl un23 rfl) (s_1 rfl (s_nil (q_then (c_block (c_loop (σ := Nat) (fun k => [(0, .slice A1 xs.length c2), (9, .slice A1 ((min ((xs.length : Nat) : Int) 40).toNat) c2), (10, .int .i64 (((min ((xs.length : Nat) : Int) 40).toNat : Nat) : Int)), (11, .int .i64 ((k : Nat) : Int))]) (fun k w => (Hd w0 F0 w [] [rsl kIns (.slice A1 xs.length c2) xs]) ∧ (k ≤ xs.length ∧ k ≤ 40) ∧ (∀ y ∈ xs.take k, badT xs.length y = false)) (fun k => xs.length - k) 0 ⟨rfl, rfl, rfl, rfl, trivial⟩ ⟨H, by omega, by simp⟩ ?_))))))))))))
 rintro k w ⟨H, hk, hn⟩
 refine c_seq (c_reg (s_val rfl rfl (r_lt rfl rfl rfl) (s_nil (q_then (c_seq ?_)))))
 refine c_dec rfl (fun h6 => ?_) (fun h6 => ?_)
 ·refine c_skip (q_then (c_seq (c_block (c_seq (c_reg (s_1 rfl ?_))))))
  obtain ⟨x7, hx8⟩ : ∃ z9, xs[k]? = some z9 := ⟨_, List.getElem?_eq_getElem (show k < xs.length by omega)⟩
  have th9 := H.thR 0 rfl hx8
  refine s_val rfl rfl (r_iaE (p := oOf A1 + k * 3) rfl sl23 rfl rfl (by omega) (by omega) th9 rfl) (s_val rfl rfl (r_ldA (cs := [.int .i64 x7.op, .int .i64 x7.a, .string x7.s]) rfl ty223 rfl rfl (H.elsR 0 rfl hx8 rfl)) (s_alloc rfl rfl rfl zr223 H (fun b10 w H => (s_1 rfl (s_st rfl rfl rfl ty223 rfl rfl H rfl (Nat.le_of_ble_eq_true rfl) (fun u hu => by simp [Value.cells] at hu; rcases hu with rfl | rfl | rfl <;> rfl) (fun w H => ?_))))))
  replace H := H.h1 (A := blk b10 [.int .i64 x7.op, .int .i64 x7.a, .string x7.s] 223)
  refine s_nil (q_then (c_seq (c_reg (s_val rfl rfl (r_ldA (cs := [.int .i64 x7.op, .int .i64 x7.a, .string x7.s]) rfl ty223 rfl rfl (H.cellsI 0 rfl rfl)) (s_1 rfl (s_val rfl rfl (r_lenL rfl un23 rfl) (sc (pmay_ok x7 ((xs.length : Nat) : Int)) H l0 rfl rfl (e_fn kn224 rfl rfl) ?_)))))))
  rintro _ _ w ⟨rfl, rfl⟩ H
  refine s_val rfl rfl (r_notP rfl rfl) (s_nil (q_then ?_))
  refine c_dec rfl (fun h11 => ?_) (fun h11 => ?_)
  ·refine c_seq (c_reg (s_k 2 rfl (s_nil (q_then (c_ret (q_blockR (q_thenR (q_thenR (q_blockR (q_thenR (q_ret1 rfl rfl ?_)))))))))))
   replace H := H.nil
   exact fin ⟨by rw [badI_hit (by omega) hn hx8 (by simpa using h11)] <;> rfl, rfl⟩ H
  ·refine c_skip (q_blockN (q_then (c_reg (s_val rfl rfl (r_add (z := ((k + 1 : Nat) : Int)) rfl rfl rfl (by rw [w64 (by omega) (by omega)]; omega)) (s_1 rfl (s_nil ?_))))))
   replace H := H.nil
   exact q_round (s := k) (k + 1) ⟨rfl, rfl, rfl, rfl, trivial⟩ ⟨H, by omega, badT_good hn hx8 (by simpa using h11)⟩ (by (try dsimp only); omega)
 ·refine c_exit (q_thenE (q_thenE (q_blockE (q_then (c_seq (c_seq (c_reg (s_1 rfl (s_val rfl rfl (r_lenL rfl un23 rfl) (s_val rfl rfl (r_gt rfl rfl rfl) (s_nil (q_then ?_))))))))))))
  refine c_dec rfl (fun h12 => ?_) (fun h12 => ?_)
  ·exact c_seq (c_reg (s_1 rfl (s_nil (q_then (c_ret (q_thenR (q_ret1 rfl rfl (fin ⟨by rw [badI_none (k := k) (by omega) hn, if_pos (by omega)] <;> rfl, rfl⟩ H))))))))
  ·exact c_skip (q_then (c_seq (c_reg (s_1 rfl (s_nil (q_then (c_ret (q_ret1 rfl rfl (fin ⟨by rw [badI_none (k := k) (by omega) hn, if_neg (by omega)] <;> rfl, rfl⟩ H)))))))))
set_option maxHeartbeats 1000000 in
theorem pMay_ok (vxs : Value) (xs : List Ins) :
    Cn Tryz.prog 154 [vxs] [] [rsl kIns vxs xs] (fun v Bs => v = .bool (decide (badI xs < 0)) ∧ Bs = []) := by
 intro w0 F0 H
 obtain ⟨A1, c2, rfl, hc3, hm4, hp5⟩ := H.fR 0 rfl
 refine enter Tryz.func154 rfl rfl (Nat.le_of_ble_eq_true rfl) (c_seq (c_reg (s_1 rfl (s_nil (q_then ?_)))))
 replace H : Hd _ _ _ [] [rsl kIns (.slice A1 xs.length c2) xs] := H
 refine c_seq (c_reg (s_1 rfl (sc (pbad_ok (.slice A1 xs.length c2) xs) H (lR 0 rfl l0) rfl rfl (e_fn kn195 rfl rfl) ?_)))
 rintro _ _ w ⟨rfl, rfl⟩ H
 exact s_val rfl rfl (r_lt rfl rfl rfl) (s_1 rfl (s_nil (q_then (c_ret (q_ret1 rfl rfl (fin ⟨rfl, rfl⟩ H))))))

set_option maxHeartbeats 4000000 in
theorem play_ok (vp : Value) (p : List Ins) (key : ByteArray) (vv : Value) (vals : List ByteArray) (fuel : Int) (hpa : ∀ i ∈ p, In64 i.a) (hfu : In64 fuel) :
    Cn Tryz.prog 207 [vp, .string key, vv, .int .i64 fuel] [] [rsl kIns vp p, rsl kStr vv vals, gl] (fun v Bs => ((¬ badI p < 0 ∨ fuel < 0) ∧ v = .tuple #[.pointer none, .int .i64 2] ∧ Bs = []) ∨ (¬ (¬ badI p < 0 ∨ fuel < 0) ∧ ∃ r mb sv tv vv2 k, v = .tuple #[.pointer (some ⟨r, 0, none⟩), .int .i64 (playM dg p key (min fuel 2000).toNat (vm0 vals)).2] ∧ Bs = [blk r (runC vp key vv2 (min fuel 2000) (playM dg p key (min fuel 2000).toNat (vm0 vals)).1.pos k (playM dg p key (min fuel 2000).toNat (vm0 vals)).1.halted sv (playM dg p key (min fuel 2000).toNat (vm0 vals)).1.g tv (.map (some mb))) 288, osl kVal sv (playM dg p key (min fuel 2000).toNat (vm0 vals)).1.stk, osl kPair tv (playM dg p key (min fuel 2000).toNat (vm0 vals)).1.told, digsP mb])) := by
 intro w0 F0 H
 unfold In64 at hfu
 have hnum := num_in
 obtain ⟨A1, c2, rfl, hc3, hm4, hp5⟩ := H.fR 0 rfl
 obtain ⟨A6, c7, rfl, hc8, hm9, hp10⟩ := H.fR 1 rfl
 refine enter Tryz.func207 rfl rfl (Nat.le_of_ble_eq_true rfl) (c_seq (c_reg (s_k 2 rfl (s_nil (q_then ?_)))))
 replace H : Hd _ _ _ [] [rsl kIns (.slice A1 p.length c2) p, rsl kStr (.slice A6 vals.length c7) vals, gl] := H
 refine c_seq (c_seq (c_reg (s_1 rfl (sc (pMay_ok (.slice A1 p.length c2) p) H (lR 0 rfl l0) rfl rfl (e_fn kn154 rfl rfl) ?_))))
 rintro _ _ w ⟨rfl, rfl⟩ H
 refine s_val rfl rfl (r_notP rfl rfl) (s_1 rfl ?_)
 refine s_dec (d := 16) rfl (fun h11 => ?_) (fun h11 => ?_)
 ·refine s_k 3 rfl (s_nil (q_then (c_yes rfl (c_seq (c_reg (s_k 2 rfl (s_nil (q_then (c_ret (q_thenR (q_ret2 rfl rfl rfl ?_)))))))))))
  replace H : Hd _ _ _ [] [rsl kIns (.slice A1 p.length c2) p, rsl kStr (.slice A6 vals.length c7) vals, gl] := H
  exact fin (.inl ⟨.inl h11, rfl, rfl⟩) H
 ·refine s_1 rfl (s_val rfl rfl (r_lt rfl rfl rfl) (s_1 rfl (s_nil (q_then ?_))))
  refine c_dec rfl (fun h12 => ?_) (fun h12 => ?_)
  ·refine c_seq (c_reg (s_k 2 rfl (s_nil (q_then (c_ret (q_thenR (q_ret2 rfl rfl rfl ?_)))))))
   replace H : Hd _ _ _ [] [rsl kIns (.slice A1 p.length c2) p, rsl kStr (.slice A6 vals.length c7) vals, gl] := H
   exact fin (.inl ⟨.inr h12, rfl, rfl⟩) H
  ·refine c_skip (q_then (c_seq ?_))
   have hbad := h11
   have hgood := may_all (Classical.not_not.1 hbad)
   refine c_reg (s_k 4 rfl (s_val rfl rfl (r_min (z := min fuel 2000) rfl rfl rfl rfl) (s_mkmap rfl rfl rfl H (fun b13 w H => (s_val rfl rfl (r_bd (parts := [(0, .tmp 20), (1, .tmp 21), (2, .tmp 22), (3, .tmp 24), (10, .tmp 25)]) (vs := [.slice A1 p.length c2, .string key, .slice A6 vals.length c7, .int .i64 (min fuel 2000), .map (some b13)]) (cs := [.slice A1 p.length c2, .string key, .slice A6 vals.length c7, .int .i64 (min fuel 2000), .int .i64 0, .int .i64 0, .bool false, .slice none 0 0, .bool false, .int .i64 0, .string ⟨#[]⟩, .bool false, .int .i64 0, .string ⟨#[]⟩, .bool false, .int .i64 0, .string ⟨#[]⟩, .bool false, .int .i64 0, .string ⟨#[]⟩, .bool false, .int .i64 0, .string ⟨#[]⟩, .bool false, .int .i64 0, .string ⟨#[]⟩, .bool false, .int .i64 0, .string ⟨#[]⟩, .bool false, .int .i64 0, .string ⟨#[]⟩, .slice none 0 0, .map (some b13)]) rfl bd288 rfl rfl) (s_box rfl rfl rfl rfl H (fun b14 w H => ?_)))))))
   refine s_1 rfl (s_nil (q_then ?_))
   replace H : Hd _ _ _ [blk b14 [.slice A1 p.length c2, .string key, .slice A6 vals.length c7, .int .i64 (min fuel 2000), .int .i64 0, .int .i64 0, .bool false, .slice none 0 0, .bool false, .int .i64 0, .string ⟨#[]⟩, .bool false, .int .i64 0, .string ⟨#[]⟩, .bool false, .int .i64 0, .string ⟨#[]⟩, .bool false, .int .i64 0, .string ⟨#[]⟩, .bool false, .int .i64 0, .string ⟨#[]⟩, .bool false, .int .i64 0, .string ⟨#[]⟩, .bool false, .int .i64 0, .string ⟨#[]⟩, .bool false, .int .i64 0, .string ⟨#[]⟩, .slice none 0 0, .map (some b13)] 288, mapI b13 []] [rsl kIns (.slice A1 p.length c2) p, rsl kStr (.slice A6 vals.length c7) vals, gl] := H
   refine c_seq (c_block ?_)
   replace H := digs_new (t := 234) H
   replace H := (H.newnil kPair).newnil kVal
   replace H : Hd w0 F0 w [blk b14 (runC (.slice A1 p.length c2) key (.slice A6 vals.length c7) (min fuel 2000) 0 0 false (.slice none 0 0) (fun _ => val0) (.slice none 0 0) (.map (some b13))) 288, osl kVal (.slice none 0 0) [], osl kPair (.slice none 0 0) [], digsP b13] [rsl kIns (.slice A1 p.length c2) p, rsl kStr (.slice A6 vals.length c7) vals, gl] := start_order H
   replace H := H.dupR 1 rfl
   refine c_loop (σ := Nat × VM × Value × Value × Value) (fun (k, m, sv, tv, vv2) => [(0, .slice A1 p.length c2), (10, .pointer (some ⟨b14, 0, none⟩))]) (fun (k, m, sv, tv, vv2) w => (Hd w0 F0 w [blk b14 (runC (.slice A1 p.length c2) key vv2 (min fuel 2000) m.pos ((k : Nat) : Int) m.halted sv m.g tv (.map (some b13))) 288, osl kVal sv m.stk, osl kPair tv m.told, digsP b13] [rsl kStr vv2 m.vals, rsl kIns (.slice A1 p.length c2) p, rsl kStr (.slice A6 vals.length c7) vals, gl]) ∧ ((k : Int) ≤ min fuel 2000) ∧ (Inv p.length m) ∧ (playM dg p key ((min fuel 2000).toNat - k) m = playM dg p key (min fuel 2000).toNat (vm0 vals))) (fun (k, m, sv, tv, vv2) => (min fuel 2000).toNat - k) (0, vm0 vals, .slice none 0 0, .slice none 0 0, .slice A6 vals.length c7) ⟨rfl, rfl, trivial⟩ ⟨H, by (try dsimp only); omega, inv0 _ _, rfl⟩ ?_
   rintro ⟨k, m, sv, tv, vv2⟩ w ⟨H, hk, hinv, hpl⟩
   have hps := hinv.pos
   refine c_seq (c_seq (c_reg (s_1 rfl (s_val rfl rfl (r_nilP rfl rfl) (s_val rfl rfl (r_fa rfl fo288_4 rfl) (s_val rfl rfl (r_ld rfl ty3 rfl (H.cellI 0 rfl rfl)) (s_1 rfl (s_val rfl rfl (r_lenL rfl un23 rfl) (s_val rfl rfl (r_lt rfl rfl rfl) (s_1 rfl ?_))))))))))
   refine s_dec (d := 35) rfl (fun h15 => ?_) (fun h15 => ?_)
   ·refine s_1 rfl (s_val rfl rfl (r_nilP rfl rfl) (s_val rfl rfl (r_fa rfl fo288_6 rfl) (s_val rfl rfl (r_ld rfl ty4 rfl (H.cellI 0 rfl rfl)) (s_val rfl rfl (r_not rfl rfl rfl) (s_1 rfl (s_nil (q_then ?_)))))))
    refine c_cond (b := !m.halted) rfl (fun h16 => ?_) (fun h16 => ?_)
    ·refine c_skip (q_then (c_block (c_seq (c_seq ?_))))
     have hrun : m.pos < (p.length : Int) ∧ m.halted = false := ⟨h15, by simpa using h16⟩
     refine c_draw mo (by kernel_rfl) H (u_1 rfl (u_val rfl rfl (fun w H => r_nilP rfl rfl) (u_val rfl rfl (fun w H => r_fa rfl fo288_5 rfl) (u_val rfl rfl (fun w H => r_ld rfl ty3 rfl (H.cellI 0 rfl rfl)) (u_1 rfl (u_val rfl rfl (fun w H => r_nilP rfl rfl) (u_val rfl rfl (fun w H => r_fa rfl fo288_3 rfl) (u_val rfl rfl (fun w H => r_ld rfl ty3 rfl (H.cellI 0 rfl rfl)) (u_val rfl rfl (fun w H => r_ge rfl rfl rfl) (u_end (fun w H => (q_then ?_))))))))))))
     refine c_dec rfl (fun h17 => ?_) (fun h17 => ?_)
     ·refine c_seq (c_reg (s_k 3 rfl (s_nil (q_then (c_ret (q_thenR (q_blockR (q_thenR (q_blockR (q_thenR (q_ret2 rfl rfl rfl ?_)))))))))))
      have e : playM dg p key (min fuel 2000).toNat (vm0 vals) = (m, 3) := by rw [← hpl, show (min fuel 2000).toNat - k = 0 by omega]; exact play_dry hrun
      replace H := H.dropR
      replace H : Hd _ _ _ [blk b14 (runC (.slice A1 p.length c2) key vv2 (min fuel 2000) m.pos ((k : Nat) : Int) m.halted sv m.g tv (.map (some b13))) 288, osl kVal sv m.stk, osl kPair tv m.told, digsP b13] [rsl kIns (.slice A1 p.length c2) p, rsl kStr (.slice A6 vals.length c7) vals, gl] := H
      exact fin (.inr ⟨fun h => h.elim hbad (fun h => absurd h (by omega)), b14, b13, sv, tv, vv2, ((k : Nat) : Int), by rw [e] <;> rfl, by rw [e] <;> rfl⟩) H
     ·refine c_skip (q_then (c_seq (c_reg (s_1 rfl (s_val rfl rfl (r_nilP rfl rfl) (s_val rfl rfl (r_fa rfl fo288_5 rfl) (s_val rfl rfl (r_ld rfl ty3 rfl (H.cellI 0 rfl rfl)) (s_val rfl rfl (r_add (z := ((k + 1 : Nat) : Int)) rfl rfl rfl (by rw [w64 (by omega) (by omega)]; omega)) (s_val rfl rfl (r_nilP rfl rfl) (s_val rfl rfl (r_fa rfl fo288_5 rfl) (s_st rfl rfl rfl ty3 rfl rfl H rfl (Nat.le_of_ble_eq_true rfl) (fun u hu => by simp [Value.cells] at hu; subst hu; rfl) (fun w H => ?_))))))))))))
      replace H : Hd _ _ _ [blk b14 (runC (.slice A1 p.length c2) key vv2 (min fuel 2000) m.pos ((k + 1 : Nat) : Int) m.halted sv m.g tv (.map (some b13))) 288, osl kVal sv m.stk, osl kPair tv m.told, digsP b13] [rsl kStr vv2 m.vals, rsl kIns (.slice A1 p.length c2) p, rsl kStr (.slice A6 vals.length c7) vals, gl] := H
      refine s_nil (q_then (c_seq (c_reg (s_k 2 rfl (s_val rfl rfl (r_nilP rfl rfl) (s_val rfl rfl (r_fa rfl fo288_4 rfl) (s_val rfl rfl (r_ld rfl ty3 rfl (H.cellI 0 rfl rfl)) ?_)))))))
      obtain ⟨x18, hx19⟩ : ∃ z9, p[(m.pos).toNat]? = some z9 := ⟨_, List.getElem?_eq_getElem (show (m.pos).toNat < p.length by omega)⟩
      have th20 := H.thR 1 rfl hx19
      refine s_val rfl rfl (r_iaE (p := oOf A1 + ((m.pos).toNat) * 3) rfl sl23 rfl rfl (by omega) (by omega) th20 (by omega)) (s_val rfl rfl (r_ldA (cs := [.int .i64 x18.op, .int .i64 x18.a, .string x18.s]) rfl ty223 rfl rfl (H.elsR 1 rfl hx19 rfl)) (s_alloc rfl rfl rfl zr223 H (fun b21 w H => (s_st rfl rfl rfl ty223 rfl rfl H rfl (Nat.le_of_ble_eq_true rfl) (fun u hu => by simp [Value.cells] at hu; rcases hu with rfl | rfl | rfl <;> rfl) (fun w H => ?_)))))
      replace H := H.h1 (A := blk b21 [.int .i64 x18.op, .int .i64 x18.a, .string x18.s] 223)
      refine s_nil (q_then (c_seq (c_reg (s_1 rfl (s_val rfl rfl (r_nilP rfl rfl) (s_val rfl rfl (r_fa rfl fo288_4 rfl) (s_val rfl rfl (r_ld rfl ty3 rfl (H.cellI 1 rfl rfl)) (s_val rfl rfl (r_add (z := m.pos + 1) rfl rfl rfl (w64 (by omega) (by omega))) (s_val rfl rfl (r_nilP rfl rfl) (s_val rfl rfl (r_fa rfl fo288_4 rfl) ?_))))))))))
      replace H := H.p1
      refine s_st rfl rfl rfl ty3 rfl rfl H rfl (Nat.le_of_ble_eq_true rfl) (fun u hu => by simp [Value.cells] at hu; subst hu; rfl) (fun w H => ?_)
      replace H := H.h1 (A := blk b14 (runC (.slice A1 p.length c2) key vv2 (min fuel 2000) (m.pos + 1) ((k + 1 : Nat) : Int) m.halted sv m.g tv (.map (some b13))) 288)
      refine s_nil (q_then (c_seq (c_reg (s_1 rfl (s_val rfl rfl (r_ldA (cs := [.int .i64 x18.op, .int .i64 x18.a, .string x18.s]) rfl ty223 rfl rfl (H.cellsI 1 rfl rfl)) ?_)))))
      replace H := H.p4.p4.p4.p3
      refine sc (does_ok b14 (.slice A1 p.length c2) key vv2 (min fuel 2000) (m.pos + 1) ((k + 1 : Nat) : Int) m.halted sv m.g tv b13 m.stk m.told m.vals x18 p.length hinv.len hinv.told hinv.ok (hgood _ (at_mem hx19))) H (lR 0 rfl (lR 3 rfl l0)) rfl rfl (e_fn kn243 rfl rfl) ?_
      rintro _ _ w ⟨s22, t23, vv24, rfl, hsuf25, rfl⟩ H
      replace H := H.h3 (A := blk b14 (runC (.slice A1 p.length c2) key vv24 (min fuel 2000) ((doesM dg key {m with pos := m.pos + 1} x18).1.pos) ((k + 1 : Nat) : Int) ((doesM dg key {m with pos := m.pos + 1} x18).1.halted) s22 ((doesM dg key {m with pos := m.pos + 1} x18).1.g) t23 (.map (some b13))) 288) (B := osl kVal s22 ((doesM dg key {m with pos := m.pos + 1} x18).1.stk)) (C := osl kPair t23 ((doesM dg key {m with pos := m.pos + 1} x18).1.told))
      refine s_1 rfl (s_nil (q_then (c_seq (c_reg (s_1 rfl (s_val rfl rfl (r_ne rfl rfl rfl) (s_nil (q_then ?_))))))))
      refine c_dec rfl (fun h26 => ?_) (fun h26 => ?_)
      ·refine c_seq (c_reg (s_k 4 rfl (s_nil (q_then (c_ret (q_blockR (q_thenR (q_blockR (q_thenR (q_ret2 rfl rfl rfl ?_))))))))))
       replace H := H.k4
       have e : playM dg p key (min fuel 2000).toNat (vm0 vals) = doesM dg key {m with pos := m.pos + 1} x18 := by rw [← hpl, show (min fuel 2000).toNat - k = ((min fuel 2000).toNat - (k + 1)) + 1 by omega]; exact play_fail hrun hx19 h26
       replace H := H.dropR
       replace H : Hd _ _ _ [blk b14 (runC (.slice A1 p.length c2) key vv24 (min fuel 2000) ((doesM dg key {m with pos := m.pos + 1} x18).1.pos) ((k + 1 : Nat) : Int) ((doesM dg key {m with pos := m.pos + 1} x18).1.halted) s22 ((doesM dg key {m with pos := m.pos + 1} x18).1.g) t23 (.map (some b13))) 288, osl kVal s22 ((doesM dg key {m with pos := m.pos + 1} x18).1.stk), osl kPair t23 ((doesM dg key {m with pos := m.pos + 1} x18).1.told), digsP b13] [rsl kIns (.slice A1 p.length c2) p, rsl kStr (.slice A6 vals.length c7) vals, gl] := H
       exact fin (.inr ⟨fun h => h.elim hbad (fun h => absurd h (by omega)), b14, b13, s22, t23, vv24, ((k + 1 : Nat) : Int), by rw [e] <;> rfl, by rw [e] <;> rfl⟩) H
      ·refine c_skip (q_blockN ?_)
       replace H := H.k4.addR (fun G h => hsuf25 _ _ (h _ (List.mem_of_getElem? (i := 0) rfl)))
       replace H : Hd w0 F0 w [blk b14 (runC (.slice A1 p.length c2) key vv24 (min fuel 2000) ((doesM dg key {m with pos := m.pos + 1} x18).1.pos) ((k + 1 : Nat) : Int) ((doesM dg key {m with pos := m.pos + 1} x18).1.halted) s22 ((doesM dg key {m with pos := m.pos + 1} x18).1.g) t23 (.map (some b13))) 288, osl kVal s22 ((doesM dg key {m with pos := m.pos + 1} x18).1.stk), osl kPair t23 ((doesM dg key {m with pos := m.pos + 1} x18).1.told), digsP b13] [rsl kStr vv24 ((doesM dg key {m with pos := m.pos + 1} x18).1.vals), rsl kIns (.slice A1 p.length c2) p, rsl kStr (.slice A6 vals.length c7) vals, gl] := H.pickR [0, 2, 3, 4]
       have hj : (min fuel 2000).toNat - k = ((min fuel 2000).toNat - (k + 1)) + 1 := by omega
       have hpl2 : playM dg p key ((min fuel 2000).toNat - (k + 1)) (doesM dg key {m with pos := m.pos + 1} x18).1 = playM dg p key (min fuel 2000).toNat (vm0 vals) := by rw [← hpl, hj]; exact (play_go (m := m) hrun hx19 h26).symm
       have hinv2 : Inv p.length (doesM dg key {m with pos := m.pos + 1} x18).1 := inv_does hnum (inv_next hinv hrun.1) (hgood _ (at_mem hx19)) (hpa _ (at_mem hx19)) (Classical.not_not.1 h26)
       exact q_round (s := (k, m, undef, undef, undef)) (k + 1, (doesM dg key {m with pos := m.pos + 1} x18).1, s22, t23, vv24) ⟨rfl, rfl, trivial⟩ ⟨H, by (try dsimp only); omega, hinv2, hpl2⟩ (by (try dsimp only); omega)
    ·refine c_exit (q_thenE (q_thenE (q_blockE (q_then (c_seq (c_reg (s_k 3 rfl (s_nil (q_then (c_ret (q_ret2 rfl rfl rfl ?_)))))))))))
     have e : playM dg p key (min fuel 2000).toNat (vm0 vals) = (m, 0) := by rw [← hpl]; exact play_stop _ (fun h => by have h2 := h.2; rw [h2] at h16; simp at h16)
     replace H := H.dropR
     replace H : Hd _ _ _ [blk b14 (runC (.slice A1 p.length c2) key vv2 (min fuel 2000) m.pos ((k : Nat) : Int) m.halted sv m.g tv (.map (some b13))) 288, osl kVal sv m.stk, osl kPair tv m.told, digsP b13] [rsl kIns (.slice A1 p.length c2) p, rsl kStr (.slice A6 vals.length c7) vals, gl] := H
     exact fin (.inr ⟨fun h => h.elim hbad (fun h => absurd h (by omega)), b14, b13, sv, tv, vv2, ((k : Nat) : Int), by rw [e] <;> rfl, by rw [e] <;> rfl⟩) H
   ·refine s_k 6 rfl (s_nil (q_then (c_no rfl (c_exit (q_thenE (q_thenE (q_blockE (q_then (c_seq (c_reg (s_k 3 rfl (s_nil (q_then (c_ret (q_ret2 rfl rfl rfl ?_)))))))))))))))
    have e : playM dg p key (min fuel 2000).toNat (vm0 vals) = (m, 0) := by rw [← hpl]; exact play_stop _ (fun h => absurd h.1 h15)
    replace H := H.dropR
    replace H : Hd _ _ _ [blk b14 (runC (.slice A1 p.length c2) key vv2 (min fuel 2000) m.pos ((k : Nat) : Int) m.halted sv m.g tv (.map (some b13))) 288, osl kVal sv m.stk, osl kPair tv m.told, digsP b13] [rsl kIns (.slice A1 p.length c2) p, rsl kStr (.slice A6 vals.length c7) vals, gl] := H
    exact fin (.inr ⟨fun h => h.elim hbad (fun h => absurd h (by omega)), b14, b13, sv, tv, vv2, ((k : Nat) : Int), by rw [e] <;> rfl, by rw [e] <;> rfl⟩) H

set_option maxHeartbeats 1000000 in
theorem vmRun_ok (vp : Value) (p : List Ins) (key : ByteArray) (vv : Value) (vals : List ByteArray) (fuel : Int) (hpa : ∀ i ∈ p, In64 i.a) (hfu : In64 fuel) :
    Cn Tryz.prog 175 [vp, .string key, vv, .int .i64 fuel] [] [rsl kIns vp p, rsl kStr vv vals, gl] (fun v Bs => ∃ u, v = .tuple #[u, .int .i64 (runM dg p key vals fuel).2] ∧ Bs = [osl kPair u (runM dg p key vals fuel).1]) := by
 intro w0 F0 H
 refine enter Tryz.func175 rfl rfl (Nat.le_of_ble_eq_true rfl) (c_seq (c_reg (s_k 2 rfl (s_nil (q_then (c_seq ?_))))))
 by_cases hb : ¬ badI p < 0 ∨ fuel < 0
 ·refine c_reg (s_k 4 rfl (sc (play_ok vp p key vv vals fuel hpa hfu) H (lR 0 rfl (lR 1 rfl (lR 2 rfl l0))) rfl rfl (e_fn kn207 rfl rfl) ?_))
  rintro _ _ w ht H
  obtain ⟨_, rfl, rfl⟩ := ht.resolve_right (fun h => h.1 hb)
  refine s_k 5 rfl (s_nil (q_then ?_))
  replace H : Hd _ _ _ [] [rsl kIns vp p, rsl kStr vv vals, gl] := H
  refine c_seq (c_seq (c_reg (s_1 rfl (s_val rfl rfl (r_ne rfl rfl rfl) (s_nil (q_then (c_yes rfl (c_seq (c_reg (s_k 3 rfl (s_nil (q_then (c_ret (q_thenR (q_ret2 rfl rfl rfl ?_)))))))))))))))
  have e : runM dg p key vals fuel = ([], 2) := if_pos hb
  replace H := H.newnil kPair
  exact fin ⟨_, by rw [e] <;> rfl, by rw [e] <;> rfl⟩ H
 ·refine c_reg (s_k 4 rfl (sc (play_ok vp p key vv vals fuel hpa hfu) H (lR 0 rfl (lR 1 rfl (lR 2 rfl l0))) rfl rfl (e_fn kn207 rfl rfl) ?_))
  rintro _ _ w ht H
  obtain ⟨_, r, mb, sv, tv, vv2, k, rfl, rfl⟩ := ht.resolve_left (fun h => hb h.1)
  refine s_k 5 rfl (s_nil (q_then ?_))
  replace H : Hd _ _ _ [blk r (runC vp key vv2 (min fuel 2000) ((playM dg p key (min fuel 2000).toNat (vm0 vals)).1.pos) k ((playM dg p key (min fuel 2000).toNat (vm0 vals)).1.halted) sv ((playM dg p key (min fuel 2000).toNat (vm0 vals)).1.g) tv (.map (some mb))) 288, osl kVal sv ((playM dg p key (min fuel 2000).toNat (vm0 vals)).1.stk), osl kPair tv ((playM dg p key (min fuel 2000).toNat (vm0 vals)).1.told), digsP mb] [rsl kIns vp p, rsl kStr vv vals, gl] := H
  refine c_seq (c_seq (c_reg (s_1 rfl (s_val rfl rfl (r_ne rfl rfl rfl) (s_nil (q_then ?_))))))
  refine c_dec rfl (fun h1 => ?_) (fun h1 => ?_)
  ·refine c_seq (c_reg (s_k 3 rfl (s_nil (q_then (c_ret (q_thenR (q_ret2 rfl rfl rfl ?_)))))))
   have e : runM dg p key vals fuel = ([], (playM dg p key (min fuel 2000).toNat (vm0 vals)).2) := by unfold runM; rw [if_neg hb, if_pos h1]
   replace H := H.nil |>.newnil kPair
   exact fin ⟨_, by rw [e] <;> rfl, by rw [e] <;> rfl⟩ H
  ·refine c_skip (q_then (c_seq (c_reg (s_1 rfl (s_val rfl rfl (r_nilP rfl rfl) (s_val rfl rfl (r_fa rfl fo288_9 rfl) (s_val rfl rfl (r_ld rfl ty35 rfl (H.cellI 0 rfl rfl)) (s_k 2 rfl (s_nil (q_then (c_ret (q_ret2 rfl rfl rfl ?_))))))))))))
   have e : runM dg p key vals fuel = ((playM dg p key (min fuel 2000).toNat (vm0 vals)).1.told, 0) := by unfold runM; rw [if_neg hb, if_neg h1]
   replace H := H.p2.k1
   exact fin ⟨_, by rw [e] <;> rfl, by rw [e] <;> rfl⟩ H

end Go.Proofs.YthgehekecfpikaaGreatDoor.X
