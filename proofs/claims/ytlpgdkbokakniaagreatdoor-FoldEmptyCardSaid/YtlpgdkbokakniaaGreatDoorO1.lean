/- What is done once: its parts. -/
import Derived.Test.YtlpgdkbokakniaaGreatDoorV4
set_option linter.unusedVariables false
set_option linter.unusedSimpArgs false
namespace Go.Proofs.YtlpgdkbokakniaaGreatDoor.X
open Go
set_option maxHeartbeats 1000000 in
theorem b32_ok (b : Bool) :
    Cn Tryz.prog 152 [.bool b] [] [] (fun v Bs => v = .int .u32 (if b = true then 1 else 0) ∧ Bs = []) := by
  intro w0 F0 H
  refine enter (args := [.bool b]) Tryz.func152 rfl rfl (Nat.le_of_ble_eq_true rfl) ?_
  refine c_seq ?_
  refine c_reg ?_
  refine s_val rfl rfl (r_as rfl rfl) ?_
  refine s_nil ?_
  refine q_then ?_
  refine c_env [(0, .bool b), (2, .int .u32 0)] ⟨rfl, rfl, trivial⟩ ?_
  refine c_seq ?_
  refine c_seq ?_
  refine c_reg ?_
  refine s_val rfl rfl (r_mv rfl rfl) ?_
  refine s_nil ?_
  refine q_then ?_
  refine c_env [(2, .int .u32 0), (3, .bool b)] ⟨rfl, rfl, trivial⟩ ?_
  refine c_cond (b := b) rfl (fun h1 => ?_) (fun h1 => ?_)
  · skip
    refine c_seq ?_
    refine c_reg ?_
    refine s_val rfl rfl (r_as rfl rfl) ?_
    refine s_nil ?_
    refine q_then ?_
    refine c_env [(2, .int .u32 1)] ⟨rfl, trivial⟩ ?_
    refine c_ret ?_
    refine q_thenR ?_
    refine q_ret1 rfl rfl ?_
    exact fin ⟨by simp [h1], rfl⟩ H
  · skip
    refine c_skip ?_
    refine q_then ?_
    refine c_env [(2, .int .u32 0)] ⟨rfl, trivial⟩ ?_
    refine c_seq ?_
    refine c_reg ?_
    refine s_val rfl rfl (r_as rfl rfl) ?_
    refine s_nil ?_
    refine q_then ?_
    refine c_env [(2, .int .u32 0)] ⟨rfl, trivial⟩ ?_
    refine c_ret ?_
    refine q_ret1 rfl rfl ?_
    exact fin ⟨by simp [h1], rfl⟩ H

set_option maxHeartbeats 1000000 in
theorem storeMade_ok (c : Nat) (d m : Int) (sm : Value) (md : Int) (fv : Value) (tx : ByteArray) :
    Cn Tryz.prog 137 [.pointer (some ⟨c, 3, none⟩), .bool true] [blk c [.int .u32 d, .int .i32 m, sm, .int .u32 md, fv, .string tx] 185] [] (fun v Bs => v = .tuple #[] ∧ Bs = [blk c [.int .u32 d, .int .i32 m, sm, .int .u32 1, fv, .string tx] 185]) := by
  intro w0 F0 H
  refine enter (args := [.pointer (some ⟨c, 3, none⟩), .bool true]) Tryz.func137 rfl rfl (Nat.le_of_ble_eq_true rfl) ?_
  refine c_ord (.e 0 (.e 1 (.e 2 (.e 3 (.m 4 (.m 5 .z)))))) (fun w => ∃ Ar, Hd w0 F0 w (Ar) []) mo (by kernel_rfl) (fun w H => ⟨_, H⟩) H (fun w H => ?_)
  refine d_val rfl rfl rfl (fun w ⟨Ar, H⟩ => r_mv rfl rfl) ?_
  refine d_val rfl rfl rfl (fun w ⟨Ar, H⟩ => r_nilP rfl rfl) ?_
  refine d_val rfl rfl rfl (fun w ⟨Ar, H⟩ => r_fa rfl fo177_1 rfl) ?_
  refine d_val rfl rfl rfl (fun w ⟨Ar, H⟩ => r_mv rfl rfl) ?_
  refine d_main rfl ?_
  refine sc (b32_ok true) H l0 rfl rfl (e_fn kn152 rfl rfl) ?_
  rintro _ _ w ⟨rfl, rfl⟩ H
  refine d_back ⟨_, H⟩ ?_
  refine d_main rfl ?_
  refine s_astore ex151 rfl rfl rfl rfl H rfl (fun w H => ?_)
  replace H : Hd _ _ _ [blk c [.int .u32 d, .int .i32 m, sm, .int .u32 1, fv, .string tx] 185] [] := H
  refine d_back ⟨_, H⟩ ?_
  refine d_nil ?_
  refine q_end rfl ?_
  replace H : Hd _ _ _ [blk c [.int .u32 d, .int .i32 m, sm, .int .u32 1, fv, .string tx] 185] [] := H
  exact fin ⟨rfl, rfl⟩ H

set_option maxHeartbeats 1000000 in
theorem storeDone_ok (c : Nat) (d m : Int) (sm : Value) (md : Int) (fv : Value) (tx : ByteArray) :
    CnD Tryz.prog 137 [.pointer (some ⟨c, 0, none⟩), .bool true] [blk c [.int .u32 d, .int .i32 m, sm, .int .u32 md, fv, .string tx] 185] [] (fun v Bs => v = .tuple #[] ∧ Bs = [blk c [.int .u32 1, .int .i32 m, sm, .int .u32 md, fv, .string tx] 185]) := by
  intro w0 F0 ufm H
  refine enterD (args := [.pointer (some ⟨c, 0, none⟩), .bool true]) Tryz.func137 rfl rfl (Nat.le_of_ble_eq_true rfl) ?_
  refine c_ord (.e 0 (.e 1 (.e 2 (.e 3 (.m 4 (.m 5 .z)))))) (fun w => ∃ Ar, Hd w0 F0 w (Ar) []) mo (by kernel_rfl) (fun w H => ⟨_, H⟩) H (fun w H => ?_)
  refine d_val rfl rfl rfl (fun w ⟨Ar, H⟩ => r_mv rfl rfl) ?_
  refine d_val rfl rfl rfl (fun w ⟨Ar, H⟩ => r_nilP rfl rfl) ?_
  refine d_val rfl rfl rfl (fun w ⟨Ar, H⟩ => r_fa rfl fo177_1 rfl) ?_
  refine d_val rfl rfl rfl (fun w ⟨Ar, H⟩ => r_mv rfl rfl) ?_
  refine d_main rfl ?_
  refine sc (b32_ok true) H l0 rfl rfl (e_fn kn152 rfl rfl) ?_
  rintro _ _ w ⟨rfl, rfl⟩ H
  refine d_back ⟨_, H⟩ ?_
  refine d_main rfl ?_
  refine s_astore ex151 rfl rfl rfl rfl H rfl (fun w H => ?_)
  replace H : Hd _ _ _ [blk c [.int .u32 1, .int .i32 m, sm, .int .u32 md, fv, .string tx] 185] [] := H
  refine d_back ⟨_, H⟩ ?_
  refine d_nil ?_
  refine q_end rfl ?_
  replace H : Hd _ _ _ [blk c [.int .u32 1, .int .i32 m, sm, .int .u32 md, fv, .string tx] 185] [] := H
  exact fin ⟨rfl, rfl⟩ H

set_option maxHeartbeats 1000000 in
theorem loadDone0_ok (c : Nat) (m : Int) (sm : Value) (md : Int) (fv : Value) (tx : ByteArray) :
    Cn Tryz.prog 153 [.pointer (some ⟨c, 0, none⟩)] [] [blk c [.int .u32 0, .int .i32 m, sm, .int .u32 md, fv, .string tx] 185] (fun v Bs => v = .bool false ∧ Bs = []) := by
  intro w0 F0 H
  refine enter (args := [.pointer (some ⟨c, 0, none⟩)]) Tryz.func153 rfl rfl (Nat.le_of_ble_eq_true rfl) ?_
  refine c_seq ?_
  refine c_reg ?_
  refine s_val rfl rfl (r_as rfl rfl) ?_
  refine s_nil ?_
  refine q_then ?_
  refine c_env [(0, .pointer (some ⟨c, 0, none⟩)), (2, .bool false)] ⟨rfl, rfl, trivial⟩ ?_
  refine c_seq ?_
  refine c_reg ?_
  refine s_val rfl rfl (r_mv rfl rfl) ?_
  refine s_val rfl rfl (r_nilP rfl rfl) ?_
  refine s_val rfl rfl (r_fa rfl fo177_1 rfl) ?_
  refine s_val rfl rfl (r_aload ex165 rfl rfl (H.cellRI 0 rfl rfl)) ?_
  refine s_val rfl rfl (r_ne rfl rfl rfl) ?_
  refine s_val rfl rfl (r_as rfl rfl) ?_
  refine s_nil ?_
  refine q_then ?_
  refine c_env [(2, .bool false)] ⟨rfl, trivial⟩ ?_
  refine c_ret ?_
  refine q_ret1 rfl rfl ?_
  replace H : Hd _ _ _ [] [blk c [.int .u32 0, .int .i32 m, sm, .int .u32 md, fv, .string tx] 185] := H
  exact fin ⟨rfl, rfl⟩ H

set_option maxHeartbeats 1000000 in
theorem loadDone1_ok (c : Nat) (m : Int) (sm : Value) (md : Int) (fv : Value) (tx : ByteArray) :
    Cn Tryz.prog 153 [.pointer (some ⟨c, 0, none⟩)] [] [blk c [.int .u32 1, .int .i32 m, sm, .int .u32 md, fv, .string tx] 185] (fun v Bs => v = .bool true ∧ Bs = []) := by
  intro w0 F0 H
  refine enter (args := [.pointer (some ⟨c, 0, none⟩)]) Tryz.func153 rfl rfl (Nat.le_of_ble_eq_true rfl) ?_
  refine c_seq ?_
  refine c_reg ?_
  refine s_val rfl rfl (r_as rfl rfl) ?_
  refine s_nil ?_
  refine q_then ?_
  refine c_env [(0, .pointer (some ⟨c, 0, none⟩)), (2, .bool false)] ⟨rfl, rfl, trivial⟩ ?_
  refine c_seq ?_
  refine c_reg ?_
  refine s_val rfl rfl (r_mv rfl rfl) ?_
  refine s_val rfl rfl (r_nilP rfl rfl) ?_
  refine s_val rfl rfl (r_fa rfl fo177_1 rfl) ?_
  refine s_val rfl rfl (r_aload ex165 rfl rfl (H.cellRI 0 rfl rfl)) ?_
  refine s_val rfl rfl (r_ne rfl rfl rfl) ?_
  refine s_val rfl rfl (r_as rfl rfl) ?_
  refine s_nil ?_
  refine q_then ?_
  refine c_env [(2, .bool true)] ⟨rfl, trivial⟩ ?_
  refine c_ret ?_
  refine q_ret1 rfl rfl ?_
  replace H : Hd _ _ _ [] [blk c [.int .u32 1, .int .i32 m, sm, .int .u32 md, fv, .string tx] 185] := H
  exact fin ⟨rfl, rfl⟩ H

set_option maxHeartbeats 1000000 in
theorem ilock_ok (c : Nat) (d : Int) (sm : Value) (md : Int) (fv : Value) (tx : ByteArray) :
    Cn Tryz.prog 177 [.pointer (some ⟨c, 1, none⟩)] [blk c [.int .u32 d, .int .i32 0, sm, .int .u32 md, fv, .string tx] 185] [] (fun v Bs => v = .tuple #[] ∧ Bs = [blk c [.int .u32 d, .int .i32 1, sm, .int .u32 md, fv, .string tx] 185]) := by
  intro w0 F0 H
  refine enter (args := [.pointer (some ⟨c, 1, none⟩)]) Tryz.func177 rfl rfl (Nat.le_of_ble_eq_true rfl) ?_
  refine c_seq ?_
  refine c_reg ?_
  refine s_val rfl rfl (r_mark0 ex182 rfl rfl) ?_
  refine s_nil ?_
  refine q_then ?_
  refine c_env [(0, .pointer (some ⟨c, 1, none⟩))] ⟨rfl, trivial⟩ ?_
  refine c_seq ?_
  refine c_seq ?_
  refine c_reg ?_
  refine s_val rfl rfl (r_mv rfl rfl) ?_
  refine s_val rfl rfl (r_nilP rfl rfl) ?_
  refine s_val rfl rfl (r_fa rfl fo179_0 rfl) ?_
  refine s_acas ex183 rfl rfl rfl rfl H rfl (fun w H => ?_)
  replace H : Hd _ _ _ [blk c [.int .u32 d, .int .i32 1, sm, .int .u32 md, fv, .string tx] 185] [] := H
  refine s_nil ?_
  refine q_then ?_
  refine c_env [(0, .pointer (some ⟨c, 1, none⟩)), (6, .bool true)] ⟨rfl, rfl, trivial⟩ ?_
  refine c_yes rfl ?_
  refine c_seq ?_
  refine c_yes rfl ?_
  refine c_seq ?_
  refine c_reg ?_
  refine s_val rfl rfl (r_mark0 ex184 rfl rfl) ?_
  refine s_nil ?_
  refine q_then ?_
  refine c_env [(0, .pointer (some ⟨c, 1, none⟩))] ⟨rfl, trivial⟩ ?_
  refine c_reg ?_
  refine s_val rfl rfl (r_mv rfl rfl) ?_
  refine s_val rfl rfl (r_unsafe rfl un222 up226 nz179 rfl (H.cellI 0 rfl rfl)) ?_
  refine s_val rfl rfl (r_marked ex185 rfl rfl) ?_
  refine s_nil ?_
  refine q_then ?_
  refine c_env [(0, .pointer (some ⟨c, 1, none⟩))] ⟨rfl, trivial⟩ ?_
  refine c_ret ?_
  refine q_thenR ?_
  refine q_ret0 rfl ?_
  replace H : Hd _ _ _ [blk c [.int .u32 d, .int .i32 1, sm, .int .u32 md, fv, .string tx] 185] [] := H
  exact fin ⟨rfl, rfl⟩ H

set_option maxHeartbeats 1000000 in
theorem lock_ok (c : Nat) (d : Int) (sm : Value) (md : Int) (fv : Value) (tx : ByteArray) :
    Cn Tryz.prog 166 [.pointer (some ⟨c, 1, none⟩)] [blk c [.int .u32 d, .int .i32 0, sm, .int .u32 md, fv, .string tx] 185] [] (fun v Bs => v = .tuple #[] ∧ Bs = [blk c [.int .u32 d, .int .i32 1, sm, .int .u32 md, fv, .string tx] 185]) := by
  intro w0 F0 H
  refine enter (args := [.pointer (some ⟨c, 1, none⟩)]) Tryz.func166 rfl rfl (Nat.le_of_ble_eq_true rfl) ?_
  refine c_reg ?_
  refine s_val rfl rfl (r_mv rfl rfl) ?_
  refine s_val rfl rfl (r_nilP rfl rfl) ?_
  refine s_val rfl rfl (r_fa rfl fo181_1 rfl) ?_
  refine sc (ilock_ok c d sm md fv tx) H l0 rfl rfl (e_fn kn177 rfl rfl) ?_
  rintro _ _ w ⟨rfl, rfl⟩ H
  refine s_nil ?_
  refine q_end rfl ?_
  replace H : Hd _ _ _ [blk c [.int .u32 d, .int .i32 1, sm, .int .u32 md, fv, .string tx] 185] [] := H
  exact fin ⟨rfl, rfl⟩ H

set_option maxHeartbeats 1000000 in
theorem iunlock_ok (c : Nat) (d : Int) (sm : Value) (md : Int) (fv : Value) (tx : ByteArray) :
    Cn Tryz.prog 178 [.pointer (some ⟨c, 1, none⟩)] [blk c [.int .u32 d, .int .i32 1, sm, .int .u32 md, fv, .string tx] 185] [] (fun v Bs => v = .tuple #[] ∧ Bs = [blk c [.int .u32 d, .int .i32 0, sm, .int .u32 md, fv, .string tx] 185]) := by
  intro w0 F0 H
  refine enter (args := [.pointer (some ⟨c, 1, none⟩)]) Tryz.func178 rfl rfl (Nat.le_of_ble_eq_true rfl) ?_
  refine c_seq ?_
  refine c_yes rfl ?_
  refine c_seq ?_
  refine c_reg ?_
  refine s_val rfl rfl (r_mv rfl rfl) ?_
  refine s_val rfl rfl (r_nilP rfl rfl) ?_
  refine s_val rfl rfl (r_fa rfl fo179_0 rfl) ?_
  refine s_val rfl rfl (r_ld rfl ty21 rfl (H.cellI 0 rfl rfl)) ?_
  refine s_nil ?_
  refine q_then ?_
  refine c_env [(0, .pointer (some ⟨c, 1, none⟩))] ⟨rfl, trivial⟩ ?_
  refine c_seq ?_
  refine c_reg ?_
  refine s_val rfl rfl (r_mv rfl rfl) ?_
  refine s_val rfl rfl (r_unsafe rfl un222 up226 nz179 rfl (H.cellI 0 rfl rfl)) ?_
  refine s_val rfl rfl (r_marked ex187 rfl rfl) ?_
  refine s_nil ?_
  refine q_then ?_
  refine c_env [(0, .pointer (some ⟨c, 1, none⟩))] ⟨rfl, trivial⟩ ?_
  refine c_reg ?_
  refine s_val rfl rfl (r_mark0 ex182 rfl rfl) ?_
  refine s_nil ?_
  refine q_then ?_
  refine c_env [(0, .pointer (some ⟨c, 1, none⟩))] ⟨rfl, trivial⟩ ?_
  refine c_seq ?_
  refine c_reg ?_
  refine s_val rfl rfl (r_mv rfl rfl) ?_
  refine s_val rfl rfl (r_nilP rfl rfl) ?_
  refine s_val rfl rfl (r_fa rfl fo179_0 rfl) ?_
  refine s_aadd ex188 rfl rfl rfl rfl H rfl rfl (fun w H => ?_)
  replace H : Hd _ _ _ [blk c [.int .u32 d, .int .i32 0, sm, .int .u32 md, fv, .string tx] 185] [] := H
  refine s_val rfl rfl (r_as rfl rfl) ?_
  refine s_nil ?_
  refine q_then ?_
  refine c_env [(0, .pointer (some ⟨c, 1, none⟩)), (2, .int .i32 0)] ⟨rfl, rfl, trivial⟩ ?_
  refine c_seq ?_
  refine c_seq ?_
  refine c_reg ?_
  refine s_val rfl rfl (r_mv rfl rfl) ?_
  refine s_val rfl rfl (r_ne rfl rfl rfl) ?_
  refine s_nil ?_
  refine q_then ?_
  refine c_env [(0, .pointer (some ⟨c, 1, none⟩)), (2, .int .i32 0), (16, .bool false)] ⟨rfl, rfl, rfl, trivial⟩ ?_
  refine c_no rfl ?_
  refine c_skip ?_
  refine q_then ?_
  refine c_env [] trivial ?_
  refine c_reg ?_
  refine s_val rfl rfl (r_mark0 ex184 rfl rfl) ?_
  refine s_nil ?_
  refine q_end rfl ?_
  replace H : Hd _ _ _ [blk c [.int .u32 d, .int .i32 0, sm, .int .u32 md, fv, .string tx] 185] [] := H
  exact fin ⟨rfl, rfl⟩ H

set_option maxHeartbeats 1000000 in
theorem unlockD_ok (c : Nat) (d : Int) (sm : Value) (md : Int) (fv : Value) (tx : ByteArray) :
    CnD Tryz.prog 167 [.pointer (some ⟨c, 1, none⟩)] [blk c [.int .u32 d, .int .i32 1, sm, .int .u32 md, fv, .string tx] 185] [] (fun v Bs => v = .tuple #[] ∧ Bs = [blk c [.int .u32 d, .int .i32 0, sm, .int .u32 md, fv, .string tx] 185]) := by
  intro w0 F0 ufm H
  refine enterD (args := [.pointer (some ⟨c, 1, none⟩)]) Tryz.func167 rfl rfl (Nat.le_of_ble_eq_true rfl) ?_
  refine c_reg ?_
  refine s_val rfl rfl (r_mv rfl rfl) ?_
  refine s_val rfl rfl (r_nilP rfl rfl) ?_
  refine s_val rfl rfl (r_fa rfl fo181_1 rfl) ?_
  refine sc (iunlock_ok c d sm md fv tx) H l0 rfl rfl (e_fn kn178 rfl rfl) ?_
  rintro _ _ w ⟨rfl, rfl⟩ H
  refine s_nil ?_
  refine q_end rfl ?_
  replace H : Hd _ _ _ [blk c [.int .u32 d, .int .i32 0, sm, .int .u32 md, fv, .string tx] 185] [] := H
  exact fin ⟨rfl, rfl⟩ H

end Go.Proofs.YtlpgdkbokakniaaGreatDoor.X
