/- The statement WorkerNone holds: whatever comes in, the law answers true, and all that came in reads as it did. The walk is workerNone_ok. -/
import Derived.Test.YthgehekecfpikaaGreatDoorWorkerNoneQ7
import Derived.Test.YthgehekecfpikaaGreatDoorRows
import Derived.Test.YthgehekecfpikaaGreatDoorCards
import Derived.Test.YthgehekecfpikaaGreatDoorTie
import Derived.WalkKit
import Derived.ProofKit
import Derived.OpenShut
import Derived.ShutString
import Derived.ChangeOld
import Derived.Below
import Derived.SizedLaws
import Derived.Carry
import Derived.LaidMore
import Derived.Lay
import Derived.SevenTiedAt
import Derived.Stop.Joined
import Derived.MakeChecks
set_option linter.unusedVariables false
set_option linter.unusedSimpArgs false
namespace Go.Proofs.YthgehekecfpikaaGreatDoor.workerNone
open Go.ChangeShapes Go.WideShapes Go.ChangeAt Go.RowKit Go.Proofs.YthgehekecfpikaaGreatDoor.X
open Go.ChangeMaps (open_string shut_string)
theorem own : ownKnob Tryz.prog.godebug = none := by kernel_rfl
theorem laidOut : laidOutB Tryz.prog = true := by kernel_rfl
set_option maxRecDepth 100000 in
theorem lifted (os : Os) (started : os.Started) (H : Type) (enc : TypeId × Value → H) :
    ReturnsInHanded {} Tryz.checked os 16 .any (fun w args => (Rows.workerNoneSpec.pre enc Tryz.prog Tryz.f16 Rows.workerNoneRow.domain false w args ∧ laidMetH Tryz.prog Rows.workerNoneRow.laid w) ∧ sizedMet enc Tryz.prog Tryz.f16 (OpenSpec.ofChange Rows.workerNoneSpec) false w args)
      (Rows.workerNoneSpec.post enc Tryz.prog Tryz.f16 false true false false) := by
  refine returnsInHanded_of_change_and (C := Tryz.checked) (X := fun w _ => laidMetH Tryz.prog Rows.workerNoneRow.laid w) (fun _ _ _ hh h => h.of_heap hh) own started (by kernel_rfl) Tryz.func16
    (ChangeSpec.witness_shaped (enc := enc) (C := Tryz.checked) (os := os) (X := fun w _ => laidMetH Tryz.prog Rows.workerNoneRow.laid w) false (World.laidAll Tryz.prog os Rows.workerNoneRow.laid) #[.agg #[.bool false, .int .i64 0, .int .i64 0, .int .i64 0, .int .i64 0, .int .i64 0, .int .i64 0, .int .i64 0, .int .i64 0, .int .i64 0, .slice none 0 0, .slice none 0 0]] 8 (World.laidAll_os _ _ _)
      (World.shaped_of_ZipB (by kernel_rfl) (by kernel_rfl)) (by kernel_rfl) (by kernel_rfl) (by kernel_rfl)
      (by rw [MakeChecks.laidMetH_plain _ _ _ (by kernel_rfl)]; exact laidMet_laidAll _ (by kernel_rfl) (by kernel_rfl))) ?_
  intro W base args ds gs before hval0 hW hcnd hsz0 hL _
  have hG := Tk (by rw [MakeChecks.laidMetH_plain _ _ _ (by kernel_rfl)] at hL; exact hL)
  have hval : ∀ (j : Nat) t v, Tryz.f16.params[j]? = some t → args[j]? = some v → Value.okWide Tryz.prog W .any base t v := hval0
  have hW' := hW
  obtain ⟨p, q, hA0, hV, rfl, hfz, hnd⟩ := hW
  have hA : DataW.TrodAll enc Tryz.prog W 0 (fun _ => true) true Tryz.f16.params.toList args.toList ds p := hA0
  rw [Tryz.params16] at hA hval
  obtain ⟨v0, vs0, d0, ds0, p0, q0, hargs, rfl, rfl, h0, r0⟩ := trodAll_cons hA
  obtain ⟨rfl, rfl, rfl⟩ := trodAll_nil r0
  obtain rfl : args = #[v0] := by cases args; simp_all
  obtain ⟨rfl, rfl⟩ := trodVars_none hV
  have k0 := h0
  have lt0 : ∀ x ∈ p0, x.block < W.heap.size := by obtain ⟨m, hm⟩ := k0; exact DataW.trod_lt m _ _ _ hm
  obtain ⟨a0, rfl, hz0⟩ := okWide_struct Tryz.underlying128 (hval 0 128 v0 rfl rfl)
  obtain ⟨m0, hf0⟩ := h0
  obtain ⟨x0, e0, w0⟩ := (Wj YJ RS Zj D5 (Wl YK RT D5 (PN DW rfl (FX D5)) (PN By rfl (Wm YI RR CF)))) enc W m0 _ _ hf0
  obtain ⟨ea0, es0, ep0⟩ := e0
  obtain rfl : a0 = #[.bool x0.h.hear, .int .i64 x0.h.fr, .int .i64 x0.h.m.kind, .int .i64 x0.h.m.sp, .int .i64 x0.h.m.att, .int .i64 x0.h.m.part, .int .i64 x0.h.m.seq, .int .i64 x0.h.m.next, .int .i64 x0.h.m.ep, .int .i64 x0.h.m.why, x0.sv, x0.pv] := Array.ext' ea0
  clear hA0 hval0 hsz0
  refine (U_ (ZZ x0.h x0.sv x0.set x0.pv x0.pairs w0) (List.forall_mem_cons.2 ⟨es0, (List.forall_mem_cons.2 ⟨ep0, (List.forall_mem_cons.2 ⟨hG, (fun _ h => by cases h)⟩)⟩)⟩) (fun v Bs h => h.1)).mono fun e W2 ⟨he, bel⟩ => ?_
  subst he
  exact ⟨_, rfl, _, _, _, [], _, [], hW', trodAll_mk1 (shut_bool Tryz.underlying4 _), (trodAll_cons_mk (Below.trod laidOut (by kernel_rfl) (of_decide_eq_true (by kernel_rfl)) k0 bel lt0) trodAll_mk0), rfl, bel.frame _, fun h => by cases h⟩
set_option maxHeartbeats 8000000 in
theorem closed : joinedFacts Tryz.pinned.checked.prog 16 Tryz.f16 Rows.workerNoneSpec Rows.workerNoneRow = true := by
  unfold joinedFacts
  repeat with_reducible refine Bool.and_eq_true_iff.2 ⟨?_, ?_⟩
  all_goals (as_aux_lemma => kernel_rfl)
theorem over : Rows.workerNoneRow.holds Tryz.pinned (OpenSpec.ofChange Rows.workerNoneSpec) :=
  OpenClaim.holds_of_wide 16 Tryz.f16 rfl rfl rfl rfl rfl rfl rfl ⟨rfl, rfl, rfl, rfl, rfl⟩ rfl rfl rfl rfl rfl (by kernel_rfl) Tryz.func16 closed
    (of_decide_eq_true (by kernel_rfl)) (by unfold Func.isWrapper; first | (rw [if_pos (by decide +kernel)]; kernel_rfl) | (rw [if_neg (by decide +kernel)]; exact ⟨rfl, rfl⟩))
    (fun os started H enc _ => lifted os started H enc)
theorem proved : Rows.WorkerNoneSaid := over
theorem looksIs : true = Tryz.pinned.checked.prog.looks [] := by kernel_rfl
theorem goesIs : false = Rows.workerNoneRow.goesBy Tryz.pinned.checked.prog := by kernel_rfl
theorem card : Rows.WorkerNoneCardSaid :=
  Claim7.holds_tied_plain_at .later [] [.data, .data, .data, .sentinel, .sentinel] true (true, "dcb6ab82f2f0c84635babedfcfbaa795c131daf5b63a47d17e39df4986293316") true over (fun _ h => by cases h) (by kernel_rfl) (fun _ h => by cases h) workerNone_row_tie rfl ⟨rfl, rfl⟩ (by kernel_rfl) rfl
    (fun f fn hf hfn => by
      obtain rfl : f = 16 := Option.some.inj ((show Tryz.prog.funcNamed "staithe/staithelaw23.WorkerNone" = some 16 by kernel_rfl).symm.trans hf) |>.symm
      obtain rfl : fn = Tryz.f16 := (Option.some.inj (Tryz.func16.symm.trans hfn)).symm
      exact ⟨looksIs, fun j t ht => by
        rw [Tryz.params16] at ht
        have hm : t ∈ [128] := by simpa using Array.mem_of_getElem? ht
        have hall : ([128].all fun u => !Tryz.prog.wantsStandIn u) = true := by kernel_rfl
        exact (show Tryz.prog.wantsStandIn t = false by simpa using List.all_eq_true.1 hall t hm)⟩)
    goesIs
end Go.Proofs.YthgehekecfpikaaGreatDoor.workerNone
namespace Go.Proofs.YthgehekecfpikaaGreatDoor
theorem workerNone_holds : Rows.WorkerNoneCardSaid := workerNone.card
#print axioms workerNone_holds
end Go.Proofs.YthgehekecfpikaaGreatDoor
