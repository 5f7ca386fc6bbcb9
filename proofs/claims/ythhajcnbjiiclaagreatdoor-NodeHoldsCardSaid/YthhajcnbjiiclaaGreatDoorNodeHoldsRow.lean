/- The statement NodeHolds holds: whatever comes in, the law answers true, and all that came in reads as it did. The walk is nodeHolds_ok. -/
import Derived.Test.YthhajcnbjiiclaaGreatDoorRows
import Derived.Test.YthhajcnbjiiclaaGreatDoorNodeHoldsQ7
import Derived.Test.YthhajcnbjiiclaaGreatDoorCards
import Derived.Test.YthhajcnbjiiclaaGreatDoorTie
import Derived.WalkKit
import Derived.ProofKit
import Derived.OpenShut
import Derived.ShutString
import Derived.ChangeOld
import Derived.Below
import Derived.SizedLaws
import Derived.Carry
import Derived.LaidMore
import Derived.Lay
import Derived.SevenTiedAt
import Derived.Stop.Joined
import Derived.MakeChecks
set_option linter.unusedVariables false
set_option linter.unusedSimpArgs false
namespace Go.Proofs.YthhajcnbjiiclaaGreatDoor.nodeHolds
open Go.ChangeShapes Go.WideShapes Go.ChangeAt Go.RowKit Go.Proofs.YthhajcnbjiiclaaGreatDoor.X
open Go.ChangeMaps (open_string shut_string)
theorem own : ownKnob Tryz.prog.godebug = none := by kernel_rfl
theorem laidOut : laidOutB Tryz.prog = true := by kernel_rfl
set_option maxRecDepth 100000 in
theorem lifted (os : Os) (started : os.Started) (H : Type) (enc : TypeId × Value → H) :
    ReturnsInHanded {} Tryz.checked os 4 .any (fun w args => (Rows.nodeHoldsSpec.pre enc Tryz.prog Tryz.f4 Rows.nodeHoldsRow.domain false w args ∧ laidMetH Tryz.prog Rows.nodeHoldsRow.laid w) ∧ sizedMet enc Tryz.prog Tryz.f4 (OpenSpec.ofChange Rows.nodeHoldsSpec) false w args)
      (Rows.nodeHoldsSpec.post enc Tryz.prog Tryz.f4 false true false false) := by
  refine returnsInHanded_of_change_and (C := Tryz.checked) (X := fun w _ => laidMetH Tryz.prog Rows.nodeHoldsRow.laid w) (fun _ _ _ hh h => h.of_heap hh) own started (by kernel_rfl) Tryz.func4
    (ChangeSpec.witness_shaped (enc := enc) (C := Tryz.checked) (os := os) (X := fun w _ => laidMetH Tryz.prog Rows.nodeHoldsRow.laid w) false (World.laidAll Tryz.prog os Rows.nodeHoldsRow.laid) #[.agg #[.slice none 0 0, .int .i64 0, .slice none 0 0, .slice none 0 0, .slice none 0 0, .int .i64 0, .int .i64 0, .int .i64 0, .slice none 0 0, .int .i64 0, .int .i64 0, .int .i64 0], .int .i64 0, .slice none 0 0] 8 (World.laidAll_os _ _ _)
      (World.shaped_of_ZipB (by kernel_rfl) (by kernel_rfl)) (by kernel_rfl) (by kernel_rfl) (by kernel_rfl)
      (by rw [MakeChecks.laidMetH_plain _ _ _ (by kernel_rfl)]; exact laidMet_laidAll _ (by kernel_rfl) (by kernel_rfl))) ?_
  intro W base args ds gs before hval0 hW hcnd hsz0 hL _
  have hG := iA (by rw [MakeChecks.laidMetH_plain _ _ _ (by kernel_rfl)] at hL; exact hL)
  have hval : ∀ (j : Nat) t v, Tryz.f4.params[j]? = some t → args[j]? = some v → Value.okWide Tryz.prog W .any base t v := hval0
  have hW' := hW
  obtain ⟨p, q, hA0, hV, rfl, hfz, hnd⟩ := hW
  have hA : DataW.TrodAll enc Tryz.prog W 0 (fun _ => true) true Tryz.f4.params.toList args.toList ds p := hA0
  rw [Tryz.params4] at hA hval
  obtain ⟨v0, vs0, d0, ds0, p0, q0, hargs, rfl, rfl, h0, r0⟩ := trodAll_cons hA
  obtain ⟨v1, vs1, d1, ds1, p1, q1, rfl, rfl, rfl, h1, r1⟩ := trodAll_cons r0
  obtain ⟨v2, vs2, d2, ds2, p2, q2, rfl, rfl, rfl, h2, r2⟩ := trodAll_cons r1
  obtain ⟨rfl, rfl, rfl⟩ := trodAll_nil r2
  obtain rfl : args = #[v0, v1, v2] := by cases args; simp_all
  obtain ⟨rfl, rfl⟩ := trodVars_none hV
  have k0 := h0
  have lt0 : ∀ x ∈ p0, x.block < W.heap.size := by obtain ⟨m, hm⟩ := k0; exact DataW.trod_lt m _ _ _ hm
  obtain ⟨a0, rfl, hz0⟩ := okWide_struct Tryz.underlying28 (hval 0 28 v0 rfl rfl)
  obtain ⟨m0, hf0⟩ := h0
  obtain ⟨js0, mj0, yj0, cw0, ct0, co0, ec0, hj0, hjl0, wc0⟩ := rS yK d5 DT enc W m0 _ _ hf0
  obtain ⟨vS0, ss0, n10, vM0, mp0, vC0, cb0, vR0, rd0, n50, n60, n70, vK0, mk0, ej0, ⟨eS0, eM0, eC0, eR0, eK0⟩, wj0, wn0⟩ := rU yJ dZ DT (L8 Hc rfl (L8 Cd rfl (YT aK VD DE))) (L8 Lt rfl (rT yI dY DT DE)) (L8 D0 rfl (Fe DT)) enc W mj0 _ _ hj0
  subst ej0
  obtain rfl : a0 = #[vS0, .int .i64 n10, vM0, vC0, vR0, .int .i64 n50, .int .i64 n60, .int .i64 n70, vK0, .int .i64 cw0, .int .i64 ct0, .int .i64 co0] := by cases a0; simp_all [Value.cells]
  have k1 := h1
  have lt1 : ∀ x ∈ p1, x.block < W.heap.size := by obtain ⟨m, hm⟩ := k1; exact DataW.trod_lt m _ _ _ hm
  obtain ⟨n1, rfl⟩ := okWide_int Tryz.underlying3 (hval 1 3 v1 rfl rfl)
  obtain ⟨m1, hf1⟩ := h1
  obtain ⟨x1, e1, w1⟩ := (Fe DT) enc W m1 _ _ hf1
  obtain rfl : n1 = x1 := by have e := e1; simpa [Av, EX, P7, flat, Value.cells] using e
  have k2 := h2
  have lt2 : ∀ x ∈ p2, x.block < W.heap.size := by obtain ⟨m, hm⟩ := k2; exact DataW.trod_lt m _ _ _ hm
  obtain ⟨a2, l2, c2, rfl⟩ := okWide_slice Tryz.underlying45 (hval 2 45 v2 rfl rfl)
  obtain ⟨m2, hf2⟩ := h2
  obtain ⟨x2, e2, w2⟩ := (L8 Rh rfl (rR yN d9 DT (rV yM d8 DT (rW yL d6 DT (L8 D0 rfl (Fe DT)) (L8 Cd rfl (YT aK VD DE)))))) enc W m2 _ _ hf2
  clear hA0 hval0 hsz0
  refine (nC (qX vS0 vM0 vC0 vR0 vK0 ss0 mp0 cb0 rd0 mk0 n10 n50 n60 n70 wj0 wn0 cw0 ct0 co0 wc0 n1 w1 (.slice a2 l2 c2) x2 w2) (List.forall_mem_cons.2 ⟨eS0, (List.forall_mem_cons.2 ⟨eM0, (List.forall_mem_cons.2 ⟨eC0, (List.forall_mem_cons.2 ⟨eR0, (List.forall_mem_cons.2 ⟨eK0, (List.forall_mem_cons.2 ⟨e2, (List.forall_mem_cons.2 ⟨hG, (fun _ h => by cases h)⟩)⟩)⟩)⟩)⟩)⟩)⟩) (fun v Bs h => h.1)).mono fun e W2 ⟨he, bel⟩ => ?_
  subst he
  exact ⟨_, rfl, _, _, _, [], _, [], hW', trodAll_mk1 (shut_bool Tryz.underlying4 _), (trodAll_cons_mk (Below.trod laidOut (by kernel_rfl) (of_decide_eq_true (by kernel_rfl)) k0 bel lt0) (trodAll_cons_mk (Below.trod laidOut (by kernel_rfl) (of_decide_eq_true (by kernel_rfl)) k1 bel lt1) (trodAll_cons_mk (Below.trod laidOut (by kernel_rfl) (of_decide_eq_true (by kernel_rfl)) k2 bel lt2) trodAll_mk0))), rfl, bel.frame _, fun h => by cases h⟩
set_option maxHeartbeats 8000000 in
theorem closed : joinedFacts Tryz.pinned.checked.prog 4 Tryz.f4 Rows.nodeHoldsSpec Rows.nodeHoldsRow = true := by
  unfold joinedFacts
  repeat with_reducible refine Bool.and_eq_true_iff.2 ⟨?_, ?_⟩
  all_goals (as_aux_lemma => kernel_rfl)
theorem over : Rows.nodeHoldsRow.holds Tryz.pinned (OpenSpec.ofChange Rows.nodeHoldsSpec) :=
  OpenClaim.holds_of_wide 4 Tryz.f4 rfl rfl rfl rfl rfl rfl rfl ⟨rfl, rfl, rfl, rfl, rfl⟩ rfl rfl rfl rfl rfl (by kernel_rfl) Tryz.func4 closed
    (of_decide_eq_true (by kernel_rfl)) (by unfold Func.isWrapper; first | (rw [if_pos (by decide +kernel)]; kernel_rfl) | (rw [if_neg (by decide +kernel)]; exact ⟨rfl, rfl⟩))
    (fun os started H enc _ => lifted os started H enc)
theorem proved : Rows.NodeHoldsSaid := over
theorem looksIs : true = Tryz.pinned.checked.prog.looks [] := by kernel_rfl
theorem goesIs : false = Rows.nodeHoldsRow.goesBy Tryz.pinned.checked.prog := by kernel_rfl
theorem card : Rows.NodeHoldsCardSaid :=
  Claim7.holds_tied_plain_at .later [] [.data, .data, .data, .sentinel, .sentinel] true (true, "b6bd0c8da403275a02115b5447982521090475ce64e765a90cafbd4ae705210f") true over (fun _ h => by cases h) (by kernel_rfl) (fun _ h => by cases h) nodeHolds_row_tie rfl ⟨rfl, rfl⟩ (by kernel_rfl) rfl
    (fun f fn hf hfn => by
      obtain rfl : f = 4 := Option.some.inj ((show Tryz.prog.funcNamed "staithe/staithelaw24.NodeHolds" = some 4 by kernel_rfl).symm.trans hf) |>.symm
      obtain rfl : fn = Tryz.f4 := (Option.some.inj (Tryz.func4.symm.trans hfn)).symm
      exact ⟨looksIs, fun j t ht => by
        rw [Tryz.params4] at ht
        have hm : t ∈ [28, 3, 45] := by simpa using Array.mem_of_getElem? ht
        have hall : ([28, 3, 45].all fun u => !Tryz.prog.wantsStandIn u) = true := by kernel_rfl
        exact (show Tryz.prog.wantsStandIn t = false by simpa using List.all_eq_true.1 hall t hm)⟩)
    goesIs
end Go.Proofs.YthhajcnbjiiclaaGreatDoor.nodeHolds
namespace Go.Proofs.YthhajcnbjiiclaaGreatDoor
theorem nodeHolds_holds : Rows.NodeHoldsCardSaid := nodeHolds.card
#print axioms nodeHolds_holds
end Go.Proofs.YthhajcnbjiiclaaGreatDoor
