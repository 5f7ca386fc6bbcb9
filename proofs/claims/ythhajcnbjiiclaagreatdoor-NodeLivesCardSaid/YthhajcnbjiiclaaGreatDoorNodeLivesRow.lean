/- The statement NodeLives holds: whatever comes in, the law answers true, and all that came in reads as it did. The walk is nodeLives_ok. -/
import Derived.Test.YthhajcnbjiiclaaGreatDoorNodeLivesQ8
import Derived.Test.YthhajcnbjiiclaaGreatDoorRows
import Derived.Test.YthhajcnbjiiclaaGreatDoorCards
import Derived.Test.YthhajcnbjiiclaaGreatDoorTie
import Derived.WalkKit
import Derived.ProofKit
import Derived.OpenShut
import Derived.ShutString
import Derived.ChangeOld
import Derived.Below
import Derived.SizedLaws
import Derived.Carry
import Derived.LaidMore
import Derived.Lay
import Derived.SevenTiedAt
import Derived.Stop.Joined
import Derived.MakeChecks
set_option linter.unusedVariables false
set_option linter.unusedSimpArgs false
namespace Go.Proofs.YthhajcnbjiiclaaGreatDoor.nodeLives
open Go.ChangeShapes Go.WideShapes Go.ChangeAt Go.RowKit Go.Proofs.YthhajcnbjiiclaaGreatDoor.X
open Go.ChangeMaps (open_string shut_string)
theorem own : ownKnob Tryz.prog.godebug = none := by kernel_rfl
theorem laidOut : laidOutB Tryz.prog = true := by kernel_rfl
set_option maxRecDepth 100000 in
theorem lifted (os : Os) (started : os.Started) (H : Type) (enc : TypeId × Value → H) :
    ReturnsInHanded {} Tryz.checked os 3 .any (fun w args => (Rows.nodeLivesSpec.pre enc Tryz.prog Tryz.f3 Rows.nodeLivesRow.domain false w args ∧ laidMetH Tryz.prog Rows.nodeLivesRow.laid w) ∧ sizedMet enc Tryz.prog Tryz.f3 (OpenSpec.ofChange Rows.nodeLivesSpec) false w args)
      (Rows.nodeLivesSpec.post enc Tryz.prog Tryz.f3 false true false false) := by
  refine returnsInHanded_of_change_and (C := Tryz.checked) (X := fun w _ => laidMetH Tryz.prog Rows.nodeLivesRow.laid w) (fun _ _ _ hh h => h.of_heap hh) own started (by kernel_rfl) Tryz.func3
    (ChangeSpec.witness_shaped (enc := enc) (C := Tryz.checked) (os := os) (X := fun w _ => laidMetH Tryz.prog Rows.nodeLivesRow.laid w) false (World.laidAll Tryz.prog os Rows.nodeLivesRow.laid) #[.agg #[.slice none 0 0, .int .i64 0, .slice none 0 0, .slice none 0 0, .slice none 0 0, .int .i64 0, .int .i64 0, .int .i64 0, .slice none 0 0, .int .i64 0, .int .i64 0, .int .i64 0], .int .i64 0, .int .i64 0, .int .i64 0] 8 (World.laidAll_os _ _ _)
      (World.shaped_of_ZipB (by kernel_rfl) (by kernel_rfl)) (by kernel_rfl) (by kernel_rfl) (by kernel_rfl)
      (by rw [MakeChecks.laidMetH_plain _ _ _ (by kernel_rfl)]; exact laidMet_laidAll _ (by kernel_rfl) (by kernel_rfl))) ?_
  intro W base args ds gs before hval0 hW hcnd hsz0 hL _
  have hG := VO (by rw [MakeChecks.laidMetH_plain _ _ _ (by kernel_rfl)] at hL; exact hL)
  have hval : ∀ (j : Nat) t v, Tryz.f3.params[j]? = some t → args[j]? = some v → Value.okWide Tryz.prog W .any base t v := hval0
  have hW' := hW
  obtain ⟨p, q, hA0, hV, rfl, hfz, hnd⟩ := hW
  have hA : DataW.TrodAll enc Tryz.prog W 0 (fun _ => true) true Tryz.f3.params.toList args.toList ds p := hA0
  rw [Tryz.params3] at hA hval
  obtain ⟨v0, vs0, d0, ds0, p0, q0, hargs, rfl, rfl, h0, r0⟩ := trodAll_cons hA
  obtain ⟨v1, vs1, d1, ds1, p1, q1, rfl, rfl, rfl, h1, r1⟩ := trodAll_cons r0
  obtain ⟨v2, vs2, d2, ds2, p2, q2, rfl, rfl, rfl, h2, r2⟩ := trodAll_cons r1
  obtain ⟨v3, vs3, d3, ds3, p3, q3, rfl, rfl, rfl, h3, r3⟩ := trodAll_cons r2
  obtain ⟨rfl, rfl, rfl⟩ := trodAll_nil r3
  obtain rfl : args = #[v0, v1, v2, v3] := by cases args; simp_all
  obtain ⟨rfl, rfl⟩ := trodVars_none hV
  have k0 := h0
  have lt0 : ∀ x ∈ p0, x.block < W.heap.size := by obtain ⟨m, hm⟩ := k0; exact DataW.trod_lt m _ _ _ hm
  obtain ⟨a0, rfl, hz0⟩ := okWide_struct Tryz.underlying28 (hval 0 28 v0 rfl rfl)
  obtain ⟨m0, hf0⟩ := h0
  obtain ⟨js0, mj0, yj0, cw0, ct0, co0, ec0, hj0, hjl0, wc0⟩ := Ze dP Uc Dm enc W m0 _ _ hf0
  obtain ⟨vS0, ss0, n10, vM0, mp0, vC0, cb0, vR0, rd0, n50, n60, n70, vK0, mk0, ej0, ⟨eS0, eM0, eC0, eR0, eK0⟩, wj0, wn0⟩ := Zg dO Ub Dm (K_ Gy rfl (K_ BM rfl (Zh dM T_ CK))) (K_ HS rfl (Zf dN Ua Dm CK)) (K_ DE rfl (FN Dm)) enc W mj0 _ _ hj0
  subst ej0
  obtain rfl : a0 = #[vS0, .int .i64 n10, vM0, vC0, vR0, .int .i64 n50, .int .i64 n60, .int .i64 n70, vK0, .int .i64 cw0, .int .i64 ct0, .int .i64 co0] := by cases a0; simp_all [Value.cells]
  have k1 := h1
  have lt1 : ∀ x ∈ p1, x.block < W.heap.size := by obtain ⟨m, hm⟩ := k1; exact DataW.trod_lt m _ _ _ hm
  obtain ⟨n1, rfl⟩ := okWide_int Tryz.underlying3 (hval 1 3 v1 rfl rfl)
  obtain ⟨m1, hf1⟩ := h1
  obtain ⟨x1, e1, w1⟩ := (FN Dm) enc W m1 _ _ hf1
  obtain rfl : n1 = x1 := by have e := e1; simpa [Ai, Bt, My, flat, Value.cells] using e
  have k2 := h2
  have lt2 : ∀ x ∈ p2, x.block < W.heap.size := by obtain ⟨m, hm⟩ := k2; exact DataW.trod_lt m _ _ _ hm
  obtain ⟨n2, rfl⟩ := okWide_int Tryz.underlying3 (hval 2 3 v2 rfl rfl)
  obtain ⟨m2, hf2⟩ := h2
  obtain ⟨x2, e2, w2⟩ := (FN Dm) enc W m2 _ _ hf2
  obtain rfl : n2 = x2 := by have e := e2; simpa [Ai, Bt, My, flat, Value.cells] using e
  have k3 := h3
  have lt3 : ∀ x ∈ p3, x.block < W.heap.size := by obtain ⟨m, hm⟩ := k3; exact DataW.trod_lt m _ _ _ hm
  obtain ⟨n3, rfl⟩ := okWide_int Tryz.underlying3 (hval 3 3 v3 rfl rfl)
  obtain ⟨m3, hf3⟩ := h3
  obtain ⟨x3, e3, w3⟩ := (FN Dm) enc W m3 _ _ hf3
  obtain rfl : n3 = x3 := by have e := e3; simpa [Ai, Bt, My, flat, Value.cells] using e
  clear hA0 hval0 hsz0
  refine (X5 (YZ vS0 vM0 vC0 vR0 vK0 ss0 mp0 cb0 rd0 mk0 n10 n50 n60 n70 wj0 wn0 cw0 ct0 co0 wc0 n1 w1 n2 w2 n3 w3) (List.forall_mem_cons.2 ⟨eS0, (List.forall_mem_cons.2 ⟨eM0, (List.forall_mem_cons.2 ⟨eC0, (List.forall_mem_cons.2 ⟨eR0, (List.forall_mem_cons.2 ⟨eK0, (List.forall_mem_cons.2 ⟨hG, (fun _ h => by cases h)⟩)⟩)⟩)⟩)⟩)⟩) (fun v Bs h => h.1)).mono fun e W2 ⟨he, bel⟩ => ?_
  subst he
  exact ⟨_, rfl, _, _, _, [], _, [], hW', trodAll_mk1 (shut_bool Tryz.underlying4 _), (trodAll_cons_mk (Below.trod laidOut (by kernel_rfl) (of_decide_eq_true (by kernel_rfl)) k0 bel lt0) (trodAll_cons_mk (Below.trod laidOut (by kernel_rfl) (of_decide_eq_true (by kernel_rfl)) k1 bel lt1) (trodAll_cons_mk (Below.trod laidOut (by kernel_rfl) (of_decide_eq_true (by kernel_rfl)) k2 bel lt2) (trodAll_cons_mk (Below.trod laidOut (by kernel_rfl) (of_decide_eq_true (by kernel_rfl)) k3 bel lt3) trodAll_mk0)))), rfl, bel.frame _, fun h => by cases h⟩
set_option maxHeartbeats 8000000 in
theorem closed : joinedFacts Tryz.pinned.checked.prog 3 Tryz.f3 Rows.nodeLivesSpec Rows.nodeLivesRow = true := by
  unfold joinedFacts
  repeat with_reducible refine Bool.and_eq_true_iff.2 ⟨?_, ?_⟩
  all_goals (as_aux_lemma => kernel_rfl)
theorem over : Rows.nodeLivesRow.holds Tryz.pinned (OpenSpec.ofChange Rows.nodeLivesSpec) :=
  OpenClaim.holds_of_wide 3 Tryz.f3 rfl rfl rfl rfl rfl rfl rfl ⟨rfl, rfl, rfl, rfl, rfl⟩ rfl rfl rfl rfl rfl (by kernel_rfl) Tryz.func3 closed
    (of_decide_eq_true (by kernel_rfl)) (by unfold Func.isWrapper; first | (rw [if_pos (by decide +kernel)]; kernel_rfl) | (rw [if_neg (by decide +kernel)]; exact ⟨rfl, rfl⟩))
    (fun os started H enc _ => lifted os started H enc)
theorem proved : Rows.NodeLivesSaid := over
theorem looksIs : true = Tryz.pinned.checked.prog.looks [] := by kernel_rfl
theorem goesIs : false = Rows.nodeLivesRow.goesBy Tryz.pinned.checked.prog := by kernel_rfl
theorem card : Rows.NodeLivesCardSaid :=
  Claim7.holds_tied_plain_at .later [] [.data, .data, .data, .sentinel, .sentinel] true (true, "b6bd0c8da403275a02115b5447982521090475ce64e765a90cafbd4ae705210f") true over (fun _ h => by cases h) (by kernel_rfl) (fun _ h => by cases h) nodeLives_row_tie rfl ⟨rfl, rfl⟩ (by kernel_rfl) rfl
    (fun f fn hf hfn => by
      obtain rfl : f = 3 := Option.some.inj ((show Tryz.prog.funcNamed "staithe/staithelaw24.NodeLives" = some 3 by kernel_rfl).symm.trans hf) |>.symm
      obtain rfl : fn = Tryz.f3 := (Option.some.inj (Tryz.func3.symm.trans hfn)).symm
      exact ⟨looksIs, fun j t ht => by
        rw [Tryz.params3] at ht
        have hm : t ∈ [28, 3, 3, 3] := by simpa using Array.mem_of_getElem? ht
        have hall : ([28, 3, 3, 3].all fun u => !Tryz.prog.wantsStandIn u) = true := by kernel_rfl
        exact (show Tryz.prog.wantsStandIn t = false by simpa using List.all_eq_true.1 hall t hm)⟩)
    goesIs
end Go.Proofs.YthhajcnbjiiclaaGreatDoor.nodeLives
namespace Go.Proofs.YthhajcnbjiiclaaGreatDoor
theorem nodeLives_holds : Rows.NodeLivesCardSaid := nodeLives.card
#print axioms nodeLives_holds
end Go.Proofs.YthhajcnbjiiclaaGreatDoor
