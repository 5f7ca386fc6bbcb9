/- A region that draws its order, walked in one order of ours: operations whose value stands in every world that meets 'S' come as early as they can; of the others never more than one is ready. No program in sight. -/
import Derived.OrdersHeld
import Derived.Test.YtlpgdkbokakniaaGreatDoorXW
set_option linter.unusedVariables false
namespace Go.Proofs.YtlpgdkbokakniaaGreatDoor.X
open Go

/-- An order, step by step: an operation whose value stands (e); one that may turn the world (m); two that only look at it (p); either of two comes first (b). -/
inductive Stp
  | z
  | e (i : Nat) (s : Stp)
  | m (i : Nat) (s : Stp)
  | p (i j : Nat) (s : Stp)
  | b (i j : Nat) (s t : Stp)
def stps : Stp → Nat
  | .z => 0
  | .e _ s => stps s + 1
  | .m _ s => stps s + 1
  | .p _ _ s => stps s + 2
  | .b _ _ s _ => stps s + 1
/-- Is this an order of that kind. -/
def ordB (ops : Array Oper) : Stp → Array Bool → Bool
  | .z, listed => (Region.ready .any ops listed).isEmpty
  | .m i s, listed => decide (Region.ready .any ops listed = [i]) && ordB ops s (listed.setIfInBounds i true)
  | .e i s, listed => (Region.ready .any ops listed).contains i && Region.free .any ops listed i && ordB ops s (listed.setIfInBounds i true)
  | .p i j s, listed => decide (Region.ready .any ops listed = [i, j]) && decide (Region.ready .any ops (listed.setIfInBounds i true) = [j]) && decide (Region.ready .any ops (listed.setIfInBounds j true) = [i]) && Nat.blt i j && ordB ops s ((listed.setIfInBounds i true).setIfInBounds j true)
  | .b i j s t, listed => decide (Region.ready .any ops listed = [i, j]) && Nat.beq (stps s) (stps t) && ordB ops s (listed.setIfInBounds i true) && ordB ops t (listed.setIfInBounds j true)

section
variable {P : Program} {ops : Array Oper} {Q : Exit → Act → World → Prop} {S : World → Prop}

def onlyN (K : Act → World → Prop) : Exit → Act → World → Prop
  | .normal, a, w => K a w
  | _, _, _ => False

def wpO (P : Program) (ops : Array Oper) (Q : Exit → Act → World → Prop) (S : World → Prop) : Stp → Act → World → Prop
  | .z, a, w => Q .normal a w
  | .p i j s, a, w => ∃ oi oj vi vj, ops[i]? = some oi ∧ ops[j]? = some oj ∧ (∀ a', (a' = a ∨ a' = a.put oj.dst vj) → Region.wanted oi (yielded ops a'.tmps) = true ∧ (execOp a'.eval oi).run P w = .ok (.value vi) w) ∧
      (∀ a', (a' = a ∨ a' = a.put oi.dst vi) → Region.wanted oj (yielded ops a'.tmps) = true ∧ (execOp a'.eval oj).run P w = .ok (.value vj) w) ∧ wpO P ops Q S s ((a.put oi.dst vi).put oj.dst vj) w ∧ wpO P ops Q S s ((a.put oj.dst vj).put oi.dst vi) w
  | .b i j s t, a, w => (∃ o, ops[i]? = some o ∧ wpList P ops (onlyN fun a w => S w ∧ wpO P ops Q S s a w) [o] a w) ∧ ∃ o, ops[j]? = some o ∧ wpList P ops (onlyN fun a w => S w ∧ wpO P ops Q S t a w) [o] a w
  | .m i s, a, w => ∃ o, ops[i]? = some o ∧ wpList P ops (onlyN fun a w => S w ∧ wpO P ops Q S s a w) [o] a w
  | .e i s, a, w => ∃ o v, ops[i]? = some o ∧ YieldsIf P ops S o v a ∧ wpO P ops Q S s (a.put o.dst v) w

theorem wp_onlyN {o : Oper} {a : Act} {w : World} {K : Act → World → Prop} {Q' : Exit → Act → World → Prop} (hh : o.wp P a w K (onlyN K)) : o.wp P a w K Q' := by
  unfold Oper.wp at *
  generalize (execOp a.eval o).run P w = r at *
  cases r with
  | ok n w' =>
    cases n <;> simp only [Oper.upon] at hh ⊢ <;>
      first
        | exact hh
        | exact Calls.mono hh (fun e w'' he => by cases e <;> first | exact he | exact he.elim | exact (let ⟨_, _, h⟩ := he; h.elim))
  | halt x w' => cases x <;> simp only [Oper.upon] at hh ⊢ <;> first | exact hh | exact hh.elim

/-- One that may turn the world, carried out. -/
theorem wpOp_one {i : Nat} {o : Oper} {a : Act} {w : World} {K K2 : Act → World → Prop} (ho : ops[i]? = some o) (hS : S w) (h : wpList P ops (onlyN fun a w => S w ∧ K a w) [o] a w) (hk : ∀ a' w', S w' → K a' w' → K2 a' w') :
    wpOp P ops (onlyN fun a w => Q .normal a w) i (fun a' w' => S w' ∧ K2 a' w') a w := by
  unfold wpOp
  simp only [ho]
  simp only [wpList] at h
  split
  · rename_i hw
    rw [if_pos hw] at h
    rcases h with h | ⟨_, a', w', h⟩
    · exact .inl (Oper.wp_mono (fun a' w' (h' : S w' ∧ K a' w') => ⟨h'.1, hk a' w' h'.1 h'.2⟩) (wp_onlyN h))
    · exact h.elim
  · rename_i hw
    rw [if_neg hw] at h
    exact ⟨h.1, hk _ w h.1 h.2⟩

theorem wpAnyH_of_O (hs : Region.noSelect ops = true) : ∀ (s : Stp) (listed : Array Bool) (a : Act) (w : World), ordB ops s listed = true → S w → wpO P ops Q S s a w →
    wpAnyH P .any ops (onlyN fun a w => Q .normal a w) S (stps s) listed a w
  | .z, listed, a, w, hB, _, h => ⟨by simpa [ordB] using hB, h⟩
  | .b i j s t, listed, a, w, hB, hS, h => by
    simp only [ordB, Bool.and_eq_true, decide_eq_true_eq] at hB
    obtain ⟨⟨⟨b1, b2⟩, b3⟩, b4⟩ := hB
    have b2 : stps s = stps t := Nat.eq_of_beq_eq_true b2
    obtain ⟨⟨oi, hi, h1⟩, oj, hj, h2⟩ := h
    refine wpAnyH_all b1 (by simp) fun q hq => ?_
    simp only [List.mem_cons, List.not_mem_nil, or_false] at hq
    rcases hq with rfl | rfl
    · exact wpOp_one hi hS h1 fun a' w' hS' h' => wpAnyH_of_O hs s _ a' w' b3 hS' h'
    · refine wpOp_one hj hS h2 fun a' w' hS' h' => ?_
      have := wpAnyH_of_O hs t _ a' w' b4 hS' h'
      rwa [← b2] at this
  | .m i s, listed, a, w, hB, hS, h => by
    simp only [ordB, Bool.and_eq_true, decide_eq_true_eq] at hB
    obtain ⟨o, ho, h⟩ := h
    refine wpAnyH_all hB.1 (by simp) fun j hj => ?_
    obtain rfl : j = i := by simpa using hj
    exact wpOp_one ho hS h fun a' w' hS' h' => wpAnyH_of_O hs s _ a' w' hB.2 hS' h'
  | .p i j s, listed, a, w, hB, hS, h => by
    simp only [ordB, Bool.and_eq_true, decide_eq_true_eq] at hB
    obtain ⟨⟨⟨⟨b1, b2⟩, b3⟩, b4⟩, b5⟩ := hB
    obtain ⟨oi, oj, vi, vj, hi, hj, ri, rj, k1, k2⟩ := h
    have hij : j ≠ i := by
      have : i + 1 ≤ j := by simpa [Nat.blt] using b4
      omega
    have one : ∀ (k : Nat) (o : Oper) (v : Value) (a : Act) (K : Act → World → Prop), ops[k]? = some o → Region.wanted o (yielded ops a.tmps) = true → (execOp a.eval o).run P w = .ok (.value v) w → K (a.put o.dst v) w → wpOp P ops (onlyN fun a w => Q .normal a w) k K a w := by
      intro k o v a K hk hw hr hK
      unfold wpOp
      simp only [hk, hw, if_true, Oper.wp, hr, Oper.upon]
      exact .inl hK
    refine wpAnyH_all b1 (by simp) fun q hq => ?_
    simp only [List.mem_cons, List.not_mem_nil, or_false] at hq
    rcases hq with rfl | rfl
    · obtain ⟨w1, e1⟩ := ri a (.inl rfl)
      obtain ⟨w2, e2⟩ := rj _ (.inr rfl)
      refine one _ _ _ _ _ hi w1 e1 ⟨hS, wpAnyH_all b2 (by simp) fun r hr => ?_⟩
      obtain rfl : r = j := by simpa using hr
      exact one _ _ _ _ _ hj w2 e2 ⟨hS, wpAnyH_of_O hs s _ _ w b5 hS k1⟩
    · obtain ⟨w1, e1⟩ := rj a (.inl rfl)
      obtain ⟨w2, e2⟩ := ri _ (.inr rfl)
      refine one _ _ _ _ _ hj w1 e1 ⟨hS, wpAnyH_all b3 (by simp) fun r hr => ?_⟩
      obtain rfl : r = i := by simpa using hr
      refine one _ _ _ _ _ hi w2 e2 ⟨hS, ?_⟩
      rw [Array.setIfInBounds_comm _ _ hij]
      exact wpAnyH_of_O hs s _ _ w b5 hS k2
  | .e i s, listed, a, w, hB, hS, h => by
    simp only [ordB, Bool.and_eq_true] at hB
    obtain ⟨o, v, ho, hy, h⟩ := h
    exact wpAnyH_take ho hs hB.1.2 hB.1.1 (fun _ _ _ h => h) hy hS (wpAnyH_of_O hs s _ _ w hB.2 hS h)
end

section
variable {P : Program} {Q : Exit → Act → World → Prop} {S : World → Prop} {n : Nat} {l : Env} {w0 w : World} {F0 : Foot} {As Rs : List SP} {s t : Stp} {os : List Oper} {o : Oper} {v : Value} {i : Nat}

def WD (P : Program) (os : List Oper) (Q : Exit → Act → World → Prop) (S : World → Prop) (s : Stp) (n : Nat) (l : Env) (w : World) : Prop := ∀ a, Fits n l a → wpO P os.toArray Q S s a w

theorem c_ord {id : Nat} (s : Stp) (S : World → Prop) (hm : P.follows .mixedOrders = true) (hB : (Region.noSelect os.toArray && ordB os.toArray s (Array.replicate os.length false) && Nat.beq (stps s) os.length) = true)
    (hS : ∀ w', Hd w0 F0 w' As Rs → S w') (H : Hd w0 F0 w As Rs) (h : ∀ w', Hd w0 F0 w' As Rs → WD P os Q S s n l w') : WC P (.region id os.toArray true) Q n l w := by
  intro a ha
  simp only [Bool.and_eq_true] at hB
  have H' : Hd w0 F0 { w with drawn := w.drawn + 1 } As Rs := H.drewN 1
  have h1 := wpAnyH_of_O (Q := Q) hB.1.1 s _ a _ (by simpa using hB.1.2) (hS _ H') (h _ H' a ha)
  rw [Nat.eq_of_beq_eq_true hB.2, show os.length = os.toArray.size by simp] at h1
  exact wp_mono (wp_region_held hm (by simpa using h1)) fun e a w h => by
    cases e <;> first | exact h | exact h.elim

theorem d_val (hi : os[i]? = some o) (hg : gd os.toArray l o = some true) (hd : dok n o.dst = true) (hr : ∀ w, S w → Run P n l w o v w) (h : WD P os Q S s n (upO l o.dst v) w) : WD P os Q S (.e i s) n l w := by
  intro a ha
  exact ⟨o, v, by simpa using hi, .inl ⟨gd_wanted ha hg, fun w hw => hr w hw a ha⟩, h _ (ha.put _ _ hd)⟩
theorem d_no (hi : os[i]? = some o) (hg : gd os.toArray l o = some false) (hd : dok n o.dst = true) (h : WD P os Q S s n (upO l o.dst undef) w) : WD P os Q S (.e i s) n l w := by
  intro a ha
  exact ⟨o, undef, by simpa using hi, .inr ⟨gd_wanted ha hg, rfl⟩, h _ (ha.put _ _ hd)⟩
theorem d_main (hi : os[i]? = some o) (h : WL P os.toArray (onlyN fun a w => S w ∧ wpO P os.toArray Q S s a w) [o] n l w) : WD P os Q S (.m i s) n l w := by
  intro a ha
  exact ⟨o, by simpa using hi, h a ha⟩
theorem d_both {oi oj : Oper} {j : Nat} (hi : os[i]? = some oi) (hj : os[j]? = some oj) (h1 : WL P os.toArray (onlyN fun a w => S w ∧ wpO P os.toArray Q S s a w) [oi] n l w)
    (h2 : WL P os.toArray (onlyN fun a w => S w ∧ wpO P os.toArray Q S t a w) [oj] n l w) : WD P os Q S (.b i j s t) n l w := by
  intro a ha
  exact ⟨⟨oi, by simpa using hi, h1 a ha⟩, oj, by simpa using hj, h2 a ha⟩
theorem d_back (hS : S w) (h : WD P os Q S s n l w) : WL P os.toArray (onlyN fun a w => S w ∧ wpO P os.toArray Q S s a w) [] n l w := by
  intro a ha
  exact ⟨hS, h a ha⟩
theorem d_mno (hi : os[i]? = some o) (hS : S w) (hg : gd os.toArray l o = some false) (hd : dok n o.dst = true) (h : WD P os Q S s n (upO l o.dst undef) w) : WD P os Q S (.m i s) n l w := by
  intro a ha
  refine ⟨o, by simpa using hi, ?_⟩
  simp only [wpList]
  rw [if_neg (by rw [gd_wanted ha hg]; simp)]
  exact ⟨hS, h _ (ha.put _ _ hd)⟩
theorem lk_upO_ne {d : Option Tmp} {u : Value} {l : Env} {s : Nat} (h : d ≠ some s) : lk (upO l d u) s = lk l s := by
  cases d with
  | none => rfl
  | some d =>
    simp only [upO, lk]
    split
    · rename_i e _
      exact absurd (congrArg some e) h
    · rfl
theorem lk_upO_eq {u : Value} {l : Env} {s : Nat} : lk (upO l (some s) u) s = some u := by
  simp only [upO, lk]
  split
  · rfl
  · rename_i e _
    exact absurd rfl e
def nolk (l : Env) : Option Tmp → Bool
  | some d => (lk l d).isNone
  | none => true
theorem fits_old {a : Act} {d : Option Tmp} {u : Value} (ha : Fits n l a) (hd : dok n d = true) (hn : nolk l d = true) : Fits n l (a.put d u) := by
  refine (ha.put d u hd).sub fun s v hs => ?_
  rw [lk_upO_ne ?_, hs]
  rintro rfl
  simp [nolk, hs] at hn
/-- Two that only look at the world, and neither at the other's slot. -/
theorem d_pair {oi oj : Oper} {vi vj : Value} {j : Nat} (hi : os[i]? = some oi) (hj : os[j]? = some oj) (gi : gd os.toArray l oi = some true) (gj : gd os.toArray l oj = some true) (di : dok n oi.dst = true) (dj : dok n oj.dst = true)
    (ni : nolk l oi.dst = true) (nj : nolk l oj.dst = true) (hij : oi.dst ≠ oj.dst) (ri : Run P n l w oi vi w) (rj : Run P n l w oj vj w) (h : WD P os Q S s n (upO (upO l oi.dst vi) oj.dst vj) w) : WD P os Q S (.p i j s) n l w := by
  intro a ha
  have f1 := fits_old (u := vi) ha di ni
  have f2 := fits_old (u := vj) ha dj nj
  refine ⟨oi, oj, vi, vj, by simpa using hi, by simpa using hj, ?_, ?_, h _ ((ha.put _ _ di).put _ _ dj), h _ (((ha.put _ _ dj).put _ _ di).sub fun s v hs => ?_)⟩
  · rintro a' (rfl | rfl)
    · exact ⟨gd_wanted ha gi, ri _ ha⟩
    · exact ⟨gd_wanted f2 gi, ri _ f2⟩
  · rintro a' (rfl | rfl)
    · exact ⟨gd_wanted ha gj, rj _ ha⟩
    · exact ⟨gd_wanted f1 gj, rj _ f1⟩
  · by_cases e1 : oj.dst = some s
    · rw [lk_upO_ne (by rw [← e1]; exact hij)]
      rw [e1, lk_upO_eq] at hs
      rw [e1, lk_upO_eq]
      exact hs
    · rw [lk_upO_ne e1] at hs
      by_cases e2 : oi.dst = some s
      · rw [e2, lk_upO_eq] at hs
        rw [e2, lk_upO_eq]
        exact hs
      · rw [lk_upO_ne e2] at hs ⊢
        rw [lk_upO_ne e1]
        exact hs
theorem d_nil (h : WQ Q .normal n l w) : WD P os Q S .z n l w := h
theorem d_boo {d : Nat} {b : Bool} (hc : lk l d = some (.bool b)) (ht : b = true → WD P os Q S s n ((d, .bool true) :: l) w) (hf : b = false → WD P os Q S s n ((d, .bool false) :: l) w) : WD P os Q S s n l w := by
  intro a ha
  cases b
  · refine hf rfl a ⟨ha.defers, ha.size, fun s v hs => ?_⟩
    simp only [lk] at hs
    split at hs
    · rename_i e _
      obtain rfl : Value.bool false = v := by simpa using hs
      subst e
      exact ha.get _ _ hc
    · exact ha.get _ _ hs
  · refine ht rfl a ⟨ha.defers, ha.size, fun s v hs => ?_⟩
    simp only [lk] at hs
    split at hs
    · rename_i e _
      obtain rfl : Value.bool true = v := by simpa using hs
      subst e
      exact ha.get _ _ hc
    · exact ha.get _ _ hs
theorem d_dec {d : Nat} {p : Prop} {_ : Decidable p} (hc : lk l d = some (.bool (decide p))) (ht : p → WD P os Q S s n ((d, .bool true) :: l) w) (hf : ¬ p → WD P os Q S s n ((d, .bool false) :: l) w) : WD P os Q S s n l w :=
  d_boo hc (fun h => ht (of_decide_eq_true h)) (fun h => hf (of_decide_eq_false h))
end
end Go.Proofs.YtlpgdkbokakniaaGreatDoor.X
