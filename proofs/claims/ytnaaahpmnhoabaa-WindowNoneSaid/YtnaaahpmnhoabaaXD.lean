/- A region that draws its order, walked in one order of ours: operations whose value stands in every world that meets 'S' come as early as they can; of the others never more than one is ready. No program in sight. -/
import Derived.OrdersHeld
import Derived.Test.YtnaaahpmnhoabaaXW
set_option linter.unusedVariables false
namespace Go.Proofs.Ytnaaahpmnhoabaa.X
open Go

/-- Is this an order of that kind: (number, does it turn the world). -/
def ordB (ops : Array Oper) : List (Nat × Bool) → Array Bool → Bool
  | [], listed => (Region.ready .any ops listed).isEmpty
  | (i, true) :: s, listed => decide (Region.ready .any ops listed = [i]) && ordB ops s (listed.setIfInBounds i true)
  | (i, false) :: s, listed => (Region.ready .any ops listed).contains i && Region.free .any ops listed i && ordB ops s (listed.setIfInBounds i true)

section
variable {P : Program} {ops : Array Oper} {Q : Exit → Act → World → Prop} {S : World → Prop}

def onlyN (K : Act → World → Prop) : Exit → Act → World → Prop
  | .normal, a, w => K a w
  | _, _, _ => False

def wpO (P : Program) (ops : Array Oper) (Q : Exit → Act → World → Prop) (S : World → Prop) : List (Nat × Bool) → Act → World → Prop
  | [], a, w => Q .normal a w
  | (i, true) :: s, a, w => ∃ o, ops[i]? = some o ∧ wpList P ops (onlyN fun a w => S w ∧ wpO P ops Q S s a w) [o] a w
  | (i, false) :: s, a, w => ∃ o v, ops[i]? = some o ∧ YieldsIf P ops S o v a ∧ wpO P ops Q S s (a.put o.dst v) w

theorem wp_onlyN {o : Oper} {a : Act} {w : World} {K : Act → World → Prop} {Q' : Exit → Act → World → Prop} (hh : o.wp P a w K (onlyN K)) : o.wp P a w K Q' := by
  unfold Oper.wp at *
  generalize (execOp a.eval o).run P w = r at *
  cases r with
  | ok n w' =>
    cases n <;> simp only [Oper.upon] at hh ⊢ <;>
      first
        | exact hh
        | exact Calls.mono hh (fun e w'' he => by cases e <;> first | exact he | exact he.elim | exact (let ⟨_, _, h⟩ := he; h.elim))
  | halt x w' => cases x <;> simp only [Oper.upon] at hh ⊢ <;> first | exact hh | exact hh.elim

theorem wpAnyH_of_O (hs : Region.noSelect ops = true) : ∀ (s : List (Nat × Bool)) (listed : Array Bool) (a : Act) (w : World), ordB ops s listed = true → S w → wpO P ops Q S s a w →
    wpAnyH P .any ops (onlyN fun a w => Q .normal a w) S s.length listed a w
  | [], listed, a, w, hB, _, h => ⟨by simpa [ordB] using hB, h⟩
  | (i, true) :: s, listed, a, w, hB, hS, h => by
    simp only [ordB, Bool.and_eq_true, decide_eq_true_eq] at hB
    obtain ⟨o, ho, h⟩ := h
    refine wpAnyH_all hB.1 (by simp) fun j hj => ?_
    obtain rfl : j = i := by simpa using hj
    unfold wpOp
    simp only [ho]
    simp only [wpList] at h
    split
    · rename_i hw
      rw [if_pos hw] at h
      rcases h with h | ⟨_, a', w', h⟩
      · exact .inl (Oper.wp_mono (fun a' w' (h' : S w' ∧ wpO P ops Q S s a' w') => ⟨h'.1, wpAnyH_of_O hs s _ a' w' hB.2 h'.1 h'.2⟩) (wp_onlyN h))
      · exact h.elim
    · rename_i hw
      rw [if_neg hw] at h
      exact ⟨hS, wpAnyH_of_O hs s _ _ w hB.2 hS h.2⟩
  | (i, false) :: s, listed, a, w, hB, hS, h => by
    simp only [ordB, Bool.and_eq_true] at hB
    obtain ⟨o, v, ho, hy, h⟩ := h
    exact wpAnyH_take ho hs hB.1.2 hB.1.1 (fun _ _ _ h => h) hy hS (wpAnyH_of_O hs s _ _ w hB.2 hS h)
end

section
variable {P : Program} {Q : Exit → Act → World → Prop} {S : World → Prop} {n : Nat} {l : Env} {w0 w : World} {F0 : Foot} {As Rs : List SP} {s : List (Nat × Bool)} {os : List Oper} {o : Oper} {v : Value} {i : Nat}

def WD (P : Program) (os : List Oper) (Q : Exit → Act → World → Prop) (S : World → Prop) (s : List (Nat × Bool)) (n : Nat) (l : Env) (w : World) : Prop := ∀ a, Fits n l a → wpO P os.toArray Q S s a w

theorem c_ord {id : Nat} (s : List (Nat × Bool)) (S : World → Prop) (hm : P.follows .mixedOrders = true) (hB : (Region.noSelect os.toArray && ordB os.toArray s (Array.replicate os.length false) && Nat.beq s.length os.length) = true)
    (hS : ∀ w', Hd w0 F0 w' As Rs → S w') (H : Hd w0 F0 w As Rs) (h : ∀ w', Hd w0 F0 w' As Rs → WD P os Q S s n l w') : WC P (.region id os.toArray true) Q n l w := by
  intro a ha
  simp only [Bool.and_eq_true] at hB
  have H' : Hd w0 F0 { w with drawn := w.drawn + 1 } As Rs := H.drewN 1
  have h1 := wpAnyH_of_O (Q := Q) hB.1.1 s _ a _ (by simpa using hB.1.2) (hS _ H') (h _ H' a ha)
  rw [Nat.eq_of_beq_eq_true hB.2, show os.length = os.toArray.size by simp] at h1
  exact wp_mono (wp_region_held hm (by simpa using h1)) fun e a w h => by
    cases e <;> first | exact h | exact h.elim

theorem d_val (hi : os[i]? = some o) (hg : gd os.toArray l o = some true) (hd : dok n o.dst = true) (hr : ∀ w, S w → Run P n l w o v w) (h : WD P os Q S s n (upO l o.dst v) w) : WD P os Q S ((i, false) :: s) n l w := by
  intro a ha
  exact ⟨o, v, by simpa using hi, .inl ⟨gd_wanted ha hg, fun w hw => hr w hw a ha⟩, h _ (ha.put _ _ hd)⟩
theorem d_no (hi : os[i]? = some o) (hg : gd os.toArray l o = some false) (hd : dok n o.dst = true) (h : WD P os Q S s n (upO l o.dst undef) w) : WD P os Q S ((i, false) :: s) n l w := by
  intro a ha
  exact ⟨o, undef, by simpa using hi, .inr ⟨gd_wanted ha hg, rfl⟩, h _ (ha.put _ _ hd)⟩
theorem d_main (hi : os[i]? = some o) (h : WL P os.toArray (onlyN fun a w => S w ∧ wpO P os.toArray Q S s a w) [o] n l w) : WD P os Q S ((i, true) :: s) n l w := by
  intro a ha
  exact ⟨o, by simpa using hi, h a ha⟩
theorem d_back (hS : S w) (h : WD P os Q S s n l w) : WL P os.toArray (onlyN fun a w => S w ∧ wpO P os.toArray Q S s a w) [] n l w := by
  intro a ha
  exact ⟨hS, h a ha⟩
theorem d_mno (hi : os[i]? = some o) (hS : S w) (hg : gd os.toArray l o = some false) (hd : dok n o.dst = true) (h : WD P os Q S s n (upO l o.dst undef) w) : WD P os Q S ((i, true) :: s) n l w := by
  intro a ha
  refine ⟨o, by simpa using hi, ?_⟩
  simp only [wpList]
  rw [if_neg (by rw [gd_wanted ha hg]; simp)]
  exact ⟨hS, h _ (ha.put _ _ hd)⟩
theorem d_nil (h : WQ Q .normal n l w) : WD P os Q S [] n l w := h
theorem d_boo {d : Nat} {b : Bool} (hc : lk l d = some (.bool b)) (ht : b = true → WD P os Q S s n ((d, .bool true) :: l) w) (hf : b = false → WD P os Q S s n ((d, .bool false) :: l) w) : WD P os Q S s n l w := by
  intro a ha
  cases b
  · refine hf rfl a ⟨ha.defers, ha.size, fun s v hs => ?_⟩
    simp only [lk] at hs
    split at hs
    · rename_i e _
      obtain rfl : Value.bool false = v := by simpa using hs
      subst e
      exact ha.get _ _ hc
    · exact ha.get _ _ hs
  · refine ht rfl a ⟨ha.defers, ha.size, fun s v hs => ?_⟩
    simp only [lk] at hs
    split at hs
    · rename_i e _
      obtain rfl : Value.bool true = v := by simpa using hs
      subst e
      exact ha.get _ _ hc
    · exact ha.get _ _ hs
theorem d_dec {d : Nat} {p : Prop} {_ : Decidable p} (hc : lk l d = some (.bool (decide p))) (ht : p → WD P os Q S s n ((d, .bool true) :: l) w) (hf : ¬ p → WD P os Q S s n ((d, .bool false) :: l) w) : WD P os Q S s n l w :=
  d_boo hc (fun h => ht (of_decide_eq_true h)) (fun h => hf (of_decide_eq_false h))
end
end Go.Proofs.Ytnaaahpmnhoabaa.X
