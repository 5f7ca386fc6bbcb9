/- What a window's calls answer, in plain numbers. No program in sight. -/
import Derived.Test.YtnaaahpmnhoabaaXL3
import Derived.Test.YtnaaahpmnhoabaaXR
set_option linter.unusedVariables false
namespace Go.Proofs.Ytnaaahpmnhoabaa.X
open Go

def ackN (c n : Int) : Int := min (max n 0) c
def ackB (c e x ep n : Int) : Bool := decide (max e 1 ≤ ep ∧ ¬ (ep = e ∧ ackN c n ≤ x))
def ackE (c e x ep n : Int) : Int := if ackB c e x ep n = true then ep else e
def ackX (c e x ep n : Int) : Int := if ackB c e x ep n = true then ackN c n else x
theorem ack_yes {c e x ep n : Int} (h : max e 1 ≤ ep ∧ ¬ (ep = e ∧ ackN c n ≤ x)) : ackB c e x ep n = true ∧ ackE c e x ep n = ep ∧ ackX c e x ep n = ackN c n := by
  have hb : ackB c e x ep n = true := decide_eq_true h
  exact ⟨hb, if_pos hb, if_pos hb⟩
theorem ack_no {c e x ep n : Int} (h : ¬ (max e 1 ≤ ep ∧ ¬ (ep = e ∧ ackN c n ≤ x))) : ackB c e x ep n = false ∧ ackE c e x ep n = e ∧ ackX c e x ep n = x := by
  have hb : ackB c e x ep n = false := decide_eq_false h
  exact ⟨hb, if_neg (by rw [hb]; decide), if_neg (by rw [hb]; decide)⟩
theorem ackB_iff {c e x ep n : Int} : ackB c e x ep n = true ↔ (max e 1 ≤ ep ∧ ¬ (ep = e ∧ ackN c n ≤ x)) := decide_eq_true_iff
/-- What a window's numbers keep to. -/
theorem ack_in {c e x ep n : Int} (hc : 0 ≤ c) (hx : 0 ≤ x ∧ x ≤ c) (he : 0 ≤ e) (h1 : e ≤ 9223372036854775807) (h2 : In64 ep) :
    (0 ≤ ackX c e x ep n ∧ ackX c e x ep n ≤ c) ∧ 0 ≤ ackE c e x ep n ∧ ackE c e x ep n ≤ 9223372036854775807 := by
  unfold In64 at h2
  by_cases h : max e 1 ≤ ep ∧ ¬ (ep = e ∧ ackN c n ≤ x)
  · obtain ⟨_, a, b⟩ := ack_yes h
    rw [a, b]
    unfold ackN at *
    omega
  · obtain ⟨_, a, b⟩ := ack_no h
    rw [a, b]
    omega
theorem ack_up {c e x ep n : Int} : e ≤ ackE c e x ep n ∧ (ackE c e x ep n = e → x ≤ ackX c e x ep n) := by
  by_cases h : max e 1 ≤ ep ∧ ¬ (ep = e ∧ ackN c n ≤ x)
  · obtain ⟨_, a, b⟩ := ack_yes h
    rw [a, b]
    omega
  · obtain ⟨_, a, b⟩ := ack_no h
    rw [a, b]
    omega

theorem low_in (x : Int) {n : Int} (h : 0 < n) : 0 ≤ IntKind.u64.wrap x % n ∧ IntKind.u64.wrap x % n < n :=
  ⟨Int.emod_nonneg _ (by omega), Int.emod_lt_of_pos _ h⟩

/-- The k numbers from x. -/
def upL (x : Int) (k : Nat) : List Int := (List.range k).map fun (i : Nat) => x + (i : Int)
theorem upL_len (x : Int) (k : Nat) : (upL x k).length = k := by simp [upL]
theorem upL_zero (x : Int) : upL x 0 = [] := rfl
theorem upL_succ (x : Int) (k : Nat) : upL x (k + 1) = upL x k ++ [x + (k : Int)] := by simp [upL, List.range_succ]
theorem upL_get {x y : Int} {k i : Nat} (h : (upL x k)[i]? = some y) : y = x + (i : Int) := by
  simp only [upL, List.getElem?_map] at h
  rcases Option.map_eq_some_iff.1 h with ⟨j, hj, rfl⟩
  have := List.getElem?_eq_some_iff.1 hj
  obtain ⟨h1, h2⟩ := this
  simp at h2
  rw [← h2]
/-- The chunks that are open. -/
def openL (c s x : Int) : List Int := upL x (min s (c - x)).toNat
theorem openL_len (c s x : Int) : (openL c s x).length = (min s (c - x)).toNat := upL_len _ _
end Go.Proofs.Ytnaaahpmnhoabaa.X
