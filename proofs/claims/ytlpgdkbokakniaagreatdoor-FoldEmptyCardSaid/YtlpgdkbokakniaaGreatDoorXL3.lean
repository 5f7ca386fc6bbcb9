/- Plain lists: what a statement on snapshots needs. No program in sight. -/
import Derived.Test.YtlpgdkbokakniaaGreatDoorXL
set_option linter.unusedVariables false
namespace Go.Proofs.YtlpgdkbokakniaaGreatDoor.X

/-- The first i are unlike one another. -/
def Distinct (xs : List Int) (i : Nat) : Prop := ∀ a b, a < b → b < i → xs[a]? ≠ xs[b]?
theorem distinct_zero (xs : List Int) : Distinct xs 0 := fun a b _ h => by omega
theorem distinct_succ {xs : List Int} {i : Nat} (h : Distinct xs i) (hn : ∀ j, j < i → xs[j]? ≠ xs[i]?) : Distinct xs (i + 1) := by
  intro a b hab hb
  by_cases e : b = i
  · subst e; exact hn a hab
  · exact h a b hab (by omega)
theorem rises_inner {xs : List Int} {k i : Nat} {x y : Int} (h : ∀ j, j < k → xs[j]? ≠ xs[i]?) (hx : xs[k]? = some x) (hy : xs[i]? = some y) (hn : ¬ x = y) : ∀ j, j < k + 1 → xs[j]? ≠ xs[i]? := by
  intro j hj
  by_cases e : j = k
  · subst e
    rw [hx, hy]
    simpa using hn
  · exact h j (by omega)
theorem distinct_nodup {xs : List Int} (h : Distinct xs xs.length) : xs.Nodup := by
  rw [List.Nodup, List.pairwise_iff_getElem]
  intro i j hi hj hij e
  exact h i j hij hj (by rw [List.getElem?_eq_getElem hi, List.getElem?_eq_getElem hj, e])
theorem cnt_eq (xs : List Int) (n : Int) : cnt (fun m => decide (m ≤ n + 1)) xs = cnt (fun m => decide (m ≤ n)) xs + xs.count (n + 1) := by
  unfold cnt
  induction xs with
  | nil => rfl
  | cons x xs ih =>
    rw [List.filter_cons, List.filter_cons, List.count_cons]
    by_cases h1 : x ≤ n
    · have h2 : x ≤ n + 1 := by omega
      have h3 : ¬ x = n + 1 := by omega
      simp [h1, h2, h3, ih]
      omega
    · by_cases h2 : x = n + 1
      · have h3 : x ≤ n + 1 := by omega
        have h4 : ¬ n + 1 ≤ n := by omega
        subst h2
        simp [h4, ih]
        omega
      · have h3 : ¬ x ≤ n + 1 := by omega
        simp [h1, h2, h3, ih]
theorem rises_count {xs : List Int} (h : Distinct xs xs.length) (n : Int) :
    (cnt (fun m => decide (m ≤ n + 1)) xs = cnt (fun m => decide (m ≤ n)) xs + 1 ∧ n + 1 ∈ xs) ∨ (cnt (fun m => decide (m ≤ n + 1)) xs = cnt (fun m => decide (m ≤ n)) xs ∧ ¬ n + 1 ∈ xs) := by
  rw [cnt_eq]
  have h1 : xs.count (n + 1) ≤ 1 := List.nodup_iff_count.1 (distinct_nodup h) (n + 1)
  by_cases hm : n + 1 ∈ xs
  · have := List.count_pos_iff.2 hm
    exact .inl ⟨by omega, hm⟩
  · have := List.count_eq_zero.2 hm
    exact .inr ⟨by omega, hm⟩
end Go.Proofs.YtlpgdkbokakniaaGreatDoor.X
