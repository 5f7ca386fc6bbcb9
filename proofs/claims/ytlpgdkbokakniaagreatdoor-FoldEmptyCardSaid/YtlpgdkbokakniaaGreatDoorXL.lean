/- Plain lists. No program in sight. -/
set_option linter.unusedVariables false
namespace Go.Proofs.YtlpgdkbokakniaaGreatDoor.X

/-- The first place where p holds, or -1. -/
def fidx {α : Type} (p : α → Bool) (xs : List α) : Int := match xs.findIdx? p with | some i => (i : Int) | none => -1
theorem fidx_hit {α : Type} {p : α → Bool} {xs : List α} {k : Nat} {x : α} (h : ∀ y ∈ xs.take k, p y = false) (hx : xs[k]? = some x) (hp : p x = true) : fidx p xs = (k : Int) := by
  have : xs.findIdx? p = some k := by
    rw [List.findIdx?_eq_some_iff_getElem]
    have hlt : k < xs.length := by
      rcases Nat.lt_or_ge k xs.length with h' | h'
      · exact h'
      · simp [List.getElem?_eq_none h'] at hx
    refine ⟨hlt, by rw [List.getElem?_eq_getElem hlt] at hx; rw [Option.some.inj hx]; exact hp, fun j hj => ?_⟩
    have := h xs[j] (by rw [List.mem_take_iff_getElem]; exact ⟨j, by omega, rfl⟩)
    simp [this]
  simp [fidx, this]
theorem fidx_miss {α : Type} {p : α → Bool} {xs : List α} (h : ∀ y ∈ xs, p y = false) : fidx p xs = -1 := by
  have : xs.findIdx? p = none := by
    rw [List.findIdx?_eq_none_iff]
    exact h
  simp [fidx, this]
theorem fidx_nonneg {α : Type} (p : α → Bool) (xs : List α) : decide (0 ≤ fidx p xs) = xs.any p := by
  by_cases h : ∃ y ∈ xs, p y = true
  · have h1 : xs.any p = true := by simpa using h
    rw [h1, decide_eq_true_eq]
    unfold fidx
    cases hf : xs.findIdx? p with
    | none =>
      rw [List.findIdx?_eq_none_iff] at hf
      obtain ⟨y, hy, hp⟩ := h
      rw [hf y hy] at hp
      cases hp
    | some i => simp
  · have h' : ∀ y ∈ xs, p y = false := fun y hy => by
      cases hp : p y with
      | false => rfl
      | true => exact (h ⟨y, hy, hp⟩).elim
    rw [fidx_miss h']
    have h1 : xs.any p = false := by
      rw [List.any_eq_false]
      intro y hy
      simp [h' y hy]
    rw [h1]
    decide
theorem take_false {α : Type} {p : α → Bool} {xs : List α} {k : Nat} {x : α} (h : ∀ y ∈ xs.take k, p y = false) (hx : xs[k]? = some x) (hp : p x = false) : ∀ y ∈ xs.take (k + 1), p y = false := by
  intro y hy
  rw [List.take_add_one, hx] at hy
  simp at hy
  exact hy.elim (h y) (fun e => e ▸ hp)

/-- How many of them p holds of. -/
def cnt {α : Type} (p : α → Bool) (xs : List α) : Nat := (xs.filter p).length
theorem cnt_snoc {α : Type} (p : α → Bool) (xs : List α) (x : α) : cnt p (xs ++ [x]) = cnt p xs + if p x then 1 else 0 := by
  unfold cnt
  rw [List.filter_append]
  by_cases h : p x <;> simp [h]
theorem cnt_le {α : Type} (p : α → Bool) (xs : List α) : cnt p xs ≤ xs.length := List.length_filter_le p xs
theorem len_take {α : Type} {xs : List α} {k : Nat} (h : k ≤ xs.length) : (xs.take k).length = k := by simp; omega
theorem all_take {α : Type} {p : α → Bool} {xs : List α} {k : Nat} {x : α} (h : ∀ y ∈ xs.take k, p y = true) (hx : xs[k]? = some x) (hp : p x = true) : ∀ y ∈ xs.take (k + 1), p y = true := by
  intro y hy
  rw [List.take_add_one, hx] at hy
  simp at hy
  exact hy.elim (h y) (fun e => e ▸ hp)
theorem cnt_take {α : Type} {p : α → Bool} {xs : List α} {k : Nat} {x : α} (hx : xs[k]? = some x) : cnt p (xs.take (k + 1)) = cnt p (xs.take k) + if p x then 1 else 0 := by
  rw [List.take_add_one, hx, ← cnt_snoc]
  rfl
theorem mem_of_some {α : Type} {xs : List α} {k : Nat} {x : α} (hx : xs[k]? = some x) : x ∈ xs := List.mem_of_getElem? hx
end Go.Proofs.YtlpgdkbokakniaaGreatDoor.X
