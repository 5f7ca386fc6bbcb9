/- Programs one behind the other, programs of one jump, in plain words. No program in sight. -/
import Derived.Test.YtlpgdkbokakniaaGreatDoorXProg
set_option linter.unusedVariables false
namespace Go.Proofs.YtlpgdkbokakniaaGreatDoor.X
open Go

theorem badI_neg {xs : List Ins} (h : xs.length ≤ 40) : badI xs < 0 ↔ ∀ p ∈ xs, goodI p xs.length := by
  have e : xs.take 40 = xs := List.take_of_length_le h
  have h2 := fidx_nonneg (badT xs.length) xs
  unfold badI
  rw [e]
  constructor
  · intro hb p hp
    apply Classical.byContradiction
    intro hg
    have h3 : xs.any (badT xs.length) = true := List.any_eq_true.2 ⟨p, hp, by simp [badT, hg]⟩
    rw [h3] at h2
    rw [if_pos (of_decide_eq_true h2)] at hb
    have := of_decide_eq_true h2
    omega
  · intro hg
    have h3 : xs.any (badT xs.length) = false := List.any_eq_false.2 (fun p hp => by simp [badT, hg p hp])
    rw [h3] at h2
    rw [if_neg (of_decide_eq_false h2), if_neg (by omega)]
    omega
theorem badI_at {xs : List Ins} {k : Nat} {x : Ins} (hk : k < 40) (hn : ∀ y ∈ xs.take k, goodI y xs.length) (hx : xs[k]? = some x) (hb : ¬ goodI x xs.length) : badI xs = (k : Int) :=
  badI_hit hk (fun y hy => by simp [badT, hn y hy]) hx hb
/-- Without jumps it is all one how many there are. -/
theorem good_any {p : Ins} {n m : Int} (hj : ¬ (p.op = 19 ∨ p.op = 20)) (h : goodI p n) : goodI p m := by
  unfold goodI at *
  omega
theorem parts_may {a b : List Ins} (ha : a.length ≤ 20) (hb : b.length ≤ 20) (hj : ∀ p ∈ a ++ b, ¬ (p.op = 19 ∨ p.op = 20)) : badI (a ++ b) < 0 ↔ badI a < 0 ∧ badI b < 0 := by
  rw [badI_neg (by simp; omega), badI_neg (by omega), badI_neg (by omega)]
  constructor
  · intro h
    exact ⟨fun p hp => good_any (hj p (List.mem_append_left _ hp)) (h p (List.mem_append_left _ hp)), fun p hp => good_any (hj p (List.mem_append_right _ hp)) (h p (List.mem_append_right _ hp))⟩
  · rintro ⟨h1, h2⟩ p hp
    rcases List.mem_append.1 hp with h | h
    · exact good_any (hj p hp) (h1 p h)
    · exact good_any (hj p hp) (h2 p h)
theorem parts_bad {a b : List Ins} {x : Ins} (ha : a.length ≤ 20) (hj : ∀ p ∈ a, ¬ (p.op = 19 ∨ p.op = 20)) (hx : ¬ (0 ≤ x.op ∧ x.op ≤ 23)) (h : badI a < 0) : badI (a ++ [x] ++ b) = (a.length : Int) := by
  rw [badI_neg (by omega)] at h
  refine badI_at (x := x) (by omega) (fun y hy => ?_) (by simp) (fun hg => hx ⟨hg.1, hg.2.1⟩)
  have : y ∈ a := by simpa using hy
  exact good_any (hj y this) (h y this)
theorem parts_first {a b : List Ins} (ha : a.length ≤ 20) (hj : ∀ p ∈ a, ¬ (p.op = 19 ∨ p.op = 20)) (h : ¬ badI a < 0) : badI (a ++ b) = badI a := by
  have hn : ¬ ∀ p ∈ a, goodI p a.length := fun hg => h ((badI_neg (by omega)).2 hg)
  have hx : ∃ k : Nat, k < a.length ∧ (∀ y ∈ a.take k, goodI y a.length) ∧ ∃ x, a[k]? = some x ∧ ¬ goodI x a.length := by
    apply Classical.byContradiction
    intro hc
    have key : ∀ k : Nat, k ≤ a.length → ∀ y ∈ a.take k, goodI y a.length := by
      intro k
      induction k with
      | zero => intro _ y hy; simp at hy
      | succ k ih =>
        intro hk y hy
        rw [List.take_add_one, List.getElem?_eq_getElem (by omega)] at hy
        rcases List.mem_append.1 hy with hy | hy
        · exact ih (by omega) y hy
        · obtain rfl : y = a[k] := by simpa using hy
          apply Classical.byContradiction
          intro hg
          exact hc ⟨k, by omega, ih (by omega), _, List.getElem?_eq_getElem (by omega), hg⟩
    exact hn (fun p hp => key a.length (Nat.le_refl _) p (by rwa [List.take_of_length_le (Nat.le_refl _)]))
  obtain ⟨k, hk, h1, x, hx, hb⟩ := hx
  have hm : ∀ y ∈ a.take k, y ∈ a := fun y hy => List.mem_of_mem_take hy
  rw [badI_at (by omega) h1 hx hb]
  refine badI_at (x := x) (by omega) (fun y hy => ?_) (by rw [List.getElem?_append_left hk]; exact hx) (fun hg => hb (good_any (hj x (List.mem_of_getElem? hx)) hg))
  rw [List.take_append_of_le_length (by omega)] at hy
  exact good_any (hj y (hm y hy)) (h1 y hy)

/-- A program of rests and one instruction. -/
theorem zero_good (n : Int) : goodI ⟨0, 0, ⟨#[]⟩⟩ n := by
  exact ⟨by dsimp only; omega, by dsimp only; omega, fun _ => rfl, fun h2 => by dsimp only at h2; omega, fun h2 => by dsimp only at h2; omega, fun h2 => by dsimp only at h2; omega, fun _ => ⟨rfl, rfl⟩⟩
theorem rep_bad {m : Nat} (h : 40 < m) : badI (List.replicate m (⟨0, 0, ⟨#[]⟩⟩ : Ins)) = 40 := by
  rw [badI_none (k := 40) (by simp; omega) (fun y hy => ?_), if_pos (by simp; omega)]
  have := List.mem_of_mem_take hy
  rw [List.mem_replicate] at this
  rw [this.2]
  simp [badT, zero_good]
theorem set_mem {n k : Nat} {x y : Ins} (h : y ∈ (List.replicate n (⟨0, 0, ⟨#[]⟩⟩ : Ins)).set k x) : y = ⟨0, 0, ⟨#[]⟩⟩ ∨ y = x := by
  rcases List.mem_or_eq_of_mem_set h with h | h
  · exact .inl (List.mem_replicate.1 h).2
  · exact .inr h
theorem jump_bad {n k : Nat} {op a : Int} (hk : k < n) (hn : n ≤ 40) (ho : op = 19 ∨ op = 20) (h : a < 0 ∨ (n : Int) < a) : badI ((List.replicate n (⟨0, 0, ⟨#[]⟩⟩ : Ins)).set k ⟨op, a, ⟨#[]⟩⟩) = (k : Int) := by
  refine badI_at (x := ⟨op, a, ⟨#[]⟩⟩) (by omega) (fun y hy => ?_) (by rw [List.getElem?_set_self]; simpa using hk) (fun hg => ?_)
  · rw [List.take_set_of_le (Nat.le_refl _)] at hy
    have := List.mem_of_mem_take hy
    rw [(List.mem_replicate.1 this).2]
    exact zero_good _
  · have := hg.2.2.2.2.1 ho
    simp only [List.length_set, List.length_replicate] at this
    omega
theorem jump_may {n k : Nat} {op a : Int} (hk : k < n) (hn : n ≤ 40) (ho : op = 19 ∨ op = 20) (h : 0 ≤ a ∧ a ≤ (n : Int)) : badI ((List.replicate n (⟨0, 0, ⟨#[]⟩⟩ : Ins)).set k ⟨op, a, ⟨#[]⟩⟩) < 0 := by
  rw [badI_neg (by simpa using hn)]
  intro p hp
  simp only [List.length_set, List.length_replicate]
  rcases set_mem hp with rfl | rfl
  · exact zero_good _
  · exact ⟨by dsimp only; omega, by dsimp only; omega, fun _ => rfl, fun h2 => by dsimp only at h2; omega, fun _ => ⟨h.1, h.2, rfl⟩, fun h2 => by dsimp only at h2; omega, fun h2 => by dsimp only at h2; omega⟩
theorem jump_targ {n k : Nat} {op a : Int} (hk : k < n) (hn : n ≤ 40) (ho : op = 19 ∨ op = 20) (h : 0 ≤ a ∧ a ≤ (n : Int)) : targI ((List.replicate n (⟨0, 0, ⟨#[]⟩⟩ : Ins)).set k ⟨op, a, ⟨#[]⟩⟩) = [a] := by
  unfold targI
  rw [if_pos (jump_may hk hn ho h)]
  refine rise_one (compact_rise (sortI_rise _)) (List.pairwise_singleton _ _) fun x => ?_
  rw [compact_mem]
  unfold sortI
  rw [List.mem_mergeSort]
  simp only [List.mem_map, List.mem_filter, List.mem_singleton]
  constructor
  · rintro ⟨p, ⟨hp, hj⟩, rfl⟩
    rcases set_mem hp with rfl | rfl
    · simp [jumpI] at hj
    · rfl
  · rintro rfl
    exact ⟨⟨op, x, ⟨#[]⟩⟩, ⟨List.mem_iff_getElem?.2 ⟨k, by rw [List.getElem?_set_self (by simpa using hk)]⟩, decide_eq_true ho⟩, rfl⟩
theorem take_prop {α : Type} {Q : α → Prop} {xs : List α} {k : Nat} {x : α} (hn : ∀ y ∈ xs.take k, Q y) (hx : xs[k]? = some x) (h : Q x) : ∀ y ∈ xs.take (k + 1), Q y := by
  intro y hy
  rw [List.take_add_one, hx] at hy
  rcases List.mem_append.1 hy with hy | hy
  · exact hn y hy
  · obtain rfl : y = x := by simpa using hy
    exact h
theorem targ_nil {xs : List Ins} (h : ¬ badI xs < 0) : targI xs = [] := if_neg h
end Go.Proofs.YtlpgdkbokakniaaGreatDoor.X
