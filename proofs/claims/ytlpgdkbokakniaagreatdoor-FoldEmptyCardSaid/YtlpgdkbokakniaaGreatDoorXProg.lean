/- Which programs may be, and where jumps go to, in plain words. No program in sight. -/
import Derived.Test.YtlpgdkbokakniaaGreatDoorXL3
import Derived.Test.YtlpgdkbokakniaaGreatDoorXU
set_option linter.unusedVariables false
namespace Go.Proofs.YtlpgdkbokakniaaGreatDoor.X
open Go

theorem nil_size {s : ByteArray} : s = (⟨#[]⟩ : ByteArray) ↔ s.size = 0 := by
  constructor
  · rintro rfl; rfl
  · intro h
    have : s.data = #[] := Array.eq_empty_of_size_eq_zero h
    cases s
    simp at this
    subst this
    rfl
theorem quo2 (n : Nat) (h : n ≤ 9223372036854775807) : IntKind.i64.wrap (((n : Nat) : Int).tdiv 2) = ((n / 2 : Nat) : Int) := by
  rw [Int.tdiv_eq_ediv_of_nonneg (by omega), w64 (by omega) (by omega)]
  omega
def goodI (p : Ins) (n : Int) : Prop := 0 ≤ p.op ∧ p.op ≤ 23 ∧ (p.op = 1 → p.s.size = 0) ∧ (p.op = 2 → p.a = 0 ∧ p.s.size ≤ 64) ∧ (p.op = 19 ∨ p.op = 20 → 0 ≤ p.a ∧ p.a ≤ n ∧ p.s.size = 0) ∧
  (p.op = 21 ∨ p.op = 22 → 0 ≤ p.a ∧ p.a ≤ 7 ∧ p.s.size = 0) ∧ (¬ (p.op = 1 ∨ p.op = 2 ∨ p.op = 19 ∨ p.op = 20 ∨ p.op = 21 ∨ p.op = 22) → p.a = 0 ∧ p.s.size = 0)
instance (p : Ins) (n : Int) : Decidable (goodI p n) := by unfold goodI; infer_instance
def badT (n : Int) : Ins → Bool := fun p => !decide (goodI p n)
def badI (xs : List Ins) : Int := if 0 ≤ fidx (badT xs.length) (xs.take 40) then fidx (badT xs.length) (xs.take 40) else if (40 : Int) < xs.length then 40 else -1
theorem badI_hit {xs : List Ins} {k : Nat} {x : Ins} (hk : k < 40) (hn : ∀ y ∈ xs.take k, badT xs.length y = false) (hx : xs[k]? = some x) (hb : ¬ goodI x xs.length) : badI xs = (k : Int) := by
  have : fidx (badT xs.length) (xs.take 40) = (k : Int) := fidx_hit (k := k) (by rw [List.take_take, Nat.min_eq_left (by omega)]; exact hn) (by rw [List.getElem?_take, if_pos hk]; exact hx) (by simp [badT, hb])
  unfold badI
  rw [this, if_pos (by omega)]
theorem badI_none {xs : List Ins} {k : Nat} (hk : k = min xs.length 40) (hn : ∀ y ∈ xs.take k, badT xs.length y = false) : badI xs = if (40 : Int) < xs.length then 40 else -1 := by
  have : fidx (badT xs.length) (xs.take 40) = -1 := fidx_miss (by
    intro y hy
    refine hn y ?_
    rw [hk]
    rcases Nat.le_total xs.length 40 with h | h
    · rw [Nat.min_eq_left h, List.take_of_length_le (Nat.le_refl _)]
      rwa [List.take_of_length_le h] at hy
    · rwa [Nat.min_eq_right h])
  unfold badI
  rw [this, if_neg (by omega)]
theorem badT_good {xs : List Ins} {k : Nat} {x : Ins} (hn : ∀ y ∈ xs.take k, badT xs.length y = false) (hx : xs[k]? = some x) (hb : goodI x xs.length) : ∀ y ∈ xs.take (k + 1), badT xs.length y = false :=
  take_false hn hx (by simp [badT, hb])
def jumpI (p : Ins) : Bool := decide (p.op = 19 ∨ p.op = 20)
def targI (xs : List Ins) : List Int := if badI xs < 0 then Lib.compact (sortI ((xs.filter jumpI).map (·.a))) else []
def jlI (xs : List Ins) (k : Nat) : List Int := ((xs.take k).filter jumpI).map (·.a)
theorem jl_yes {xs : List Ins} {k : Nat} {x : Ins} (hx : xs[k]? = some x) (hp : jumpI x = true) : jlI xs (k + 1) = jlI xs k ++ [x.a] := by
  unfold jlI
  rw [List.take_add_one, hx]
  simp [hp]
theorem jl_no {xs : List Ins} {k : Nat} {x : Ins} (hx : xs[k]? = some x) (hp : jumpI x = false) : jlI xs (k + 1) = jlI xs k := by
  unfold jlI
  rw [List.take_add_one, hx]
  simp [hp]
theorem jl_len (xs : List Ins) (k : Nat) : (jlI xs k).length ≤ xs.length := by
  unfold jlI
  rw [List.length_map]
  exact Nat.le_trans (List.length_filter_le _ _) (by simp; omega)
theorem sortI_len (xs : List Int) : (sortI xs).length = xs.length := by simp [sortI]
theorem jl_all {xs : List Ins} {k : Nat} (h : xs.length ≤ k) : jlI xs k = (xs.filter jumpI).map (·.a) := by
  unfold jlI
  rw [List.take_of_length_le h]

def hitI (t : Nat) (p : Ins) : Bool := jumpI p && decide (p.a = (t : Int))
def refL (xs : List Ins) (t : Nat) : List Int := ((List.range t).filter fun j => xs.any (hitI j)).map fun (j : Nat) => (j : Int)
def refT (xs : List Ins) : List Int := if badI xs < 0 then refL xs (xs.length + 1) else []
theorem ref_yes {xs : List Ins} {t i : Nat} {x : Ins} (hx : xs[i]? = some x) (hp : hitI t x = true) : refL xs (t + 1) = refL xs t ++ [(t : Int)] := by
  unfold refL
  rw [List.range_succ, List.filter_append, List.map_append]
  have : xs.any (hitI t) = true := List.any_eq_true.2 ⟨x, List.mem_of_getElem? hx, hp⟩
  simp [this]
theorem ref_no {xs : List Ins} {t i : Nat} (hi : xs.length ≤ i) (hn : ∀ y ∈ xs.take i, hitI t y = false) : refL xs (t + 1) = refL xs t := by
  unfold refL
  rw [List.range_succ, List.filter_append, List.map_append]
  rw [List.take_of_length_le hi] at hn
  have : xs.any (hitI t) = false := List.any_eq_false.2 (fun y hy => by simp [hn y hy])
  simp [this]
theorem hit_yes {t : Nat} {p : Ins} (h : (p.op = 19 ∨ p.op = 20) ∧ p.a = (t : Int)) : hitI t p = true := by simp [hitI, jumpI, h.1, h.2]
theorem hit_no {t : Nat} {p : Ins} (h : ¬ ((p.op = 19 ∨ p.op = 20) ∧ p.a = (t : Int))) : hitI t p = false := by
  unfold hitI jumpI
  rw [← Bool.decide_and]
  exact decide_eq_false h
theorem ref_len (xs : List Ins) (t : Nat) : (refL xs t).length ≤ t := by
  unfold refL
  rw [List.length_map]
  exact Nat.le_trans (List.length_filter_le _ _) (by simp)

theorem ref_end {xs : List Ins} {t : Nat} (h : t ≤ xs.length + 1 ∧ (t = 0 ∨ badI xs < 0)) (h2 : ¬ t ≤ xs.length ∨ ¬ badI xs < 0) : refL xs t = refT xs := by
  unfold refT
  by_cases hb : badI xs < 0
  · rw [if_pos hb, show t = xs.length + 1 by omega]
  · rw [if_neg hb, show t = 0 by omega]
    rfl
/-- Two rising lists of the same numbers are one. -/
theorem rise_one : ∀ {xs ys : List Int}, xs.Pairwise (· < ·) → ys.Pairwise (· < ·) → (∀ x, x ∈ xs ↔ x ∈ ys) → xs = ys
  | [], [], _, _, _ => rfl
  | [], y :: ys, _, _, h => by have := (h y).2 (List.mem_cons_self ..); cases this
  | x :: xs, [], _, _, h => by have := (h x).1 (List.mem_cons_self ..); cases this
  | x :: xs, y :: ys, hx, hy, h => by
    have hx' := List.pairwise_cons.1 hx
    have hy' := List.pairwise_cons.1 hy
    have e : x = y := by
      rcases List.mem_cons.1 ((h x).1 (List.mem_cons_self ..)) with e | h1
      · exact e
      · rcases List.mem_cons.1 ((h y).2 (List.mem_cons_self ..)) with e | h2
        · exact e.symm
        · have := hx'.1 y h2
          have := hy'.1 x h1
          omega
    subst e
    rw [rise_one hx'.2 hy'.2]
    intro z
    constructor
    · intro hz
      rcases List.mem_cons.1 ((h z).1 (List.mem_cons_of_mem _ hz)) with e | h1
      · have := hx'.1 z hz; omega
      · exact h1
    · intro hz
      rcases List.mem_cons.1 ((h z).2 (List.mem_cons_of_mem _ hz)) with e | h1
      · have := hy'.1 z hz; omega
      · exact h1
theorem compact_mem (xs : List Int) (x : Int) : x ∈ Lib.compact xs ↔ x ∈ xs := by
  unfold Lib.compact Lib.compactUpTo
  simp only [List.mem_map, List.mem_filter, List.mem_range]
  constructor
  · rintro ⟨i, ⟨hi, _⟩, rfl⟩
    simp only [List.getElem!_toArray]
    rw [getElem!_pos xs i hi]
    exact List.getElem_mem hi
  · intro hx
    have key : ∀ (n i : Nat), i ≤ n → xs[i]? = some x → ∃ j, (j < xs.length ∧ Lib.keeps xs.toArray j = true) ∧ xs.toArray[j]! = x := by
      intro n
      induction n with
      | zero =>
        intro i hi he
        obtain rfl : i = 0 := by omega
        have hl := (List.getElem?_eq_some_iff.1 he).1
        refine ⟨0, ⟨hl, by simp [Lib.keeps]⟩, ?_⟩
        simp only [List.getElem!_toArray]
        rw [getElem!_pos xs 0 hl]
        exact (List.getElem?_eq_some_iff.1 he).2
      | succ n ih =>
        intro i hi he
        have hl := (List.getElem?_eq_some_iff.1 he).1
        have hv : xs.toArray[i]! = x := by
          simp only [List.getElem!_toArray]
          rw [getElem!_pos xs i hl]
          exact (List.getElem?_eq_some_iff.1 he).2
        by_cases hk : Lib.keeps xs.toArray i = true
        · exact ⟨i, ⟨hl, hk⟩, hv⟩
        · have : ¬ (i = 0 ∨ xs.toArray[i]! ≠ xs.toArray[i - 1]!) := by simpa [Lib.keeps] using hk
          have h0 : i ≠ 0 := fun e => this (.inl e)
          have he2 : xs.toArray[i]! = xs.toArray[i - 1]! := Classical.not_not.1 fun e => this (.inr e)
          refine ih (i - 1) (by omega) ?_
          rw [List.getElem?_eq_getElem (by omega), ← hv, he2]
          simp only [List.getElem!_toArray]
          rw [getElem!_pos xs (i - 1) (by omega)]
    obtain ⟨i, hi⟩ := List.getElem?_of_mem hx
    exact key i i (Nat.le_refl _) hi
theorem compact_rise {xs : List Int} (h : xs.Pairwise (· ≤ ·)) : (Lib.compact xs).Pairwise (· < ·) := by
  unfold Lib.compact Lib.compactUpTo
  rw [List.pairwise_map]
  have h1 : ((List.range xs.length).filter (Lib.keeps xs.toArray)).Pairwise (· < ·) := List.Pairwise.filter _ List.pairwise_lt_range
  refine (List.Pairwise.and_mem.1 h1).imp ?_
  rintro i j ⟨hi, hj, hij⟩
  have hj' := List.mem_filter.1 hj
  have hjl : j < xs.length := List.mem_range.1 hj'.1
  have hk : j = 0 ∨ xs.toArray[j]! ≠ xs.toArray[j - 1]! := by simpa [Lib.keeps] using hj'.2
  simp only [List.getElem!_toArray] at hk ⊢
  rw [getElem!_pos xs i (by omega), getElem!_pos xs j hjl]
  rw [getElem!_pos xs j hjl, getElem!_pos xs (j - 1) (by omega)] at hk
  rw [List.pairwise_iff_getElem] at h
  have a1 : xs[i] ≤ xs[j - 1] := by
    rcases Nat.lt_or_ge i (j - 1) with c | c
    · exact h i (j - 1) (by omega) (by omega) c
    · have : i = j - 1 := by omega
      subst this
      exact Int.le_refl _
  have a2 : xs[j - 1] ≤ xs[j] := h (j - 1) j (by omega) hjl (by omega)
  rcases hk with e | e
  · omega
  · omega
theorem sortI_rise (xs : List Int) : (sortI xs).Pairwise (· ≤ ·) := by
  have := List.pairwise_mergeSort (le := fun x y : Int => decide (x ≤ y)) (fun a b c h1 h2 => by simp at *; omega) (fun a b => by simp; omega) xs
  exact this.imp (fun h => by simpa using h)
theorem good_jump {xs : List Ins} (hb : badI xs < 0) {x : Ins} (hx : x ∈ xs) (hj : jumpI x = true) : 0 ≤ x.a ∧ x.a ≤ xs.length := by
  have hlen : ¬ (40 : Int) < xs.length := by
    intro h
    unfold badI at hb
    split at hb
    · omega
    · first | omega | (rw [if_pos h] at hb; omega)
  have hg : goodI x xs.length := by
    apply Classical.byContradiction
    intro hg
    unfold badI at hb
    have hm : x ∈ xs.take 40 := by rw [List.take_of_length_le (by omega)]; exact hx
    have : 0 ≤ fidx (badT xs.length) (xs.take 40) := by
      have h2 := fidx_nonneg (badT xs.length) (xs.take 40)
      have h3 : (xs.take 40).any (badT xs.length) = true := List.any_eq_true.2 ⟨x, hm, by simp [badT, hg]⟩
      rw [h3] at h2
      exact of_decide_eq_true h2
    rw [if_pos this] at hb
    omega
  have hop : x.op = 19 ∨ x.op = 20 := by simpa [jumpI] using hj
  have := hg.2.2.2.2.1 hop
  omega
def greatC (xs : List Ins) : Bool := decide (¬ (xs.length ≤ 60 ∧ ∀ p ∈ xs, p.s.size ≤ 100))
theorem great_hit {xs : List Ins} {k : Nat} {x : Ins} (hx : xs[k]? = some x) (h : 100 < x.s.size) : true = greatC xs := by
  have h3 : ¬ (xs.length ≤ 60 ∧ ∀ p ∈ xs, p.s.size ≤ 100) := fun h2 => absurd (h2.2 x (List.mem_of_getElem? hx)) (by omega)
  exact (decide_eq_true h3).symm
theorem great_end {xs : List Ins} {k : Nat} (hn : ∀ y ∈ xs.take k, y.s.size ≤ 100) (h : xs.length ≤ k ∨ 60 < xs.length) : decide ((60 : Int) < (xs.length : Int)) = greatC xs := by
  refine decide_eq_decide.2 ⟨fun h1 h2 => by omega, fun h1 => ?_⟩
  apply Classical.byContradiction
  intro h2
  refine h1 ⟨by omega, ?_⟩
  rwa [List.take_of_length_le (by omega)] at hn
theorem great_no {xs : List Ins} (h : greatC xs = false) : xs.length ≤ 60 := by
  have := of_decide_eq_false h
  exact (Classical.not_not.1 this).1
theorem take_small {xs : List Ins} {k : Nat} {x : Ins} (hn : ∀ y ∈ xs.take k, y.s.size ≤ 100) (hx : xs[k]? = some x) (h : x.s.size ≤ 100) : ∀ y ∈ xs.take (k + 1), y.s.size ≤ 100 := by
  intro y hy
  rw [List.take_add_one, hx] at hy
  simp at hy
  rcases hy with hy | rfl
  · exact hn y hy
  · exact h
theorem targ_len (xs : List Ins) : (targI xs).length ≤ xs.length := by
  unfold targI
  split
  · refine Nat.le_trans (compact_le _) ?_
    rw [sortI_len, List.length_map]
    exact List.length_filter_le _ _
  · simp
theorem targ_ref (xs : List Ins) : targI xs = refT xs := by
  unfold targI refT
  by_cases hb : badI xs < 0
  · rw [if_pos hb, if_pos hb]
    refine rise_one (compact_rise (sortI_rise _)) ?_ ?_
    · unfold refL
      rw [List.pairwise_map]
      exact (List.Pairwise.filter _ List.pairwise_lt_range).imp (fun h => by omega)
    · intro z
      rw [compact_mem]
      unfold sortI refL
      rw [List.mem_mergeSort]
      simp only [List.mem_map, List.mem_filter, List.mem_range]
      constructor
      · rintro ⟨p, ⟨hp, hj⟩, rfl⟩
        have := good_jump hb hp hj
        refine ⟨p.a.toNat, ⟨by omega, List.any_eq_true.2 ⟨p, hp, ?_⟩⟩, by omega⟩
        simp only [hitI, hj, Bool.true_and, decide_eq_true_eq]
        omega
      · rintro ⟨t, ⟨_, ht⟩, rfl⟩
        obtain ⟨p, hp, hh⟩ := List.any_eq_true.1 ht
        simp only [hitI, Bool.and_eq_true, decide_eq_true_eq] at hh
        exact ⟨p, ⟨hp, hh.1⟩, hh.2⟩
  · rw [if_neg hb, if_neg hb]
end Go.Proofs.YtlpgdkbokakniaaGreatDoor.X
