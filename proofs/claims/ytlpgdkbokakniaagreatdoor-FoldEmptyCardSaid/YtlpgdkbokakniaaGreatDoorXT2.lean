/- Putting pairs in order, in plain lists: what the steps of the library's stable sort do. No program in sight. -/
import Derived.Test.YtlpgdkbokakniaaGreatDoorXT
set_option linter.unusedVariables false
namespace Go.Proofs.YtlpgdkbokakniaaGreatDoor.X
open Go

/-- Behind a step the list is told by places. -/
def Via (xs ys : List Pair) (f : Nat → Nat) : Prop := ys.length = xs.length ∧ ∀ t, ys[t]? = xs[f t]?
def swapI (a b n t : Nat) : Nat := if a ≤ t ∧ t < a + n then t + (b - a) else if b ≤ t ∧ t < b + n then t - (b - a) else t
def rotI (a m b t : Nat) : Nat := if a ≤ t ∧ t < a + (b - m) then t + (m - a) else if a + (b - m) ≤ t ∧ t < b then t - (b - m) else t

theorem via_refl (xs : List Pair) {f : Nat → Nat} (h : ∀ t, f t = t) : Via xs xs f := ⟨rfl, fun t => by rw [h]⟩
theorem via_set2 {xs ys : List Pair} {a b k : Nat} {x y : Pair} (hab : a + k < b) (h : Via xs ys (swapI a b k)) (hx : ys[a + k]? = some x) (hy : ys[b + k]? = some y) :
    Via xs ((ys.set (a + k) y).set (b + k) x) (swapI a b (k + 1)) := by
  have l1 : a + k < ys.length := (List.getElem?_eq_some_iff.1 hx).1
  have l2 : b + k < ys.length := (List.getElem?_eq_some_iff.1 hy).1
  refine ⟨by simpa using h.1, fun t => ?_⟩
  rw [List.getElem?_set, List.getElem?_set]
  have hx' := h.2 (a + k)
  have hy' := h.2 (b + k)
  rw [hx] at hx'
  rw [hy] at hy'
  by_cases h1 : b + k = t
  · subst h1
    rw [if_pos rfl, if_pos (by simpa using l2), hx']
    congr 1
    unfold swapI
    rw [if_neg (by omega), if_neg (by omega), if_neg (by omega), if_pos (by omega)]
    omega
  · rw [if_neg h1]
    by_cases h2 : a + k = t
    · subst h2
      rw [if_pos rfl, if_pos l1, hy']
      congr 1
      unfold swapI
      rw [if_neg (by omega), if_neg (by omega), if_pos (by omega)]
      omega
    · rw [if_neg h2, h.2]
      congr 1
      unfold swapI
      repeat' split
      all_goals omega
/-- The rounds of a rotation. -/
theorem rot_gt {xs ys : List Pair} {m i j : Nat} (him : i ≤ m) (hj : j < i) (h : Via xs ys (swapI (m - i) m j)) : ∀ t, xs[rotI (m - i) m (m + j) t]? = ys[rotI (m - (i - j)) m (m + j) t]? := by
  intro t
  rw [h.2]
  congr 1
  unfold rotI swapI
  repeat' split
  all_goals omega
theorem rot_lt {xs ys : List Pair} {m i j : Nat} (him : i ≤ m) (hj : i < j) (h : Via xs ys (swapI (m - i) (m + j - i) i)) : ∀ t, xs[rotI (m - i) m (m + j) t]? = ys[rotI (m - i) m (m + (j - i)) t]? := by
  intro t
  rw [h.2]
  congr 1
  unfold rotI swapI
  repeat' split
  all_goals omega
theorem rot_eq {m i t : Nat} (him : i ≤ m) : rotI (m - i) m (m + i) t = swapI (m - i) m i t := by
  unfold rotI swapI
  repeat' split
  all_goals omega

theorem via_list {xs ys : List Pair} {a m b : Nat} (h : Via xs ys (rotI a m b)) (h1 : a ≤ m) (h2 : m ≤ b) (h3 : b ≤ xs.length) :
    ys = xs.take a ++ ((xs.drop m).take (b - m) ++ ((xs.drop a).take (m - a) ++ xs.drop b)) := by
  apply List.ext_getElem?
  intro t
  rw [h.2]
  unfold rotI
  by_cases c1 : t < a
  · rw [if_neg (by omega), if_neg (by omega), List.getElem?_append_left (by simp; omega), List.getElem?_take, if_pos c1]
  rw [List.getElem?_append_right (by simp; omega)]
  have e1 : (xs.take a).length = a := by simp; omega
  rw [e1]
  by_cases c2 : t < a + (b - m)
  · rw [if_pos (by omega), List.getElem?_append_left (by simp; omega), List.getElem?_take, if_pos (by omega), List.getElem?_drop]
    congr 1
    omega
  rw [List.getElem?_append_right (by simp; omega), if_neg (by omega)]
  have e2 : ((xs.drop m).take (b - m)).length = b - m := by simp; omega
  rw [e2]
  by_cases c3 : t < b
  · rw [if_pos (by omega), List.getElem?_append_left (by simp; omega), List.getElem?_take, if_pos (by omega), List.getElem?_drop]
    congr 1
    omega
  rw [List.getElem?_append_right (by simp; omega), if_neg (by omega)]
  have e3 : ((xs.drop a).take (m - a)).length = m - a := by simp; omega
  rw [e3, List.getElem?_drop]
  congr 1
  omega
theorem cut4 {xs : List Pair} {a m b : Nat} (h1 : a ≤ m) (h2 : m ≤ b) : xs = xs.take a ++ ((xs.drop a).take (m - a) ++ ((xs.drop m).take (b - m) ++ xs.drop b)) := by
  have e1 : (xs.drop m).take (b - m) ++ xs.drop b = xs.drop m := by
    have := List.take_append_drop (b - m) (xs.drop m)
    rwa [List.drop_drop, show m + (b - m) = b by omega] at this
  have e2 : (xs.drop a).take (m - a) ++ xs.drop m = xs.drop a := by
    have := List.take_append_drop (m - a) (xs.drop a)
    rwa [List.drop_drop, show a + (m - a) = m by omega] at this
  rw [e1, e2, List.take_append_drop]
/-- A rotation of two runs that share no key. -/
theorem rot_stab {xs ys : List Pair} {a m b : Nat} (h : Via xs ys (rotI a m b)) (h1 : a ≤ m) (h2 : m ≤ b) (h3 : b ≤ xs.length)
    (hne : ∀ p q x y, a ≤ p → p < m → m ≤ q → q < b → xs[p]? = some x → xs[q]? = some y → x.key ≠ y.key) : Stab xs ys := by
  refine ⟨h.1.symm, fun k => ?_⟩
  rw [via_list h h1 h2 h3]
  conv => lhs; rw [cut4 (xs := xs) h1 h2]
  simp only [List.filter_append]
  congr 1
  rw [← List.append_assoc, ← List.append_assoc]
  congr 1
  by_cases hk : ∃ x ∈ (xs.drop a).take (m - a), x.key = k
  · obtain ⟨x, hx, hxk⟩ := hk
    obtain ⟨p, hp⟩ := List.getElem?_of_mem hx
    have hpl : p < m - a := by
      have := (List.getElem?_eq_some_iff.1 hp).1
      simp at this
      omega
    rw [List.getElem?_take, if_pos hpl, List.getElem?_drop] at hp
    have : (((xs.drop m).take (b - m)).filter fun p => decide (p.key = k)) = [] := by
      rw [List.filter_eq_nil_iff]
      intro y hy
      obtain ⟨q, hq⟩ := List.getElem?_of_mem hy
      have hql : q < b - m := by
        have := (List.getElem?_eq_some_iff.1 hq).1
        simp at this
        omega
      rw [List.getElem?_take, if_pos hql, List.getElem?_drop] at hq
      have := hne (a + p) (m + q) x y (by omega) (by omega) (by omega) (by omega) hp hq
      simp only [decide_eq_true_eq]
      exact fun e => this (hxk.trans e.symm)
    rw [this, List.append_nil, List.nil_append]
  · have : (((xs.drop a).take (m - a)).filter fun p => decide (p.key = k)) = [] := by
      rw [List.filter_eq_nil_iff]
      intro x hx
      simp only [decide_eq_true_eq]
      exact fun e => hk ⟨x, hx, e⟩
    rw [this, List.append_nil, List.nil_append]

/-- In order between two places. -/
def SrtI (xs : List Pair) (a b : Nat) : Prop := ∀ p q x y, a ≤ p → p < q → q < b → xs[p]? = some x → xs[q]? = some y → ltS y.key x.key = false
/-- Between two places the same pairs, outside nothing turned. -/
def InI (xs ys : List Pair) (a b : Nat) : Prop := ys.length = xs.length ∧ (∀ t, t < a ∨ b ≤ t → ys[t]? = xs[t]?) ∧ ∀ t, a ≤ t → t < b → ∃ u, a ≤ u ∧ u < b ∧ ys[t]? = xs[u]?
theorem InI.refl (xs : List Pair) (a b : Nat) : InI xs xs a b := ⟨rfl, fun _ _ => rfl, fun t h1 h2 => ⟨t, h1, h2, rfl⟩⟩
theorem InI.trans {xs ys zs : List Pair} {a b : Nat} (h1 : InI xs ys a b) (h2 : InI ys zs a b) : InI xs zs a b := by
  refine ⟨h2.1.trans h1.1, fun t ht => (h2.2.1 t ht).trans (h1.2.1 t ht), fun t ha hb => ?_⟩
  obtain ⟨u, u1, u2, e⟩ := h2.2.2 t ha hb
  obtain ⟨u', u1', u2', e'⟩ := h1.2.2 u u1 u2
  exact ⟨u', u1', u2', e.trans e'⟩
theorem InI.wider {xs ys : List Pair} {a b a' b' : Nat} (h : InI xs ys a b) (ha : a' ≤ a) (hb : b ≤ b') : InI xs ys a' b' := by
  refine ⟨h.1, fun t ht => h.2.1 t (by omega), fun t h1 h2 => ?_⟩
  by_cases c : a ≤ t ∧ t < b
  · obtain ⟨u, u1, u2, e⟩ := h.2.2 t c.1 c.2
    exact ⟨u, by omega, by omega, e⟩
  · exact ⟨t, h1, h2, h.2.1 t (by omega)⟩
theorem rot_in {xs ys : List Pair} {a m b : Nat} (h : Via xs ys (rotI a m b)) (h1 : a ≤ m) (h2 : m ≤ b) : InI xs ys a b := by
  refine ⟨h.1, fun t ht => ?_, fun t ha hb => ⟨rotI a m b t, ?_, ?_, h.2 t⟩⟩
  · rw [h.2, show rotI a m b t = t by unfold rotI; rw [if_neg (by omega), if_neg (by omega)]]
  · unfold rotI; split <;> (try split) <;> omega
  · unfold rotI; split <;> (try split) <;> omega
theorem SrtI.same {xs ys : List Pair} {a b : Nat} (h : SrtI xs a b) (he : ∀ t, a ≤ t → t < b → ys[t]? = xs[t]?) : SrtI ys a b :=
  fun p q x y h1 h2 h3 hx hy => h p q x y h1 h2 h3 ((he p h1 (by omega)).symm.trans hx) ((he q (by omega) h3).symm.trans hy)
theorem SrtI.sub {xs : List Pair} {a b a' b' : Nat} (h : SrtI xs a b) (ha : a ≤ a') (hb : b' ≤ b) : SrtI xs a' b' :=
  fun p q x y h1 h2 h3 => h p q x y (by omega) h2 (by omega)
theorem SrtI.one (xs : List Pair) {a b : Nat} (h : b ≤ a + 1) : SrtI xs a b := fun p q x y h1 h2 h3 => by omega
theorem SrtI.ord {xs : List Pair} (h : SrtI xs 0 xs.length) : Ord xs := by
  unfold Ord
  rw [List.pairwise_iff_getElem]
  intro i j hi hj hij
  exact h i j _ _ (by omega) hij hj (List.getElem?_eq_getElem hi) (List.getElem?_eq_getElem hj)

/-- What a sort of a stretch leaves. -/
structure Sorts (xs ys : List Pair) (a b : Nat) : Prop where
  stab : Stab xs ys
  ins : InI xs ys a b
  srt : SrtI ys a b

/-- Two neighbours, the second below the first, change places. -/
theorem swap_stab {xs : List Pair} {j : Nat} {x y : Pair} (hx : xs[j]? = some x) (hy : xs[j + 1]? = some y) (hlt : ltS y.key x.key = true) : Stab xs ((xs.set (j + 1) x).set j y) ∧ InI xs ((xs.set (j + 1) x).set j y) j (j + 2) := by
  have l1 : j + 1 < xs.length := (List.getElem?_eq_some_iff.1 hy).1
  have hv : Via xs ((xs.set (j + 1) x).set j y) (rotI j (j + 1) (j + 2)) := by
    refine ⟨by simp, fun t => ?_⟩
    rw [List.getElem?_set, List.getElem?_set]
    unfold rotI
    by_cases c1 : j = t
    · subst c1
      rw [if_pos rfl, if_pos (by simp; omega), if_pos (by omega), show j + (j + 1 - j) = j + 1 by omega, hy]
    · rw [if_neg c1]
      by_cases c2 : j + 1 = t
      · subst c2
        rw [if_pos rfl, if_pos l1, if_neg (by omega), if_pos (by omega), show j + 1 - (j + 2 - (j + 1)) = j by omega, hx]
      · rw [if_neg c2, if_neg (by omega), if_neg (by omega)]
  refine ⟨rot_stab hv (by omega) (by omega) (by omega) fun p q u v h1 h2 h3 h4 hu hw => ?_, rot_in hv (by omega) (by omega)⟩
  obtain rfl : p = j := by omega
  obtain rfl : q = p + 1 := by omega
  rw [hx] at hu
  rw [hy] at hw
  obtain rfl := Option.some.inj hu
  obtain rfl := Option.some.inj hw
  intro e
  rw [e, ltS_irrefl] at hlt
  cases hlt

/-- Insertion's inner round: in order but for the pair at j. -/
def ButI (xs : List Pair) (a b j : Nat) : Prop := ∀ p q x y, a ≤ p → p < q → q < b → q ≠ j → xs[p]? = some x → xs[q]? = some y → ltS y.key x.key = false
theorem but_start {xs : List Pair} {a i : Nat} (h : SrtI xs a i) : ButI xs a (i + 1) i := fun p q x y h1 h2 h3 h4 => h p q x y h1 h2 (by omega)
theorem but_low {xs : List Pair} {a b : Nat} (h : ButI xs a b a) : SrtI xs a b := fun p q x y h1 h2 h3 => h p q x y h1 h2 h3 (by omega)
theorem but_stop {xs : List Pair} {a b j : Nat} {x y : Pair} (h : ButI xs a b (j + 1)) (ha : a ≤ j) (hx : xs[j]? = some x) (hy : xs[j + 1]? = some y) (hlt : ltS y.key x.key = false) : SrtI xs a b := by
  intro p q u v h1 h2 h3 hu hv
  by_cases c : q = j + 1
  · subst c
    rw [hy] at hv
    obtain rfl := Option.some.inj hv
    by_cases c2 : p = j
    · subst c2
      rw [hx] at hu
      obtain rfl := Option.some.inj hu
      exact hlt
    · exact leS_trans (h p j u x h1 (by omega) (by omega) (by omega) hu hx) hlt
  · exact h p q u v h1 h2 h3 c hu hv
theorem but_step {xs : List Pair} {a b j : Nat} {x y : Pair} (h : ButI xs a b (j + 1)) (ha : a ≤ j) (hx : xs[j]? = some x) (hy : xs[j + 1]? = some y) (hlt : ltS y.key x.key = true) (hb : j + 1 < b) : ButI ((xs.set (j + 1) x).set j y) a b j := by
  have l1 : j + 1 < xs.length := (List.getElem?_eq_some_iff.1 hy).1
  have g : ∀ t u, ((xs.set (j + 1) x).set j y)[t]? = some u → (t = j ∧ u = y) ∨ (t = j + 1 ∧ u = x) ∨ (t ≠ j ∧ t ≠ j + 1 ∧ xs[t]? = some u) := by
    intro t u ht
    rw [List.getElem?_set, List.getElem?_set] at ht
    by_cases c1 : j = t
    · rw [if_pos c1, if_pos (by simp; omega)] at ht
      exact .inl ⟨c1.symm, (Option.some.inj ht).symm⟩
    · rw [if_neg c1] at ht
      by_cases c2 : j + 1 = t
      · rw [if_pos c2, if_pos l1] at ht
        exact .inr (.inl ⟨c2.symm, (Option.some.inj ht).symm⟩)
      · rw [if_neg c2] at ht
        exact .inr (.inr ⟨Ne.symm c1, Ne.symm c2, ht⟩)
  intro p q u v h1 h2 h3 h4 hu hv
  rcases g q v hv with ⟨rfl, _⟩ | ⟨rfl, rfl⟩ | ⟨q1, q2, hq⟩
  · exact absurd rfl h4
  · rcases g p u hu with ⟨rfl, rfl⟩ | ⟨rfl, _⟩ | ⟨p1, p2, hp⟩
    · exact ltS_asymm hlt
    · omega
    · exact h p j u v h1 (by omega) (by omega) (by omega) hp hx
  · rcases g p u hu with ⟨rfl, rfl⟩ | ⟨rfl, rfl⟩ | ⟨p1, p2, hp⟩
    · exact h (p + 1) q u v (by omega) (by omega) h3 q2 hy hq
    · exact h j q u v (by omega) (by omega) h3 q2 hx hq
    · exact h p q u v h1 h2 h3 q2 hp hq
end Go.Proofs.YtlpgdkbokakniaaGreatDoor.X
