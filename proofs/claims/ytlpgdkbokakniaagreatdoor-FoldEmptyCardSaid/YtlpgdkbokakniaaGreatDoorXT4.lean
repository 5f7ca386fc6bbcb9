/- Putting pairs in order: the comparison, the rounds in the words of the walks. -/
import Derived.Test.YtlpgdkbokakniaaGreatDoorXT3
import Derived.Test.YtlpgdkbokakniaaGreatDoorXN
set_option linter.unusedVariables false
namespace Go.Proofs.YtlpgdkbokakniaaGreatDoor.X
open Go

theorem half_u64 (n : Nat) : ((n : Nat) : Int).fdiv (2 ^ (min (1 : Int).toNat IntKind.u64.bits)) = ((n / 2 : Nat) : Int) := by
  have : (2 : Int) ^ (min (1 : Int).toNat IntKind.u64.bits) = 2 := by decide
  rw [this, Int.fdiv_eq_ediv_of_nonneg _ (by omega)]
  omega
def cmpK (a b : ByteArray) : Int := if ltS a b = true then -1 else if ltS b a = true then 1 else 0
theorem cmpK_lt {a b : ByteArray} (h : ltS a b = true) : cmpK a b = -1 := if_pos h
theorem cmpK_gt {a b : ByteArray} (h : ¬ ltS a b = true) (h2 : (!(ltS a b || decide (a = b))) = true) : cmpK a b = 1 := by
  unfold cmpK
  rw [if_neg h, if_pos]
  cases h3 : ltS b a with
  | true => rfl
  | false =>
    have := ltS_eq (by simpa using h) h3
    subst this
    simp at h2
theorem cmpK_eq {a b : ByteArray} (h : ¬ ltS a b = true) (h2 : (!(ltS a b || decide (a = b))) = false) : cmpK a b = 0 := by
  have h' : ltS a b = false := by simpa using h
  have : a = b := by simpa [h'] using h2
  subst this
  unfold cmpK
  rw [if_neg h, if_neg h]
theorem cmpK_neg {a b : ByteArray} : cmpK a b < 0 ↔ ltS a b = true := by
  unfold cmpK
  by_cases h : ltS a b = true
  · simp [h]
  · rw [if_neg h]
    by_cases h2 : ltS b a = true
    · rw [if_pos h2]; simp [h]
    · rw [if_neg h2]; simp [h]
theorem cmpK_nneg {a b : ByteArray} (h : ¬ cmpK a b < 0) : ltS a b = false := by
  cases h2 : ltS a b with
  | false => rfl
  | true => exact absurd (cmpK_neg.2 h2) h

theorem swap_stab' {xs : List Pair} {j : Nat} {x y : Pair} (hj : 0 < j) (hx : xs[j - 1]? = some x) (hy : xs[j]? = some y) (hlt : ltS y.key x.key = true) : Stab xs ((xs.set j x).set (j - 1) y) ∧ InI xs ((xs.set j x).set (j - 1) y) (j - 1) (j + 1) := by
  obtain ⟨i, rfl⟩ : ∃ i, j = i + 1 := ⟨j - 1, by omega⟩
  exact swap_stab hx hy hlt
theorem but_stop' {xs : List Pair} {a b j : Nat} {x y : Pair} (h : ButI xs a b j) (hj : a < j) (hx : xs[j - 1]? = some x) (hy : xs[j]? = some y) (hlt : ltS y.key x.key = false) : SrtI xs a b := by
  obtain ⟨i, rfl⟩ : ∃ i, j = i + 1 := ⟨j - 1, by omega⟩
  exact but_stop h (by omega) hx hy hlt
theorem but_step' {xs : List Pair} {a b j : Nat} {x y : Pair} (h : ButI xs a b j) (hj : a < j) (hx : xs[j - 1]? = some x) (hy : xs[j]? = some y) (hlt : ltS y.key x.key = true) (hb : j < b) : ButI ((xs.set j x).set (j - 1) y) a b (j - 1) := by
  obtain ⟨i, rfl⟩ : ∃ i, j = i + 1 := ⟨j - 1, by omega⟩
  exact but_step h (by omega) hx hy hlt (by omega)

/-- One pair moved up by neighbours' swaps; one moved down. -/
theorem via_up {xs ys : List Pair} {a k : Nat} {x y : Pair} (hk : a ≤ k) (h : Via xs ys (rotI a (a + 1) (k + 1))) (hx : ys[k]? = some x) (hy : ys[k + 1]? = some y) : Via xs ((ys.set k y).set (k + 1) x) (rotI a (a + 1) (k + 1 + 1)) := by
  have l1 : k < ys.length := (List.getElem?_eq_some_iff.1 hx).1
  have l2 : k + 1 < ys.length := (List.getElem?_eq_some_iff.1 hy).1
  refine ⟨by simpa using h.1, fun t => ?_⟩
  rw [List.getElem?_set, List.getElem?_set]
  have hx' := h.2 k
  have hy' := h.2 (k + 1)
  rw [hx] at hx'
  rw [hy] at hy'
  by_cases c1 : k + 1 = t
  · subst c1
    rw [if_pos rfl, if_pos (by simpa using l2), hx']
    congr 1
    unfold rotI
    repeat' split
    all_goals omega
  · rw [if_neg c1]
    by_cases c2 : k = t
    · subst c2
      rw [if_pos rfl, if_pos l1, hy']
      congr 1
      unfold rotI
      repeat' split
      all_goals omega
    · rw [if_neg c2, h.2]
      congr 1
      unfold rotI
      repeat' split
      all_goals omega
theorem via_down {xs ys : List Pair} {m k : Nat} {x y : Pair} (hk : k ≤ m) (h0 : 0 < k) (h : Via xs ys (rotI k m (m + 1))) (hx : ys[k]? = some x) (hy : ys[k - 1]? = some y) : Via xs ((ys.set k y).set (k - 1) x) (rotI (k - 1) m (m + 1)) := by
  have l1 : k < ys.length := (List.getElem?_eq_some_iff.1 hx).1
  have l2 : k - 1 < ys.length := (List.getElem?_eq_some_iff.1 hy).1
  refine ⟨by simpa using h.1, fun t => ?_⟩
  rw [List.getElem?_set, List.getElem?_set]
  have hx' := h.2 k
  have hy' := h.2 (k - 1)
  rw [hx] at hx'
  rw [hy] at hy'
  by_cases c1 : k - 1 = t
  · subst c1
    rw [if_pos rfl, if_pos (by simpa using l2), hx']
    congr 1
    unfold rotI
    repeat' split
    all_goals omega
  · rw [if_neg c1]
    by_cases c2 : k = t
    · subst c2
      rw [if_pos rfl, if_pos l1, hy']
      congr 1
      unfold rotI
      repeat' split
      all_goals omega
    · rw [if_neg c2, h.2]
      congr 1
      unfold rotI
      repeat' split
      all_goals omega
theorem via_one (xs : List Pair) (a : Nat) : Via xs xs (rotI a (a + 1) (a + 1)) := via_refl xs fun t => by
  unfold rotI
  repeat' split
  all_goals omega
theorem via_one' (xs : List Pair) (m : Nat) : Via xs xs (rotI m m (m + 1)) := via_refl xs fun t => by
  unfold rotI
  repeat' split
  all_goals omega
theorem via_none (xs : List Pair) {s m e : Nat} (h : ¬ (s < m ∧ m < e)) (h1 : s ≤ m) (h2 : m ≤ e) : Via xs xs (rotI s m e) := via_refl xs fun t => by
  unfold rotI
  repeat' split
  all_goals omega

theorem via_up' {xs ys : List Pair} {a m k : Nat} {x y : Pair} (hm : m = a + 1) (hk : a ≤ k) (h : Via xs ys (rotI a m (k + 1))) (hx : ys[k]? = some x) (hy : ys[k + 1]? = some y) : Via xs ((ys.set k y).set (k + 1) x) (rotI a m (k + 1 + 1)) := by
  subst hm
  exact via_up hk h hx hy
theorem via_down' {xs ys : List Pair} {m b k : Nat} {x y : Pair} (hb : b = m + 1) (hk : k ≤ m) (h0 : 0 < k) (h : Via xs ys (rotI k m b)) (hx : ys[k]? = some x) (hy : ys[k - 1]? = some y) : Via xs ((ys.set k y).set (k - 1) x) (rotI (k - 1) m b) := by
  subst hb
  exact via_down hk h0 h hx hy
theorem merge_left' {xs ys : List Pair} {a m b i : Nat} {x : Pair} (hm : m = a + 1) (hv : Via xs ys (rotI a m i)) (h1 : m ≤ i) (h2 : i ≤ b) (hb : b ≤ xs.length) (hr : SrtI xs m b) (hx : xs[a]? = some x)
    (hlow : i = m ∨ ∃ u, xs[i - 1]? = some u ∧ ltS u.key x.key = true) (hup : i = b ∨ ∃ u, xs[i]? = some u ∧ ltS u.key x.key = false) : Sorts xs ys a b := by
  subst hm
  exact merge_left hv h1 h2 hb hr hx hlow hup
theorem merge_right' {xs ys : List Pair} {a m b i : Nat} {x : Pair} (hm : b = m + 1) (hv : Via xs ys (rotI i m b)) (h1 : a ≤ i) (h2 : i ≤ m) (hb : b ≤ xs.length) (hl : SrtI xs a m) (hx : xs[m]? = some x)
    (hlow : i = a ∨ ∃ u, xs[i - 1]? = some u ∧ ltS x.key u.key = false) (hup : i = m ∨ ∃ u, xs[i]? = some u ∧ ltS x.key u.key = true) : Sorts xs ys a b := by
  subst hm
  exact merge_right hv h1 h2 hb hl hx hlow hup

/-- Blocks of one size, each in order. -/
def BlkS (xs : List Pair) (lo hi bs : Nat) : Prop := ∀ p q x y, lo ≤ p → p < q → q < hi → p / bs = q / bs → xs[p]? = some x → xs[q]? = some y → ltS y.key x.key = false
theorem div_at {c bs p : Nat} (h1 : c * bs ≤ p) (h2 : p < (c + 1) * bs) : p / bs = c := Nat.div_eq_of_lt_le h1 h2
theorem BlkS.at {xs : List Pair} {lo hi bs c a b : Nat} (h : BlkS xs lo hi bs) (ha : a = c * bs) (hlo : lo ≤ a) (hb : b ≤ a + bs) (hh : b ≤ hi) : SrtI xs a b := by
  intro p q x y p1 p2 p3 hx hy
  refine h p q x y (by omega) p2 (by omega) ?_ hx hy
  have : (c + 1) * bs = c * bs + bs := Nat.succ_mul c bs
  rw [div_at (c := c) (by omega) (by omega), div_at (c := c) (by omega) (by omega)]
/-- One block more. -/
theorem BlkS.more {xs ys : List Pair} {bs c a b : Nat} (h : BlkS xs 0 a bs) (ha : a = c * bs) (hb : b ≤ a + bs) (hi : InI xs ys a b) (hs : SrtI ys a b) : BlkS ys 0 b bs := by
  intro p q x y p1 p2 p3 hd hx hy
  have e1 : (c + 1) * bs = c * bs + bs := Nat.succ_mul c bs
  rcases Nat.lt_or_ge p a with c1 | c1
  · rcases Nat.lt_or_ge q a with c2 | c2
    · rw [hi.2.1 p (by omega)] at hx
      rw [hi.2.1 q (by omega)] at hy
      exact h p q x y p1 p2 c2 hd hx hy
    · exfalso
      have hq : q / bs = c := div_at (by omega) (by omega)
      have hbs : 0 < bs := by omega
      have : p / bs < c := (Nat.div_lt_iff_lt_mul hbs).2 (by omega)
      omega
  · exact hs p q x y c1 p2 p3 hx hy
theorem BlkS.same {xs ys : List Pair} {lo hi bs lo' : Nat} (h : BlkS xs lo hi bs) (hl : lo ≤ lo') (he : ∀ t, lo' ≤ t → ys[t]? = xs[t]?) : BlkS ys lo' hi bs := by
  intro p q x y p1 p2 p3 hd hx hy
  rw [he p (by omega)] at hx
  rw [he q (by omega)] at hy
  exact h p q x y (by omega) p2 p3 hd hx hy
theorem BlkS.nil (xs : List Pair) (bs : Nat) : BlkS xs 0 0 bs := fun p q x y p1 p2 p3 => by omega
theorem BlkS.all {xs : List Pair} {n bs : Nat} (h : BlkS xs 0 n bs) (hn : n ≤ bs) : SrtI xs 0 n := by
  intro p q x y p1 p2 p3 hx hy
  refine h p q x y p1 p2 p3 ?_ hx hy
  rw [Nat.div_eq_of_lt (by omega), Nat.div_eq_of_lt (by omega)]
theorem blk_two {zs : List Pair} {a n bs : Nat} (h : BlkS zs a n bs) (hc : ∃ c, a = c * (2 * bs)) (hn : a + bs ≤ n) : SrtI zs a (a + bs) ∧ ∀ b, b ≤ a + 2 * bs → b ≤ n → SrtI zs (a + bs) b := by
  obtain ⟨c, rfl⟩ := hc
  have e : c * (2 * bs) = (2 * c) * bs := by rw [← Nat.mul_assoc, Nat.mul_comm c 2]
  have e2 : (2 * c + 1) * bs = (2 * c) * bs + bs := Nat.succ_mul _ _
  refine ⟨h.at (c := 2 * c) e (Nat.le_refl _) (Nat.le_refl _) hn, fun b h1 h2 => h.at (c := 2 * c + 1) (by omega) (by omega) (by omega) h2⟩
theorem blk_rest {zs : List Pair} {a n bs : Nat} (h : BlkS zs a n bs) (hc : ∃ c, a = c * (2 * bs)) (hn : n ≤ a + bs) : SrtI zs a n := by
  obtain ⟨c, rfl⟩ := hc
  exact h.at (c := 2 * c) (by rw [← Nat.mul_assoc, Nat.mul_comm c 2]) (Nat.le_refl _) hn (Nat.le_refl _)
theorem blk_next {zs ws : List Pair} {a b bs : Nat} (h : BlkS zs 0 a (2 * bs)) (hc : ∃ c, a = c * (2 * bs)) (hb : b ≤ a + 2 * bs) (hs : Sorts zs ws a b) : BlkS ws 0 b (2 * bs) := by
  obtain ⟨c, hc⟩ := hc
  exact h.more hc hb hs.ins hs.srt
theorem mul_next {a bs : Nat} (hc : ∃ c, a = c * (2 * bs)) : ∃ c, a + 2 * bs = c * (2 * bs) := by
  obtain ⟨c, rfl⟩ := hc
  exact ⟨c + 1, (Nat.succ_mul c (2 * bs)).symm⟩
/-- In order from a place on, neighbour by neighbour. -/
def AdjI (xs : List Pair) (i : Nat) : Prop := ∀ t x y, i ≤ t → xs[t]? = some x → xs[t + 1]? = some y → ltS y.key x.key = false
theorem adj_ord {xs : List Pair} (h : AdjI xs 0) : Ord xs := by
  refine SrtI.ord ?_
  have key : ∀ d p x y, xs[p]? = some x → xs[p + d + 1]? = some y → ltS y.key x.key = false := by
    intro d
    induction d with
    | zero => intro p x y hx hy; exact h p x y (Nat.zero_le _) hx hy
    | succ d ih =>
      intro p x y hx hy
      have hl : p + d + 1 < xs.length := by have := (List.getElem?_eq_some_iff.1 hy).1; omega
      have hz := List.getElem?_eq_getElem hl
      exact leS_trans (ih p x _ hx hz) (h (p + d + 1) _ y (Nat.zero_le _) hz hy)
  intro p q x y _ h2 _ hx hy
  exact key (q - p - 1) p x y hx (by rw [show p + (q - p - 1) + 1 = q by omega]; exact hy)
theorem ord_adj {xs : List Pair} {j : Nat} {x y : Pair} (ho : Ord xs) (hj : 0 < j) (hx : xs[j]? = some x) (hy : xs[j - 1]? = some y) : ltS x.key y.key = false := by
  unfold Ord at ho
  rw [List.pairwise_iff_getElem] at ho
  have l1 := List.getElem?_eq_some_iff.1 hx
  have l2 := List.getElem?_eq_some_iff.1 hy
  have := ho (j - 1) j l2.1 l1.1 (by omega)
  rwa [l1.2, l2.2] at this
theorem adj_more {xs : List Pair} {j : Nat} {x y : Pair} (h : AdjI xs j) (hj : 0 < j) (hx : xs[j]? = some x) (hy : xs[j - 1]? = some y) (hlt : ltS x.key y.key = false) : AdjI xs (j - 1) := by
  intro t u v ht hu hv
  rcases Nat.lt_or_ge t j with c | c
  · obtain rfl : t = j - 1 := by omega
    rw [hy] at hu
    rw [show j - 1 + 1 = j by omega, hx] at hv
    obtain rfl := Option.some.inj hu
    obtain rfl := Option.some.inj hv
    exact hlt
  · exact h t u v c hu hv
theorem adj_end (xs : List Pair) : AdjI xs (xs.length - 1) := fun t x y ht hx hy => by
  have := (List.getElem?_eq_some_iff.1 hy).1
  omega
end Go.Proofs.YtlpgdkbokakniaaGreatDoor.X
