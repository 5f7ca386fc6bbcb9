/- Putting pairs in order, in plain lists: the merge of two neighbouring runs by rotation. No program in sight. -/
import Derived.Test.YtlpgdkbokakniaaGreatDoorXT2
set_option linter.unusedVariables false
namespace Go.Proofs.YtlpgdkbokakniaaGreatDoor.X
open Go

theorem SrtI.le {xs : List Pair} {a b p q : Nat} {x y : Pair} (h : SrtI xs a b) (h1 : a ≤ p) (h2 : p ≤ q) (h3 : q < b) (hx : xs[p]? = some x) (hy : xs[q]? = some y) : ltS y.key x.key = false := by
  rcases Nat.lt_or_ge p q with h' | h'
  · exact h p q x y h1 h' h3 hx hy
  · obtain rfl : p = q := by omega
    rw [hx] at hy
    obtain rfl := Option.some.inj hy
    exact ltS_irrefl _

theorem rot_runs {xs ys : List Pair} {a m b s mid e : Nat} (hv : Via xs ys (rotI s m e)) (h1 : a ≤ s) (h2 : s ≤ m) (h3 : m ≤ e) (h4 : e ≤ b) (hmid : mid = s + (e - m)) (hl : SrtI xs a m) (hr : SrtI xs m b) :
    SrtI ys a s ∧ SrtI ys s mid ∧ SrtI ys mid e ∧ SrtI ys e b := by
  subst hmid
  refine ⟨?_, ?_, ?_, ?_⟩
  · refine (hl.sub (Nat.le_refl _) h2).same fun t ht1 ht2 => ?_
    rw [hv.2, show rotI s m e t = t by unfold rotI; rw [if_neg (by omega), if_neg (by omega)]]
  · intro p q x y p1 p2 p3 hx hy
    rw [hv.2, show rotI s m e p = p + (m - s) by unfold rotI; rw [if_pos (by omega)]] at hx
    rw [hv.2, show rotI s m e q = q + (m - s) by unfold rotI; rw [if_pos (by omega)]] at hy
    exact hr _ _ x y (by omega) (by omega) (by omega) hx hy
  · intro p q x y p1 p2 p3 hx hy
    rw [hv.2, show rotI s m e p = p - (e - m) by unfold rotI; rw [if_neg (by omega), if_pos (by omega)]] at hx
    rw [hv.2, show rotI s m e q = q - (e - m) by unfold rotI; rw [if_neg (by omega), if_pos (by omega)]] at hy
    exact hl _ _ x y (by omega) (by omega) (by omega) hx hy
  · refine (hr.sub h3 (Nat.le_refl _)).same fun t ht1 ht2 => ?_
    rw [hv.2, show rotI s m e t = t by unfold rotI; rw [if_neg (by omega), if_neg (by omega)]]

theorem Sorts.refl {xs : List Pair} {a b : Nat} (h : SrtI xs a b) : Sorts xs xs a b := ⟨Stab.refl _, InI.refl _ _ _, h⟩
/-- A run cut at its end or its begin is in order already. -/
theorem runs_skip {xs : List Pair} {a s mid : Nat} (h1 : SrtI xs a s) (h2 : SrtI xs s mid) (h : ¬ (a < s ∧ s < mid)) (hs : a ≤ s) : SrtI xs a mid := by
  rcases Nat.lt_or_ge a s with c | c
  · exact h1.sub (Nat.le_refl _) (by omega)
  · exact h2.sub (by omega) (Nat.le_refl _)

theorem merge_parts {xs ys zs ws : List Pair} {a m b s mid e : Nat} (hv : Via xs ys (rotI s m e)) (h1 : a ≤ s) (h2 : s ≤ m) (h3 : m ≤ e) (h4 : e ≤ b) (hb : b ≤ xs.length) (hmid : mid = s + (e - m)) (hl : SrtI xs a m) (hr : SrtI xs m b)
    (hlow : s = a ∨ e = b ∨ ∃ u v, xs[s - 1]? = some u ∧ xs[e]? = some v ∧ ltS v.key u.key = false)
    (hup : s = m ∨ e = m ∨ ∃ u v, xs[e - 1]? = some u ∧ xs[s]? = some v ∧ ltS u.key v.key = true)
    (hz : Sorts ys zs a mid) (hw : Sorts zs ws mid b) : Sorts xs ws a b := by
  have hkey : ∀ p q x y, s ≤ p → p < m → m ≤ q → q < e → xs[p]? = some x → xs[q]? = some y → ltS y.key x.key = true := by
    intro p q x y p1 p2 q1 q2 hx hy
    rcases hup with c | c | ⟨u, v, hu, hv', hlt⟩
    · omega
    · omega
    · exact ltS_le (le_ltS (hr.le (p := q) (q := e - 1) q1 (by omega) (by omega) hy hu) hlt) (hl.le (p := s) (q := p) h1 p1 p2 hv' hx)
  have s1 : Stab xs ys := rot_stab hv h2 h3 (by omega) fun p q x y p1 p2 q1 q2 hx hy e => by
    have := hkey p q x y p1 p2 q1 q2 hx hy
    rw [e, ltS_irrefl] at this
    cases this
  have i1 : InI xs ys a b := (rot_in hv h2 h3).wider h1 h4
  have hm1 : s ≤ mid := by omega
  have hm2 : mid ≤ e := by omega
  refine ⟨s1.trans (hz.stab.trans hw.stab), i1.trans ((hz.ins.wider (Nat.le_refl _) (by omega)).trans (hw.ins.wider (by omega) (Nat.le_refl _))), fun p q x y p1 p2 p3 hx hy => ?_⟩
  rcases Nat.lt_or_ge q mid with c | c
  · rw [hw.ins.2.1 p (by omega)] at hx
    rw [hw.ins.2.1 q (by omega)] at hy
    exact hz.srt p q x y p1 p2 c hx hy
  rcases Nat.lt_or_ge p mid with c' | c'
  · rw [hw.ins.2.1 p (by omega)] at hx
    obtain ⟨u, u1, u2, hu⟩ := hz.ins.2.2 p p1 c'
    rw [hx] at hu
    obtain ⟨t, t1, t2, ht⟩ := hw.ins.2.2 q c p3
    rw [hy, hz.ins.2.1 t (by omega)] at ht
    -- the pair at u of ys is x, the pair at t of ys is y
    have hxu := hv.2 u
    have hyt := hv.2 t
    rw [← hu] at hxu
    rw [← ht] at hyt
    rcases Nat.lt_or_ge u s with cu | cu
    · rw [show rotI s m e u = u by unfold rotI; rw [if_neg (by omega), if_neg (by omega)]] at hxu
      rcases Nat.lt_or_ge t e with ct | ct
      · rw [show rotI s m e t = t - (e - m) by unfold rotI; rw [if_neg (by omega), if_pos (by omega)]] at hyt
        exact hl u _ x y u1 (by omega) (by omega) hxu.symm hyt.symm
      · rw [show rotI s m e t = t by unfold rotI; rw [if_neg (by omega), if_neg (by omega)]] at hyt
        rcases hlow with d | d | ⟨u', v', hu', hv', hlt⟩
        · omega
        · omega
        · exact leS_trans (hl.le (p := u) (q := s - 1) u1 (by omega) (by omega) hxu.symm hu') (leS_trans hlt (hr.le (p := e) (q := t) h3 ct t2 hv' hyt.symm))
    · rw [show rotI s m e u = u + (m - s) by unfold rotI; rw [if_pos (by omega)]] at hxu
      rcases Nat.lt_or_ge t e with ct | ct
      · rw [show rotI s m e t = t - (e - m) by unfold rotI; rw [if_neg (by omega), if_pos (by omega)]] at hyt
        exact ltS_asymm (hkey _ _ y x (by omega) (by omega) (by omega) (by omega) hyt.symm hxu.symm)
      · rw [show rotI s m e t = t by unfold rotI; rw [if_neg (by omega), if_neg (by omega)]] at hyt
        exact hr _ t x y (by omega) (by omega) t2 hxu.symm hyt.symm
  · exact hw.srt p q x y c' p2 p3 hx hy

theorem merge_left {xs ys : List Pair} {a b i : Nat} {x : Pair} (hv : Via xs ys (rotI a (a + 1) i)) (h1 : a + 1 ≤ i) (h2 : i ≤ b) (hb : b ≤ xs.length) (hr : SrtI xs (a + 1) b) (hx : xs[a]? = some x)
    (hlow : i = a + 1 ∨ ∃ u, xs[i - 1]? = some u ∧ ltS u.key x.key = true) (hup : i = b ∨ ∃ u, xs[i]? = some u ∧ ltS u.key x.key = false) : Sorts xs ys a b := by
  have hruns := rot_runs hv (Nat.le_refl a) (by omega) h1 h2 rfl (SrtI.one xs (Nat.le_refl _)) hr
  have e1 : a + (i - (a + 1)) = i - 1 := by omega
  rw [e1] at hruns
  -- low: nothing stands below a; up: what stands below i is below x
  have hs : Sorts ys ys a (i - 1) := Sorts.refl hruns.2.1
  have hyx : ys[i - 1]? = some x := by rw [hv.2, show rotI a (a + 1) i (i - 1) = a by unfold rotI; rw [if_neg (by omega), if_pos (by omega)]; omega, hx]
  have hw : Sorts ys ys (i - 1) b := by
    refine Sorts.refl fun p q u v p1 p2 p3 hu hw => ?_
    rcases Nat.lt_or_ge p i with c | c
    · obtain rfl : p = i - 1 := by omega
      rw [hyx] at hu
      obtain rfl := Option.some.inj hu
      rw [hv.2, show rotI a (a + 1) i q = q by unfold rotI; rw [if_neg (by omega), if_neg (by omega)]] at hw
      rcases hup with d | ⟨u', hu', hlt⟩
      · omega
      · exact leS_trans hlt (hr.le (p := i) (q := q) h1 (by omega) p3 hu' hw)
    · exact hruns.2.2.2 p q u v c p2 p3 hu hw
  refine merge_parts hv (Nat.le_refl _) (by omega) h1 h2 hb e1.symm (SrtI.one xs (Nat.le_refl _)) hr (.inl rfl) ?_ hs hw
  rcases hlow with d | ⟨u, hu, hlt⟩
  · exact .inr (.inl d)
  · exact .inr (.inr ⟨u, x, hu, hx, hlt⟩)

theorem merge_right {xs ys : List Pair} {a m i : Nat} {x : Pair} (hv : Via xs ys (rotI i m (m + 1))) (h1 : a ≤ i) (h2 : i ≤ m) (hb : m + 1 ≤ xs.length) (hl : SrtI xs a m) (hx : xs[m]? = some x)
    (hlow : i = a ∨ ∃ u, xs[i - 1]? = some u ∧ ltS x.key u.key = false) (hup : i = m ∨ ∃ u, xs[i]? = some u ∧ ltS x.key u.key = true) : Sorts xs ys a (m + 1) := by
  have hruns := rot_runs hv h1 h2 (by omega) (Nat.le_refl _) rfl hl (SrtI.one xs (by omega))
  have e1 : i + (m + 1 - m) = i + 1 := by omega
  rw [e1] at hruns
  have hyx : ys[i]? = some x := by rw [hv.2, show rotI i m (m + 1) i = m by unfold rotI; rw [if_pos (by omega)]; omega, hx]
  have hs : Sorts ys ys a (i + 1) := by
    refine Sorts.refl fun p q u v p1 p2 p3 hu hw => ?_
    rcases Nat.lt_or_ge q i with c | c
    · exact hruns.1 p q u v p1 p2 c hu hw
    · obtain rfl : q = i := by omega
      rw [hyx] at hw
      obtain rfl := Option.some.inj hw
      rw [hv.2, show rotI q m (m + 1) p = p by unfold rotI; rw [if_neg (by omega), if_neg (by omega)]] at hu
      rcases hlow with d | ⟨u', hu', hlt⟩
      · omega
      · exact leS_trans (hl.le (p := p) (q := q - 1) p1 (by omega) (by omega) hu hu') hlt
  have hw : Sorts ys ys (i + 1) (m + 1) := Sorts.refl hruns.2.2.1
  refine merge_parts hv h1 h2 (by omega) (Nat.le_refl _) hb e1.symm hl (SrtI.one xs (by omega)) (.inr (.inl rfl)) ?_ hs hw
  rcases hup with d | ⟨u, hu, hlt⟩
  · exact .inl d
  · exact .inr (.inr ⟨x, u, by rw [show m + 1 - 1 = m by omega]; exact hx, hu, hlt⟩)
end Go.Proofs.YtlpgdkbokakniaaGreatDoor.X
