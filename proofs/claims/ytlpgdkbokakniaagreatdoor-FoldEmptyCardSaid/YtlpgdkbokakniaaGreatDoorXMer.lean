/- Merging sorted lists of pairs: plain laws. No program in sight. -/
import Derived.Test.YtlpgdkbokakniaaGreatDoorXPair
set_option linter.unusedVariables false
namespace Go.Proofs.YtlpgdkbokakniaaGreatDoor.X
open Go
theorem drop1 {α : Type} {l : List α} {x : α} (h : l[0]? = some x) : l = x :: l.drop 1 := by
  cases l with
  | nil => simp at h
  | cons y l => simp at h; subst h; rfl
theorem mer_a {al bl : List Pair} {x y : Pair} (hx : al[0]? = some x) (hy : bl[0]? = some y) (ha : Ord al) (hb : Ord bl) (h : ¬ ltS y.key x.key = true) : srt (al ++ bl) = x :: srt (al.drop 1 ++ bl) := by
  have h' : ltS y.key x.key = false := by simpa using h
  have ea := drop1 hx
  have eb := drop1 hy
  rw [ea] at ha
  rw [eb] at hb
  obtain ⟨ha1, ha2⟩ := List.pairwise_cons.1 ha
  obtain ⟨hb1, hb2⟩ := List.pairwise_cons.1 hb
  refine (srt_of ?_ ?_).symm
  · have : Stab (x :: (al.drop 1 ++ bl)) (x :: srt (al.drop 1 ++ bl)) := Stab.append (a := [x]) (b := [x]) (Stab.refl _) (srt_stab _)
    rwa [← List.cons_append, ← ea] at this
  · refine List.pairwise_cons.2 ⟨fun q hq => ?_, srt_ord _⟩
    have hq' := (srt_stab (al.drop 1 ++ bl)).symm.mem hq
    rcases List.mem_append.1 hq' with h1 | h1
    · exact ha1 q h1
    · rw [eb] at h1
      rcases List.mem_cons.1 h1 with rfl | h2
      · exact h'
      · exact leS_trans h' (hb1 q h2)
theorem mer_b {al bl : List Pair} {x y : Pair} (hx : al[0]? = some x) (hy : bl[0]? = some y) (ha : Ord al) (hb : Ord bl) (h : ltS y.key x.key = true) : srt (al ++ bl) = y :: srt (al ++ bl.drop 1) := by
  have ea := drop1 hx
  have eb := drop1 hy
  have ha0 := ha
  rw [ea] at ha0
  rw [eb] at hb
  obtain ⟨ha1, ha2⟩ := List.pairwise_cons.1 ha0
  obtain ⟨hb1, hb2⟩ := List.pairwise_cons.1 hb
  have hal : ∀ q ∈ al, ltS y.key q.key = true := by
    intro q hq
    rw [ea] at hq
    rcases List.mem_cons.1 hq with rfl | h2
    · exact h
    · exact ltS_le h (ha1 q h2)
  refine (srt_of ?_ ?_).symm
  · have h1 : Stab (al ++ bl) (y :: (al ++ bl.drop 1)) := by
      refine stab_of fun k => ?_
      rw [eb, List.drop_succ_cons, List.drop_zero, List.filter_append, List.filter_cons, List.filter_cons, List.filter_append]
      by_cases hk : y.key = k
      · have : al.filter (fun p => decide (p.key = k)) = [] := List.filter_eq_nil_iff.2 fun q hq => by
          have := hal q hq
          rw [hk] at this
          simp only [decide_eq_true_eq]
          intro e
          rw [e, ltS_irrefl] at this
          cases this
        simp [this, hk]
      · simp [hk]
    exact h1.trans (Stab.append (a := [y]) (b := [y]) (Stab.refl _) (srt_stab _))
  · refine List.pairwise_cons.2 ⟨fun q hq => ?_, srt_ord _⟩
    have hq' := (srt_stab (al ++ bl.drop 1)).symm.mem hq
    rcases List.mem_append.1 hq' with h1 | h1
    · exact ltS_asymm (hal q h1)
    · exact hb1 q h1
theorem mer_end {al bl : List Pair} (ha : Ord al) (hb : Ord bl) (h : al.length = 0 ∨ bl.length = 0) : srt (al ++ bl) = al ++ bl := by
  rcases h with h | h
  · rw [List.eq_nil_of_length_eq_zero h]; exact srt_of_ord hb
  · rw [List.eq_nil_of_length_eq_zero h, List.append_nil]; exact srt_of_ord ha
theorem ord_drop {al : List Pair} (ha : Ord al) (k : Nat) : Ord (al.drop k) := List.Pairwise.sublist (List.drop_sublist k al) ha

/-- All runs, one behind the other. -/
def flat2 (us : List (Value × List Pair)) : List Pair := us.flatMap (·.2)
theorem flat2_step {us : List (Value × List Pair)} {k : Nat} {u : Value} {x : List Pair} (hx : us[k]? = some (u, x)) : flat2 (us.take (k + 1)) = flat2 (us.take k) ++ x := by
  unfold flat2
  rw [take_snoc hx, List.flatMap_append]
  simp
theorem flat2_app (a b : List (Value × List Pair)) : flat2 (a ++ b) = flat2 a ++ flat2 b := by simp [flat2]
theorem flat2_le (us : List (Value × List Pair)) (k : Nat) : (flat2 (us.take k)).length ≤ (flat2 us).length := by
  have : (flat2 us).length = (flat2 (us.take k)).length + (flat2 (us.drop k)).length := by rw [← List.length_append, ← flat2_app, List.take_append_drop]
  omega
theorem flat2_le' (us : List (Value × List Pair)) (k : Nat) : (flat2 (us.drop k)).length ≤ (flat2 us).length := by
  have : (flat2 us).length = (flat2 (us.take k)).length + (flat2 (us.drop k)).length := by rw [← List.length_append, ← flat2_app, List.take_append_drop]
  omega
theorem flat2_bound {us : List (Value × List Pair)} {n : Nat} (h : ∀ p ∈ us, p.2.length ≤ n) : (flat2 us).length ≤ us.length * n := by
  induction us with
  | nil => simp [flat2]
  | cons p us ih =>
    have h1 := ih fun q hq => h q (List.mem_cons_of_mem _ hq)
    have h2 := h p (List.mem_cons_self ..)
    show (p.2 ++ flat2 us).length ≤ _
    rw [List.length_append, List.length_cons, Nat.succ_mul]
    omega
theorem srt_app_srt (a b : List Pair) : srt (srt a ++ b) = srt (a ++ b) := srt_congr (Stab.append (srt_stab a).symm (Stab.refl b))
theorem srt_app_srt2 (a b : List Pair) : srt (srt a ++ srt b) = srt (a ++ b) := srt_congr (Stab.append (srt_stab a).symm (srt_stab b).symm)
theorem at_mem {α : Type} {xs : List α} {k : Nat} {x : α} (h : xs[k]? = some x) : x ∈ xs := List.mem_of_getElem? h
theorem flat2_two {us : List (Value × List Pair)} {u v : Value} {x y : List Pair} (h0 : us[0]? = some (u, x)) (h1 : us[1]? = some (v, y)) : flat2 (us.take 2) = x ++ y := by
  rw [flat2_step (k := 1) h1, flat2_step (k := 0) h0]
  simp [flat2]
end Go.Proofs.YtlpgdkbokakniaaGreatDoor.X
