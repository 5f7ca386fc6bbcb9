/- Putting pairs in order, in plain lists: what a stable order is, and that there is one only. No program in sight. -/
import Derived.Test.YtlpgdkbokakniaaGreatDoorXR
import Derived.Sort.Walk0
set_option linter.unusedVariables false
namespace Go.Proofs.YtlpgdkbokakniaaGreatDoor.X
open Go

theorem ltS_lt (a b : ByteArray) : ltS a b = decide (a.data.toList < b.data.toList) := Proofs.bytesLess_eq _ _
theorem ltS_irrefl (a : ByteArray) : ltS a a = false := by
  rw [ltS_lt]
  exact decide_eq_false (List.lt_irrefl _)
theorem ltS_trans {a b c : ByteArray} (h1 : ltS a b = true) (h2 : ltS b c = true) : ltS a c = true := by
  rw [ltS_lt] at *
  exact decide_eq_true (List.lt_trans (of_decide_eq_true h1) (of_decide_eq_true h2))
theorem ltS_asymm {a b : ByteArray} (h1 : ltS a b = true) : ltS b a = false := by
  cases h : ltS b a with
  | false => rfl
  | true => have := ltS_trans h1 h; rw [ltS_irrefl] at this; cases this
theorem ltS_eq {a b : ByteArray} (h1 : ltS a b = false) (h2 : ltS b a = false) : a = b := by
  rw [ltS_lt] at *
  have h1 := of_decide_eq_false h1
  have h2 := of_decide_eq_false h2
  exact toList_inj (List.le_antisymm h2 h1)
/-- Not above and not above: not above. -/
theorem leS_trans {a b c : ByteArray} (h1 : ltS b a = false) (h2 : ltS c b = false) : ltS c a = false := by
  cases h : ltS c a with
  | false => rfl
  | true =>
    cases h3 : ltS a b with
    | true => have := ltS_trans h h3; rw [this] at h2; cases h2
    | false =>
      have := ltS_eq h3 h1
      subst this
      rw [h] at h2
      cases h2
theorem ltS_le {a b c : ByteArray} (h1 : ltS a b = true) (h2 : ltS c b = false) : ltS a c = true := by
  cases h : ltS a c with
  | true => rfl
  | false => have := leS_trans h2 h; rw [this] at h1; cases h1
theorem le_ltS {a b c : ByteArray} (h1 : ltS b a = false) (h2 : ltS b c = true) : ltS a c = true := by
  cases h : ltS a c with
  | true => rfl
  | false => have := leS_trans h h1; rw [this] at h2; cases h2

/-- Of each key the same pairs, in the same order. -/
def Stab (xs ys : List Pair) : Prop := xs.length = ys.length ∧ ∀ k : ByteArray, xs.filter (fun p => decide (p.key = k)) = ys.filter (fun p => decide (p.key = k))
theorem Stab.refl (xs : List Pair) : Stab xs xs := ⟨rfl, fun _ => rfl⟩
theorem Stab.trans {xs ys zs : List Pair} (h1 : Stab xs ys) (h2 : Stab ys zs) : Stab xs zs := ⟨h1.1.trans h2.1, fun k => (h1.2 k).trans (h2.2 k)⟩
theorem Stab.symm {xs ys : List Pair} (h1 : Stab xs ys) : Stab ys xs := ⟨h1.1.symm, fun k => (h1.2 k).symm⟩
theorem Stab.append {a b c d : List Pair} (h1 : Stab a b) (h2 : Stab c d) : Stab (a ++ c) (b ++ d) :=
  ⟨by rw [List.length_append, List.length_append, h1.1, h2.1], fun k => by rw [List.filter_append, List.filter_append, h1.2, h2.2]⟩
theorem Stab.mem {xs ys : List Pair} (h : Stab xs ys) {p : Pair} (hp : p ∈ xs) : p ∈ ys := by
  have : p ∈ xs.filter (fun q => decide (q.key = p.key)) := List.mem_filter.2 ⟨hp, by simp⟩
  rw [h.2] at this
  exact (List.mem_filter.1 this).1
/-- In order. -/
def Ord (xs : List Pair) : Prop := xs.Pairwise fun p q => ltS q.key p.key = false
instance (xs : List Pair) : Decidable (Ord xs) := by unfold Ord; infer_instance

def ins (p : Pair) : List Pair → List Pair
  | [] => [p]
  | q :: l => if ltS q.key p.key = true then q :: ins p l else p :: q :: l
/-- The pairs in order. -/
def srt : List Pair → List Pair
  | [] => []
  | p :: l => ins p (srt l)
theorem ins_mem {p q : Pair} : ∀ {l : List Pair}, q ∈ ins p l ↔ q = p ∨ q ∈ l
  | [] => by simp [ins]
  | r :: l => by
    unfold ins
    split
    · rw [List.mem_cons, ins_mem, List.mem_cons]
      constructor <;> (rintro (h | h | h) <;> simp [h])
    · simp
theorem ins_ord {p : Pair} : ∀ {l : List Pair}, Ord l → Ord (ins p l)
  | [], _ => by simp [ins, Ord]
  | q :: l, h => by
    have h' := List.pairwise_cons.1 h
    unfold ins
    split
    · rename_i hlt
      refine List.pairwise_cons.2 ⟨fun r hr => ?_, ins_ord h'.2⟩
      rcases ins_mem.1 hr with rfl | hr
      · exact ltS_asymm hlt
      · exact h'.1 r hr
    · rename_i hlt
      have hlt : ltS q.key p.key = false := by simpa using hlt
      refine List.pairwise_cons.2 ⟨fun r hr => ?_, h⟩
      rcases List.mem_cons.1 hr with rfl | hr
      · exact hlt
      · exact leS_trans hlt (h'.1 r hr)
theorem ins_stab {p : Pair} : ∀ {l : List Pair}, Stab (p :: l) (ins p l)
  | [] => Stab.refl _
  | q :: l => by
    unfold ins
    split
    · rename_i hlt
      have hne : p.key ≠ q.key := fun e => by rw [e, ltS_irrefl] at hlt; cases hlt
      have h1 : Stab (p :: q :: l) (q :: p :: l) := by
        refine ⟨by simp, fun k => ?_⟩
        by_cases hp : p.key = k
        · have : ¬ q.key = k := fun e => hne (hp.trans e.symm)
          simp [hp, this]
        · simp [List.filter_cons, hp]
      exact h1.trans (Stab.append (Stab.refl [q]) (ins_stab (p := p) (l := l)))
    · exact Stab.refl _
theorem srt_ord : ∀ l : List Pair, Ord (srt l)
  | [] => List.Pairwise.nil
  | _ :: l => ins_ord (srt_ord l)
theorem srt_stab : ∀ l : List Pair, Stab l (srt l)
  | [] => Stab.refl _
  | p :: l => (Stab.append (Stab.refl [p]) (srt_stab l)).trans ins_stab
/-- There is one only. -/
theorem ord_one : ∀ {xs ys : List Pair}, Ord xs → Ord ys → Stab xs ys → xs = ys
  | [], ys, _, _, h => (List.eq_nil_of_length_eq_zero h.1.symm).symm
  | x :: xs, [], _, _, h => by cases h.1
  | x :: xs, y :: ys, hx, hy, h => by
    have hx' := List.pairwise_cons.1 hx
    have hy' := List.pairwise_cons.1 hy
    have hk : x.key = y.key := by
      refine ltS_eq ?_ ?_
      · rcases List.mem_cons.1 (h.mem (List.mem_cons_self ..) : x ∈ y :: ys) with e | hm
        · rw [e, ltS_irrefl]
        · exact hy'.1 x hm
      · rcases List.mem_cons.1 (h.symm.mem (List.mem_cons_self ..) : y ∈ x :: xs) with e | hm
        · rw [e, ltS_irrefl]
        · exact hx'.1 y hm
    have he := h.2 x.key
    rw [List.filter_cons_of_pos (by simp), List.filter_cons_of_pos (by simp [hk])] at he
    obtain ⟨rfl, _⟩ := List.cons.inj he
    rw [ord_one hx'.2 hy'.2 ⟨by simpa using h.1, fun k => ?_⟩]
    have hk2 := h.2 k
    by_cases hxk : x.key = k
    · rw [List.filter_cons_of_pos (by simp [hxk]), List.filter_cons_of_pos (by simp [hxk])] at hk2
      exact (List.cons.inj hk2).2
    · rw [List.filter_cons_of_neg (by simp [hxk]), List.filter_cons_of_neg (by simp [hxk])] at hk2
      exact hk2
theorem srt_of {xs ys : List Pair} (h : Stab xs ys) (ho : Ord ys) : ys = srt xs := ord_one ho (srt_ord xs) (h.symm.trans (srt_stab xs))
theorem srt_of_ord {xs : List Pair} (ho : Ord xs) : srt xs = xs := (srt_of (Stab.refl xs) ho).symm
theorem srt_congr {xs ys : List Pair} (h : Stab xs ys) : srt xs = srt ys := (srt_of (h.trans (srt_stab ys)) (srt_ord ys)).symm
theorem srt_srt (xs : List Pair) : srt (srt xs) = srt xs := srt_of_ord (srt_ord xs)
theorem srt_len (xs : List Pair) : (srt xs).length = xs.length := (srt_stab xs).1.symm
theorem ord_iff {xs : List Pair} : Ord xs ↔ xs = srt xs := ⟨fun h => (srt_of_ord h).symm, fun h => h ▸ srt_ord xs⟩
end Go.Proofs.YtlpgdkbokakniaaGreatDoor.X
