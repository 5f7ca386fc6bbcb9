/- Pairs: the keys, a key's values, the reference's order, in plain lists. No program in sight. -/
import Derived.Test.YtlpgdkbokakniaaGreatDoorXT4
import Derived.Test.YtlpgdkbokakniaaGreatDoorXProg
set_option linter.unusedVariables false
namespace Go.Proofs.YtlpgdkbokakniaaGreatDoor.X
open Go

def ofL (ps : List Pair) (k : ByteArray) : List ByteArray := (ps.filter fun p => decide (p.key = k)).map (·.val)
theorem of_append (a b : List Pair) (k : ByteArray) : ofL (a ++ b) k = ofL a k ++ ofL b k := by simp [ofL]
theorem of_stab {a b : List Pair} (h : Stab a b) (k : ByteArray) : ofL a k = ofL b k := by unfold ofL; rw [h.2 k]
theorem filter_of (ps : List Pair) (k : ByteArray) : (ps.filter fun p => decide (p.key = k)) = (ofL ps k).map fun v => (⟨k, v⟩ : Pair) := by
  unfold ofL
  rw [List.map_map]
  conv => lhs; rw [← List.map_id (ps.filter fun p => decide (p.key = k))]
  refine List.map_congr_left fun p hp => ?_
  have := of_decide_eq_true (List.mem_filter.1 hp).2
  subst this
  rfl

/-- Rising texts. -/
def Rise (ks : List ByteArray) : Prop := ks.Pairwise fun a b => ltS a b = true
theorem rise_eq : ∀ {xs ys : List ByteArray}, Rise xs → Rise ys → (∀ x, x ∈ xs ↔ x ∈ ys) → xs = ys
  | [], [], _, _, _ => rfl
  | [], y :: ys, _, _, h => by have := (h y).2 (List.mem_cons_self ..); cases this
  | x :: xs, [], _, _, h => by have := (h x).1 (List.mem_cons_self ..); cases this
  | x :: xs, y :: ys, hx, hy, h => by
    have hx' := List.pairwise_cons.1 hx
    have hy' := List.pairwise_cons.1 hy
    have irr : ∀ a b : ByteArray, ltS a b = true → ltS b a = true → False := fun a b h1 h2 => by
      rw [ltS_asymm h1] at h2
      cases h2
    have irr1 : ∀ a : ByteArray, ltS a a = true → False := fun a h1 => by rw [ltS_irrefl] at h1; cases h1
    have e : x = y := by
      rcases List.mem_cons.1 ((h x).1 (List.mem_cons_self ..)) with e | h1
      · exact e
      · rcases List.mem_cons.1 ((h y).2 (List.mem_cons_self ..)) with e | h2
        · exact e.symm
        · exact (irr _ _ (hx'.1 y h2) (hy'.1 x h1)).elim
    subst e
    rw [rise_eq hx'.2 hy'.2]
    intro z
    constructor
    · intro hz
      rcases List.mem_cons.1 ((h z).1 (List.mem_cons_of_mem _ hz)) with e | h1
      · exact (irr1 _ (e ▸ hx'.1 z hz)).elim
      · exact h1
    · intro hz
      rcases List.mem_cons.1 ((h z).2 (List.mem_cons_of_mem _ hz)) with e | h1
      · exact (irr1 _ (e ▸ hy'.1 z hz)).elim
      · exact h1

/-- The reference's: a key put into its place. -/
def insK (x : ByteArray) : List ByteArray → List ByteArray
  | [] => [x]
  | k :: ks => if ltS k x = true then k :: insK x ks else if k = x then k :: ks else x :: k :: ks
def refK : List ByteArray → List ByteArray → List ByteArray
  | out, [] => out
  | out, x :: xs => refK (insK x out) xs
theorem insK_mem {x y : ByteArray} : ∀ {ks : List ByteArray}, y ∈ insK x ks ↔ y = x ∨ y ∈ ks
  | [] => by simp [insK]
  | k :: ks => by
    unfold insK
    split
    · rw [List.mem_cons, insK_mem, List.mem_cons]
      constructor <;> (rintro (h | h | h) <;> simp [h])
    · split
      · rename_i h
        subst h
        simp
      · simp
theorem insK_rise {x : ByteArray} : ∀ {ks : List ByteArray}, Rise ks → Rise (insK x ks)
  | [], _ => by simp [insK, Rise]
  | k :: ks, h => by
    have h' := List.pairwise_cons.1 h
    unfold insK
    split
    · rename_i hlt
      refine List.pairwise_cons.2 ⟨fun y hy => ?_, insK_rise h'.2⟩
      rcases insK_mem.1 hy with rfl | hy
      · exact hlt
      · exact h'.1 y hy
    · rename_i hlt
      split
      · exact h
      · rename_i hne
        have hxk : ltS x k = true := by
          cases hc : ltS x k with
          | true => rfl
          | false => exact absurd (ltS_eq (by simpa using hlt) hc) hne
        refine List.pairwise_cons.2 ⟨fun y hy => ?_, h⟩
        rcases List.mem_cons.1 hy with rfl | hy
        · exact hxk
        · exact ltS_trans hxk (h'.1 y hy)
theorem refK_spec : ∀ (xs out : List ByteArray), Rise out → Rise (refK out xs) ∧ ∀ y, y ∈ refK out xs ↔ y ∈ out ∨ y ∈ xs
  | [], out, h => ⟨h, fun y => by simp [refK]⟩
  | x :: xs, out, h => by
    have := refK_spec xs (insK x out) (insK_rise h)
    refine ⟨this.1, fun y => ?_⟩
    rw [refK, this.2, insK_mem, List.mem_cons]
    constructor
    · rintro ((h | h) | h) <;> simp [h]
    · rintro (h | h | h) <;> simp [h]
theorem compact_memG {α : Type} [Inhabited α] [DecidableEq α] (xs : List α) (x : α) : x ∈ Lib.compact xs ↔ x ∈ xs := by
  unfold Lib.compact Lib.compactUpTo
  simp only [List.mem_map, List.mem_filter, List.mem_range]
  constructor
  · rintro ⟨i, ⟨hi, _⟩, rfl⟩
    simp only [List.getElem!_toArray]
    rw [getElem!_pos xs i hi]
    exact List.getElem_mem hi
  · intro hx
    have key : ∀ (n i : Nat), i ≤ n → xs[i]? = some x → ∃ j, (j < xs.length ∧ Lib.keeps xs.toArray j = true) ∧ xs.toArray[j]! = x := by
      intro n
      induction n with
      | zero =>
        intro i hi he
        obtain rfl : i = 0 := by omega
        have hl := (List.getElem?_eq_some_iff.1 he).1
        refine ⟨0, ⟨hl, by simp [Lib.keeps]⟩, ?_⟩
        simp only [List.getElem!_toArray]
        rw [getElem!_pos xs 0 hl]
        exact (List.getElem?_eq_some_iff.1 he).2
      | succ n ih =>
        intro i hi he
        have hl := (List.getElem?_eq_some_iff.1 he).1
        have hv : xs.toArray[i]! = x := by
          simp only [List.getElem!_toArray]
          rw [getElem!_pos xs i hl]
          exact (List.getElem?_eq_some_iff.1 he).2
        by_cases hk : Lib.keeps xs.toArray i = true
        · exact ⟨i, ⟨hl, hk⟩, hv⟩
        · have : ¬ (i = 0 ∨ xs.toArray[i]! ≠ xs.toArray[i - 1]!) := by simpa [Lib.keeps] using hk
          have h0 : i ≠ 0 := fun e => this (.inl e)
          have he2 : xs.toArray[i]! = xs.toArray[i - 1]! := Classical.not_not.1 fun e => this (.inr e)
          refine ih (i - 1) (by omega) ?_
          rw [List.getElem?_eq_getElem (by omega), ← hv, he2]
          simp only [List.getElem!_toArray]
          rw [getElem!_pos xs (i - 1) (by omega)]
    obtain ⟨i, hi⟩ := List.getElem?_of_mem hx
    exact key i i (Nat.le_refl _) hi
theorem compact_riseG {α : Type} [Inhabited α] [DecidableEq α] {R : α → α → Prop} {xs : List α} (anti : ∀ a b, R a b → R b a → a = b) (refl : ∀ a, R a a) (h : xs.Pairwise R) : (Lib.compact xs).Pairwise fun a b => R a b ∧ a ≠ b := by
  unfold Lib.compact Lib.compactUpTo
  rw [List.pairwise_map]
  have h1 : ((List.range xs.length).filter (Lib.keeps xs.toArray)).Pairwise (· < ·) := List.Pairwise.filter _ List.pairwise_lt_range
  refine (List.Pairwise.and_mem.1 h1).imp ?_
  rintro i j ⟨hi, hj, hij⟩
  have hj' := List.mem_filter.1 hj
  have hjl : j < xs.length := List.mem_range.1 hj'.1
  have hk : j = 0 ∨ xs.toArray[j]! ≠ xs.toArray[j - 1]! := by simpa [Lib.keeps] using hj'.2
  simp only [List.getElem!_toArray] at hk ⊢
  rw [getElem!_pos xs i (by omega), getElem!_pos xs j hjl]
  rw [getElem!_pos xs j hjl, getElem!_pos xs (j - 1) (by omega)] at hk
  rw [List.pairwise_iff_getElem] at h
  refine ⟨h i j (by omega) hjl hij, fun e => ?_⟩
  have hne : xs[j] ≠ xs[j - 1] := hk.resolve_left (by omega)
  rcases Nat.lt_or_ge i (j - 1) with c | c
  · have a1 := h i (j - 1) (by omega) (by omega) c
    have a2 := h (j - 1) j (by omega) hjl (by omega)
    rw [e] at a1
    exact hne (anti _ _ a1 a2)
  · have : i = j - 1 := by omega
    subst this
    exact hne e.symm
def keysL (ps : List Pair) : List ByteArray := compS (sortS (ps.map (·.key)))
theorem ofS_inj {a b : ByteArray} (h : ofS a = ofS b) : a = b := by rw [← toS_ofS a, h, toS_ofS]
theorem comp_sort (xs : List ByteArray) : compS (sortS xs) = (Lib.compact ((xs.map ofS).mergeSort fun x y => decide (x ≤ y))).map toS := by
  unfold compS sortS
  rw [List.map_map, show ofS ∘ toS = id from funext ofS_toS, List.map_id]
theorem comp_mem (xs : List ByteArray) (x : ByteArray) : x ∈ compS (sortS xs) ↔ x ∈ xs := by
  rw [comp_sort, List.mem_map]
  constructor
  · rintro ⟨z, hz, rfl⟩
    rw [compact_memG, List.mem_mergeSort, List.mem_map] at hz
    obtain ⟨y, hy, rfl⟩ := hz
    rwa [toS_ofS]
  · intro hx
    exact ⟨ofS x, by rw [compact_memG, List.mem_mergeSort]; exact List.mem_map_of_mem hx, toS_ofS x⟩
theorem comp_rise (xs : List ByteArray) : Rise (compS (sortS xs)) := by
  rw [comp_sort]
  unfold Rise
  rw [List.pairwise_map]
  have h1 := List.pairwise_mergeSort (le := fun x y : List UInt8 => decide (x ≤ y)) (fun a b c h1 h2 => by simp only [decide_eq_true_eq] at *; exact List.le_trans h1 h2) (fun a b => by simp only [Bool.or_eq_true, decide_eq_true_eq]; exact List.le_total a b) (xs.map ofS)
  have h2 := compact_riseG (R := fun x y : List UInt8 => x ≤ y) (fun a b => List.le_antisymm) (fun a => List.le_refl a) (h1.imp fun h => by simpa using h)
  refine h2.imp ?_
  rintro a b ⟨hab, hne⟩
  cases hc : ltS (toS a) (toS b) with
  | true => rfl
  | false =>
    exfalso
    rw [ltS_lt] at hc
    have hc := of_decide_eq_false hc
    have e1 : (toS a).data.toList = a := ofS_toS a
    have e2 : (toS b).data.toList = b := ofS_toS b
    rw [e1, e2] at hc
    exact hne (List.le_antisymm hab hc)
/-- The keys, each once, are the reference's. -/
theorem keys_ref (ps : List Pair) : keysL ps = refK [] (ps.map (·.key)) := by
  have h := refK_spec (ps.map (·.key)) [] List.Pairwise.nil
  refine rise_eq (comp_rise _) h.1 fun x => ?_
  unfold keysL
  rw [comp_mem, h.2]
  simp
theorem stab_of {xs ys : List Pair} (h : ∀ k : ByteArray, xs.filter (fun p => decide (p.key = k)) = ys.filter (fun p => decide (p.key = k))) : Stab xs ys := by
  refine ⟨List.Perm.length_eq (List.perm_iff_count.2 fun p => ?_), h⟩
  have e : ∀ l : List Pair, l.count p = (l.filter fun q => decide (q.key = p.key)).count p := fun l => (List.count_filter (by simp)).symm
  rw [e xs, e ys, h]
def pairsOf (ps : List Pair) (k : ByteArray) : List Pair := (ofL ps k).map fun v => ⟨k, v⟩
def flatP (ps : List Pair) (ks : List ByteArray) : List Pair := ks.flatMap (pairsOf ps)
theorem pairsOf_key {ps : List Pair} {k : ByteArray} {p : Pair} (h : p ∈ pairsOf ps k) : p.key = k := by
  obtain ⟨v, _, rfl⟩ := List.mem_map.1 h
  rfl
theorem filter_same (ps : List Pair) (k : ByteArray) : (pairsOf ps k).filter (fun p => decide (p.key = k)) = pairsOf ps k :=
  List.filter_eq_self.2 fun p hp => decide_eq_true (pairsOf_key hp)
theorem filter_other (ps : List Pair) {k k0 : ByteArray} (h : k ≠ k0) : (pairsOf ps k).filter (fun p => decide (p.key = k0)) = [] :=
  List.filter_eq_nil_iff.2 fun p hp => by rw [pairsOf_key hp]; simpa using h
theorem flat_filter (ps : List Pair) (k0 : ByteArray) : ∀ {ks : List ByteArray}, Rise ks → (k0 ∈ ks → (flatP ps ks).filter (fun p => decide (p.key = k0)) = pairsOf ps k0) ∧ (k0 ∉ ks → (flatP ps ks).filter (fun p => decide (p.key = k0)) = [])
  | [], _ => ⟨fun h => (by cases h), fun _ => rfl⟩
  | k :: ks, h => by
    have h' := List.pairwise_cons.1 h
    have ih := flat_filter ps k0 h'.2
    unfold flatP at *
    rw [List.flatMap_cons, List.filter_append]
    by_cases hk : k = k0
    · subst hk
      have : k ∉ ks := fun hm => by have := h'.1 k hm; rw [ltS_irrefl] at this; cases this
      rw [ih.2 this, filter_same, List.append_nil]
      exact ⟨fun _ => rfl, fun hn => absurd (List.mem_cons_self ..) hn⟩
    · rw [filter_other ps hk, List.nil_append]
      refine ⟨fun hm => ih.1 ?_, fun hn => ih.2 fun hm => hn (List.mem_cons_of_mem _ hm)⟩
      rcases List.mem_cons.1 hm with e | e
      · exact absurd e.symm hk
      · exact e
theorem flat_ord (ps : List Pair) : ∀ {ks : List ByteArray}, Rise ks → Ord (flatP ps ks)
  | [], _ => List.Pairwise.nil
  | k :: ks, h => by
    have h' := List.pairwise_cons.1 h
    unfold flatP Ord
    rw [List.flatMap_cons, List.pairwise_append]
    refine ⟨?_, flat_ord ps h'.2, fun p hp q hq => ?_⟩
    · refine List.Pairwise.imp_of_mem (R := fun _ _ => True) ?_ (List.pairwise_of_forall fun _ _ => trivial)
      intro p q hp hq _
      rw [pairsOf_key hp, pairsOf_key hq, ltS_irrefl]
    · obtain ⟨k2, hk2, hq2⟩ := List.mem_flatMap.1 hq
      rw [pairsOf_key hp, pairsOf_key hq2]
      exact ltS_asymm (h'.1 k2 hk2)
/-- The reference's order is the order. -/
theorem flat_srt (ps : List Pair) : flatP ps (refK [] (ps.map (·.key))) = srt ps := by
  have h := refK_spec (ps.map (·.key)) [] List.Pairwise.nil
  refine srt_of (stab_of fun k => ?_) (flat_ord ps h.1)
  rw [filter_of]
  by_cases hm : k ∈ refK [] (ps.map (·.key))
  · rw [(flat_filter ps k h.1).1 hm]
    rfl
  · rw [(flat_filter ps k h.1).2 hm]
    rw [h.2] at hm
    have : ofL ps k = [] := by
      unfold ofL
      rw [List.map_eq_nil_iff, List.filter_eq_nil_iff]
      intro p hp hk
      exact hm (.inr (List.mem_map.2 ⟨p, hp, of_decide_eq_true hk⟩))
    rw [this]
    rfl
def greatP (xs : List Pair) (n : Int) : Bool := decide (¬ ((xs.length : Int) ≤ n ∧ ∀ p ∈ xs, p.key.size ≤ 100 ∧ p.val.size ≤ 100))
theorem greatP_hit {xs : List Pair} {n : Int} {k : Nat} {x : Pair} (hx : xs[k]? = some x) (h : 100 < x.key.size ∨ 100 < x.val.size) : true = greatP xs n := by
  have h3 : ¬ ((xs.length : Int) ≤ n ∧ ∀ p ∈ xs, p.key.size ≤ 100 ∧ p.val.size ≤ 100) := fun h2 => absurd (h2.2 x (List.mem_of_getElem? hx)) (by omega)
  exact (decide_eq_true h3).symm
theorem greatP_end {xs : List Pair} {n : Int} {k : Nat} (hn : ∀ y ∈ xs.take k, y.key.size ≤ 100 ∧ y.val.size ≤ 100) (h : xs.length ≤ k ∨ n < (xs.length : Int)) : decide (n < (xs.length : Int)) = greatP xs n := by
  refine decide_eq_decide.2 ⟨fun h1 h2 => by omega, fun h1 => ?_⟩
  apply Classical.byContradiction
  intro h2
  refine h1 ⟨by omega, ?_⟩
  rwa [List.take_of_length_le (by omega)] at hn
theorem greatP_no {xs : List Pair} {n : Int} (h : greatP xs n = false) : (xs.length : Int) ≤ n ∧ ∀ p ∈ xs, p.key.size ≤ 100 ∧ p.val.size ≤ 100 := Classical.not_not.1 (of_decide_eq_false h)
theorem ofL_len (ps : List Pair) (k : ByteArray) : (ofL ps k).length ≤ ps.length := by
  unfold ofL
  rw [List.length_map]
  exact List.length_filter_le _ _
theorem ofk_yes {xs : List Pair} {key : ByteArray} {k : Nat} {x : Pair} (hx : xs[k]? = some x) (h : x.key = key) : ofL (xs.take (k + 1)) key = ofL (xs.take k) key ++ [x.val] := by
  unfold ofL
  rw [List.take_add_one, hx]
  simp [h]
theorem ofk_no {xs : List Pair} {key : ByteArray} {k : Nat} {x : Pair} (hx : xs[k]? = some x) (h : ¬ x.key = key) : ofL (xs.take (k + 1)) key = ofL (xs.take k) key := by
  unfold ofL
  rw [List.take_add_one, hx]
  simp [h]
theorem keyk {xs : List Pair} {k : Nat} {x : Pair} (hx : xs[k]? = some x) : (xs.take (k + 1)).map (·.key) = (xs.take k).map (·.key) ++ [x.key] := by
  rw [List.take_add_one, hx]
  simp
theorem sortS_len (xs : List ByteArray) : (sortS xs).length = xs.length := by simp [sortS]
theorem compS_len (xs : List ByteArray) : (compS xs).length ≤ xs.length := by
  have := compact_le (xs.map ofS)
  simpa [compS] using this
theorem keysL_len (ps : List Pair) : (keysL ps).length ≤ ps.length := by
  unfold keysL
  have := compS_len (sortS (ps.map (·.key)))
  rw [sortS_len, List.length_map] at this
  exact this
def mayP (p : Pair) : Prop := p.key.size ≤ 16 ∧ p.val.size ≤ 64
instance (p : Pair) : Decidable (mayP p) := by unfold mayP; infer_instance
def mayL (xs : List Pair) : Prop := ∀ p ∈ xs, mayP p
instance (xs : List Pair) : Decidable (mayL xs) := by unfold mayL; infer_instance
theorem may_any (xs : List Pair) : (!(xs.any fun p => !decide (mayP p))) = decide (mayL xs) := by
  rw [Bool.eq_iff_iff, decide_eq_true_iff]
  unfold mayL
  simp
theorem may_app (a b : List Pair) : mayL (a ++ b) ↔ mayL a ∧ mayL b := by
  unfold mayL
  constructor
  · intro h
    exact ⟨fun p hp => h p (List.mem_append_left _ hp), fun p hp => h p (List.mem_append_right _ hp)⟩
  · rintro ⟨h1, h2⟩ p hp
    rcases List.mem_append.1 hp with h | h
    · exact h1 p h
    · exact h2 p h
theorem insK_hit {x : ByteArray} : ∀ {out : List ByteArray} {k : Nat}, (∀ y ∈ out.take k, ltS y x = true) → out[k]? = some x → insK x out = out
  | [], k, _, h => by simp at h
  | y :: out, 0, _, h => by
    obtain rfl : y = x := by simpa using h
    unfold insK
    rw [if_neg (by rw [ltS_irrefl]; decide), if_pos rfl]
  | y :: out, k + 1, hn, h => by
    unfold insK
    rw [if_pos (hn y (by simp)), insK_hit (k := k) (fun z hz => hn z (by simp [hz])) (by simpa using h)]
theorem insK_put {x : ByteArray} : ∀ {out : List ByteArray} {k : Nat}, k ≤ out.length → (∀ y ∈ out.take k, ltS y x = true) → (out.length = k ∨ ∃ z, out[k]? = some z ∧ ¬ ltS z x = true ∧ ¬ z = x) → insK x out = out.take k ++ [x] ++ out.drop k
  | [], k, hk, _, _ => by
    obtain rfl : k = 0 := by simpa using hk
    rfl
  | y :: out, 0, _, _, h => by
    rcases h with h | ⟨z, hz, h1, h2⟩
    · simp at h
    · obtain rfl : y = z := by simpa using hz
      unfold insK
      rw [if_neg h1, if_neg h2]
      rfl
  | y :: out, k + 1, hk, hn, h => by
    unfold insK
    rw [if_pos (hn y (by simp)), insK_put (k := k) (by simpa using hk) (fun z hz => hn z (by simp [hz])) (by simpa using h)]
    simp
theorem refK_snoc : ∀ (xs out : List ByteArray) (x : ByteArray), refK out (xs ++ [x]) = insK x (refK out xs)
  | [], _, _ => rfl
  | y :: xs, out, x => by rw [List.cons_append, refK, refK_snoc xs, refK]
def outL (xs : List Pair) (i : Nat) : List ByteArray := refK [] ((xs.take i).map (·.key))
theorem outL_step {xs : List Pair} {i : Nat} {x : Pair} (hx : xs[i]? = some x) : outL xs (i + 1) = insK x.key (outL xs i) := by
  unfold outL
  rw [keyk hx, refK_snoc]
theorem insK_len {x : ByteArray} : ∀ {out : List ByteArray}, (insK x out).length ≤ out.length + 1
  | [] => by simp [insK]
  | y :: out => by
    have := insK_len (x := x) (out := out)
    unfold insK
    split
    · simp only [List.length_cons]; omega
    · split <;> simp
theorem outL_len (xs : List Pair) : ∀ i, (outL xs i).length ≤ i
  | 0 => by simp [outL, refK]
  | i + 1 => by
    have ih := outL_len xs i
    rcases Nat.lt_or_ge i xs.length with h | h
    · rw [outL_step (List.getElem?_eq_getElem h)]
      exact Nat.le_trans insK_len (by omega)
    · have : outL xs (i + 1) = outL xs i := by
        unfold outL
        rw [List.take_of_length_le (by omega), List.take_of_length_le (by omega)]
      rw [this]
      omega
theorem flatP_app (ps : List Pair) (a b : List ByteArray) : flatP ps (a ++ b) = flatP ps a ++ flatP ps b := List.flatMap_append
theorem flatP_len (ps : List Pair) (i : Nat) : (flatP ps ((refK [] (ps.map (·.key))).take i)).length ≤ ps.length := by
  have h := flat_srt ps
  rw [← List.take_append_drop i (refK [] (ps.map (·.key))), flatP_app] at h
  have := congrArg List.length h
  rw [List.length_append, srt_len] at this
  omega
theorem flatP_step {ps : List Pair} {ks : List ByteArray} {i : Nat} {x : ByteArray} (hx : ks[i]? = some x) : flatP ps (ks.take (i + 1)) = flatP ps (ks.take i) ++ pairsOf ps x := by
  rw [List.take_add_one, hx, flatP_app]
  simp [flatP]
theorem pairsOf_step {ps : List Pair} {x v : ByteArray} {k : Nat} (hv : (ofL ps x)[k]? = some v) : (pairsOf ps x).take (k + 1) = (pairsOf ps x).take k ++ [⟨x, v⟩] := by
  unfold pairsOf
  rw [List.take_add_one, List.getElem?_map, hv]
  rfl
theorem pairsOf_all {ps : List Pair} {x : ByteArray} {k : Nat} (h : (ofL ps x).length ≤ k) : (pairsOf ps x).take k = pairsOf ps x := List.take_of_length_le (by simpa [pairsOf] using h)
theorem pairsOf_len (ps : List Pair) (x : ByteArray) : (pairsOf ps x).length = (ofL ps x).length := by simp [pairsOf]
/-- Where a key's pairs stand in the order. -/
theorem srt_at {ps : List Pair} {i k : Nat} {x v : ByteArray} (hx : (keysL ps)[i]? = some x) (hv : (ofL ps x)[k]? = some v) : (srt ps)[(flatP ps ((keysL ps).take i)).length + k]? = some ⟨x, v⟩ := by
  have h := flat_srt ps
  rw [← keys_ref] at h
  have hl := lt_of_some hx
  have e : keysL ps = (keysL ps).take i ++ (x :: (keysL ps).drop (i + 1)) := by
    conv => lhs; rw [← List.take_append_drop i (keysL ps), List.drop_eq_getElem_cons hl]
    rw [List.getElem?_eq_getElem hl] at hx
    rw [Option.some.inj hx]
  have h2 : srt ps = flatP ps ((keysL ps).take i) ++ (pairsOf ps x ++ flatP ps ((keysL ps).drop (i + 1))) := by
    rw [← h]
    conv => lhs; rw [e]
    rw [flatP_app]
    rfl
  rw [h2, List.getElem?_append_right (by omega), Nat.add_sub_cancel_left, List.getElem?_append_left (by rw [pairsOf_len]; exact lt_of_some hv)]
  unfold pairsOf
  rw [List.getElem?_map, hv]
  rfl
theorem of_some {ps : List Pair} {i : Nat} {x : ByteArray} (hx : (keysL ps)[i]? = some x) : 0 < (ofL ps x).length := by
  have hm := (comp_mem (ps.map (·.key)) x).1 (List.mem_of_getElem? hx)
  obtain ⟨p, hp, rfl⟩ := List.mem_map.1 hm
  have : p.val ∈ ofL ps p.key := List.mem_map.2 ⟨p, List.mem_filter.2 ⟨hp, by simp⟩, rfl⟩
  exact List.length_pos_of_mem this
theorem keys_lt {ps : List Pair} {i : Nat} {x y : ByteArray} (h0 : 0 < i) (hx : (keysL ps)[i - 1]? = some x) (hy : (keysL ps)[i]? = some y) : ltS x y = true := by
  have h := comp_rise (ps.map (·.key))
  unfold Rise at h
  rw [List.pairwise_iff_getElem] at h
  obtain ⟨l1, rfl⟩ := List.getElem?_eq_some_iff.1 hx
  obtain ⟨l2, rfl⟩ := List.getElem?_eq_some_iff.1 hy
  exact h (i - 1) i l1 l2 (by omega)
theorem flatP_lenK (ps : List Pair) (i : Nat) : (flatP ps ((keysL ps).take i)).length ≤ ps.length := by
  rw [keys_ref]
  exact flatP_len ps i
end Go.Proofs.YtlpgdkbokakniaaGreatDoor.X
