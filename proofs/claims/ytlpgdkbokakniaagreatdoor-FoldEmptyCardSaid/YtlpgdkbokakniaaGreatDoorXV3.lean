/- The machine's parts, in plain lists: facts that the walks cite. No program in sight. -/
import Derived.Test.YtlpgdkbokakniaaGreatDoorXV2
import Derived.Test.YtlpgdkbokakniaaGreatDoorXRec
set_option linter.unusedVariables false
namespace Go.Proofs.YtlpgdkbokakniaaGreatDoor.X
open Go
theorem bytes_get {s : ByteArray} {i : Nat} {c : UInt8} (h : s[i]? = some c) : s.data.toList[i]? = some c := by
  rw [getElem?_def] at h
  split at h
  · rename_i hi
    have e : s[i] = c := Option.some.inj h
    rw [← e, Array.getElem?_toList, Array.getElem?_eq_getElem (show i < s.data.size from hi)]
    rfl
  · cases h
theorem fitB_eq (c : UInt8) (v : Val) : fitB c v = !((decide ((c.toNat : Int) = 110) && v.t) || (decide ((c.toNat : Int) = 98) && !v.t)) := by
  have h : ∀ d : UInt8, (c == d) = decide ((c.toNat : Int) = (d.toNat : Int)) := by
    intro d
    rw [Bool.eq_iff_iff, beq_iff_eq, decide_eq_true_eq]
    constructor
    · rintro rfl; rfl
    · intro h
      exact UInt8.toNat_inj.1 (by omega)
  unfold fitB
  rw [h, h]
  rfl
theorem fits_go {ks : List UInt8} {xs : List Val} {i : Nat} {c : UInt8} {x : Val} (hk : ks[i]? = some c) (hx : xs[i]? = some x) (hb : fitB c x = true) : fitsB (ks.drop (i + 1)) (xs.drop (i + 1)) = fitsB (ks.drop i) (xs.drop i) := by
  rw [drop_at hk, drop_at hx]
  simp [fitsB, hb]
theorem fits_no {ks : List UInt8} {xs : List Val} {i : Nat} {c : UInt8} {x : Val} (hk : ks[i]? = some c) (hx : xs[i]? = some x) (hb : fitB c x = false) : fitsB (ks.drop i) (xs.drop i) = false := by
  rw [drop_at hk, drop_at hx]
  simp [fitsB, hb]
theorem fits_end {ks : List UInt8} {xs : List Val} {i : Nat} (h : xs.length ≤ i) : fitsB (ks.drop i) (xs.drop i) = true := by
  rw [List.drop_eq_nil_of_le h]
  cases ks.drop i <;> rfl
theorem needs_under {op : Int} {stk : List Val} (h : stk.length < (kindsS op).size) : needsM op stk = (1, stk, []) := if_pos h
theorem needs_type {op : Int} {stk : List Val} (h : ¬ stk.length < (kindsS op).size) (h2 : fitsB (kindsS op).data.toList (stk.drop (stk.length - (kindsS op).size)) = false) : needsM op stk = (2, stk, []) := by
  unfold needsM
  rw [if_neg h, if_neg (by rw [h2]; decide)]
theorem needs_fine {op : Int} {stk : List Val} (h : ¬ stk.length < (kindsS op).size) (h2 : fitsB (kindsS op).data.toList (stk.drop (stk.length - (kindsS op).size)) = true) : needsM op stk = (0, stk.take (stk.length - (kindsS op).size), stk.drop (stk.length - (kindsS op).size)) := by
  unfold needsM
  rw [if_neg h, if_pos h2]
theorem needs_len {op : Int} {stk : List Val} (h : (needsM op stk).1 = 0) : (needsM op stk).2.2.length = (kindsS op).size ∧ (needsM op stk).2.1.length ≤ stk.length ∧ (∀ v ∈ (needsM op stk).2.2, v ∈ stk) ∧ (∀ v ∈ (needsM op stk).2.1, v ∈ stk) := by
  by_cases h1 : stk.length < (kindsS op).size
  · rw [needs_under h1] at h; cases h
  · cases h2 : fitsB (kindsS op).data.toList (stk.drop (stk.length - (kindsS op).size)) with
    | false => rw [needs_type h1 h2] at h; cases h
    | true =>
      rw [needs_fine h1 h2]
      refine ⟨by simp only [List.length_drop]; omega, by simp only [List.length_take]; omega, fun v hv => List.mem_of_mem_drop hv, fun v hv => List.mem_of_mem_take hv⟩
theorem push_big {stk vs : List Val} {k : Nat} {x : Val} (hx : vs[k]? = some x) (h : bigV x = true) : pushM stk vs = (4, stk) := by
  unfold pushM
  rw [if_pos (List.any_eq_true.2 ⟨x, at_mem hx, h⟩)]
theorem any_no {vs : List Val} (hn : ∀ y ∈ vs, bigV y = false) : ¬ vs.any bigV = true := by
  intro h
  obtain ⟨x, h1, h2⟩ := List.any_eq_true.1 h
  rw [hn x h1] at h2
  cases h2
theorem push_full {stk vs : List Val} (hn : ∀ y ∈ vs, bigV y = false) (h : 16 < stk.length + vs.length) : pushM stk vs = (1, stk) := by
  unfold pushM
  rw [if_neg (any_no hn), if_pos h]
theorem push_fine {stk vs : List Val} (hn : ∀ y ∈ vs, bigV y = false) (h : ¬ 16 < stk.length + vs.length) : pushM stk vs = (0, stk ++ vs) := by
  unfold pushM
  rw [if_neg (any_no hn), if_neg h]
theorem push_len (stk vs : List Val) (h : stk.length ≤ 16) : (pushM stk vs).2.length ≤ 16 := by
  unfold pushM
  split
  · exact h
  · split
    · exact h
    · simp only [List.length_append]; omega
theorem big_yes {v : Val} (h1 : v.t = true) (h2 : (64 : Int) < (v.b.size : Int)) : bigV v = true := by
  unfold bigV
  rw [h1, decide_eq_true (by omega)]
  rfl
theorem big_no {v : Val} (h : v.t = false ∨ ¬ (64 : Int) < (v.b.size : Int)) : bigV v = false := by
  unfold bigV
  rcases h with h | h
  · rw [h]; rfl
  · rw [decide_eq_false (by omega), Bool.and_false]
theorem emit_big {told : List Pair} {k v : ByteArray} (h : (16 : Int) < (k.size : Int)) : emitM told k v = (4, told) := if_pos (by omega)
theorem emit_many {told : List Pair} {k v : ByteArray} (h : ¬ (16 : Int) < (k.size : Int)) (h2 : 40 ≤ told.length) : emitM told k v = (5, told) := by
  unfold emitM
  rw [if_neg (by omega), if_pos h2]
theorem emit_fine {told : List Pair} {k v : ByteArray} (h : ¬ (16 : Int) < (k.size : Int)) (h2 : ¬ 40 ≤ told.length) : emitM told k v = (0, told ++ [⟨k, v⟩]) := by
  unfold emitM
  rw [if_neg (by omega), if_neg h2]
/-- What is read of one slice is read of another. -/
def Suf {α : Type} (d : Kd α) (v : Value) (xs : List α) (v2 : Value) (ys : List α) : Prop := ∀ (w : World) (F : Foot), (rsl d v xs).P w F → (rsl d v2 ys).P w F
theorem Suf.refl {α : Type} (d : Kd α) (v : Value) (xs : List α) : Suf d v xs v xs := fun _ _ h => h
def nextS (stk : List Val) : List ByteArray → Int × List Val × List ByteArray
  | [] => ((pushM stk [vint 0]).1, (pushM stk [vint 0]).2, [])
  | v :: vs => ((pushM stk [vtxt v, vint 1]).1, (pushM stk [vtxt v, vint 1]).2, vs)
theorem next_cons {stk : List Val} {vals : List ByteArray} {x : ByteArray} (hx : vals[0]? = some x) : nextS stk vals = ((pushM stk [vtxt x, vint 1]).1, (pushM stk [vtxt x, vint 1]).2, vals.drop 1) := by
  cases vals with
  | nil => simp at hx
  | cons y vs => simp at hx; subst hx; rfl
end Go.Proofs.YtlpgdkbokakniaaGreatDoor.X
