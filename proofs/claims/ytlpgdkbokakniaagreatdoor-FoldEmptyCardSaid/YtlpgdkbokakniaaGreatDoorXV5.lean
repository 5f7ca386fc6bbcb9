/- What stays true from instruction to instruction; a run, step by step. No program in sight. -/
import Derived.Test.YtlpgdkbokakniaaGreatDoorXV4
import Derived.Test.YtlpgdkbokakniaaGreatDoorXProg2
set_option linter.unusedVariables false
namespace Go.Proofs.YtlpgdkbokakniaaGreatDoor.X
open Go
structure Inv (n : Int) (m : VM) : Prop where
  ok : (∀ v ∈ m.stk, OkV v) ∧ ∀ k, OkV (m.g k)
  len : m.stk.length ≤ 16
  told : m.told.length ≤ 40
  pos : 0 ≤ m.pos ∧ m.pos ≤ n
theorem push_ok_v {stk vs : List Val} (h : (pushM stk vs).1 = 0) : (pushM stk vs).2 = stk ++ vs ∧ ∀ v ∈ vs, bigV v = false := by
  unfold pushM at h ⊢
  split at h
  · cases h
  · rename_i h1
    rw [if_neg h1]
    split at h
    · cases h
    · rename_i h2
      rw [if_neg h2]
      refine ⟨rfl, fun v hv => ?_⟩
      cases hb : bigV v with
      | false => rfl
      | true => exact absurd (List.any_eq_true.2 ⟨v, hv, hb⟩) h1
theorem big_size {v : Val} (h : bigV v = false) (ht : v.t = true) : v.b.size ≤ 64 := by
  unfold bigV at h
  rw [ht, Bool.true_and] at h
  have := of_decide_eq_false h
  omega
theorem inv_push {n : Int} {m : VM} {vs : List Val} (hm : Inv n m) (h : (pushV m vs).2 = 0) (hv : ∀ v ∈ vs, In64 v.n ∧ (v.t = false → v.b.size ≤ 64)) : Inv n (pushV m vs).1 := by
  obtain ⟨h1, h2⟩ := push_ok_v (stk := m.stk) (vs := vs) h
  refine ⟨⟨fun v hv' => ?_, hm.ok.2⟩, ?_, hm.told, hm.pos⟩
  · have hv2 : v ∈ (pushM m.stk vs).2 := hv'
    rw [h1] at hv2
    rcases List.mem_append.1 hv2 with h3 | h3
    · exact hm.ok.1 v h3
    · refine ⟨(hv v h3).1, ?_⟩
      cases ht : v.t with
      | false => exact (hv v h3).2 ht
      | true => exact big_size (h2 v h3) ht
  · exact push_len _ _ hm.len
theorem nil64 : (⟨#[]⟩ : ByteArray).size ≤ 64 := by decide
theorem in0 : In64 0 := by unfold In64; decide
theorem okv0 : OkV val0 := ⟨in0, nil64⟩
theorem ok_int {n : Int} (h : In64 n) : ∀ v ∈ [vint n], In64 v.n ∧ (v.t = false → v.b.size ≤ 64) := by
  intro v hv
  rw [List.mem_singleton.1 hv]
  exact ⟨h, fun _ => nil64⟩
theorem ok_txt (s : ByteArray) : ∀ v ∈ [vtxt s], In64 v.n ∧ (v.t = false → v.b.size ≤ 64) := by
  intro v hv
  rw [List.mem_singleton.1 hv]
  exact ⟨in0, fun h => by cases h⟩
theorem ok_of {v : Val} (h : OkV v) : In64 v.n ∧ (v.t = false → v.b.size ≤ 64) := ⟨h.1, fun _ => h.2⟩
theorem ok_getD {v : List Val} (h : ∀ x ∈ v, OkV x) (k : Nat) : OkV (v.getD k val0) := by
  rw [List.getD_eq_getElem?_getD]
  cases hk : v[k]? with
  | none => exact okv0
  | some x => exact h x (at_mem hk)
theorem atS_range (s : ByteArray) (i : Int) : In64 (atS s i) := by
  unfold atS
  split
  · unfold In64; omega
  · have := UInt8.toNat_lt (s[i.toNat]?.getD 0)
    unfold In64
    omega
theorem inv_act {D : Dig} (hD : ∀ s : ByteArray, In64 (D.num s)) {key : ByteArray} {n : Int} {m : VM} {i : Ins} {v : List Val} (hm : Inv n m) (hi : goodI i n) (ha : In64 i.a) (hv : ∀ x ∈ v, OkV x) (h : (actM D key m i v).2 = 0) : Inv n (actM D key m i v).1 := by
  have h0 := ok_getD hv 0
  have h1 := ok_getD hv 1
  have g1 := hi.1
  have g2 := hi.2.1
  have two : ∀ {a b : Val}, OkV a → OkV b → ∀ x ∈ [a, b], In64 x.n ∧ (x.t = false → x.b.size ≤ 64) := by
    intro a b pa pb x hx
    rcases List.mem_cons.1 hx with rfl | hx
    · exact ok_of pa
    · rw [List.mem_singleton.1 hx]; exact ok_of pb
  have one : ∀ {a : Val}, OkV a → ∀ x ∈ [a], In64 x.n ∧ (x.t = false → x.b.size ≤ 64) := by
    intro a pa x hx
    rw [List.mem_singleton.1 hx]; exact ok_of pa
  have bit : ∀ b : Bool, In64 (if b then 1 else 0) := by intro b; cases b <;> (unfold In64; decide)
  rcases (show i.op = 0 ∨ i.op = 1 ∨ i.op = 2 ∨ i.op = 3 ∨ i.op = 4 ∨ i.op = 5 ∨ i.op = 6 ∨ i.op = 7 ∨ (i.op = 8 ∨ i.op = 9 ∨ i.op = 10 ∨ i.op = 11) ∨ i.op = 12 ∨ i.op = 13 ∨ i.op = 14 ∨ i.op = 15 ∨ i.op = 16 ∨ i.op = 17 ∨ i.op = 18 ∨ i.op = 19 ∨ i.op = 20 ∨ i.op = 21 ∨ i.op = 22 ∨ i.op = 23 by omega) with
    e | e | e | e | e | e | e | e | e | e | e | e | e | e | e | e | e | e | e | e | e
  · rw [act_0 e] at h ⊢; exact ⟨hm.ok, hm.len, hm.told, hm.pos⟩
  · rw [act_1 e] at h ⊢; exact inv_push hm h (ok_int ha)
  · rw [act_2 e] at h ⊢; exact inv_push hm h (ok_txt _)
  · rw [act_3 e] at h ⊢; exact inv_push hm h (two h0 h0)
  · rw [act_4 e] at h ⊢; exact hm
  · rw [act_5 e] at h ⊢; exact inv_push hm h (two h1 h0)
  · rw [act_6 e] at h ⊢; exact inv_push hm h (ok_txt _)
  · rw [act_7 e] at h ⊢
    unfold nextM at h ⊢
    split at h
    · exact inv_push hm h (ok_int (by unfold In64; omega))
    · rename_i x xs hx
      have hm2 : Inv n {m with vals := xs} := ⟨hm.ok, hm.len, hm.told, hm.pos⟩
      refine inv_push hm2 h fun y hy => ?_
      rcases List.mem_cons.1 hy with rfl | hy
      · exact ok_txt x _ (List.mem_singleton.2 rfl)
      · exact ok_int (n := 1) (by unfold In64; omega) y hy
  · rw [act_8 e] at h ⊢; exact inv_push hm h (one (ok_num _ _ _))
  · rw [act_12 e] at h ⊢; exact inv_push hm h (ok_int (bit _))
  · rw [act_13 e] at h ⊢; exact inv_push hm h (ok_txt _)
  · rw [act_14 e] at h ⊢; exact inv_push hm h (ok_int (by have := h0.2; unfold In64; omega))
  · rw [act_15 e] at h ⊢; exact inv_push hm h (ok_int (atS_range _ _))
  · rw [act_16 e] at h ⊢; exact inv_push hm h (ok_txt _)
  · rw [act_17 e] at h ⊢; exact inv_push hm h (ok_txt _)
  · rw [act_18 e] at h ⊢; exact inv_push hm h (ok_int (hD _))
  · rw [act_19 e] at h ⊢
    have := hi.2.2.2.2.1 (.inl e)
    exact ⟨hm.ok, hm.len, hm.told, ⟨this.1, this.2.1⟩⟩
  · rw [act_20 e] at h ⊢
    have := hi.2.2.2.2.1 (.inr e)
    split
    · exact ⟨hm.ok, hm.len, hm.told, ⟨this.1, this.2.1⟩⟩
    · exact hm
  · rw [act_21 e] at h ⊢; exact inv_push hm h (one (hm.ok.2 _))
  · rw [act_22 e] at h ⊢
    refine ⟨⟨hm.ok.1, fun k => ?_⟩, hm.len, hm.told, hm.pos⟩
    show OkV (if k = i.a.toNat then v.getD 0 val0 else m.g k)
    split
    · exact h0
    · exact hm.ok.2 k
  · rw [act_23 e] at h ⊢
    refine ⟨hm.ok, hm.len, ?_, hm.pos⟩
    show (emitM m.told (v.getD 0 val0).b (v.getD 1 val0).b).2.length ≤ 40
    have := hm.told
    unfold emitM
    split
    · exact this
    · split
      · exact this
      · simp only [List.length_append, List.length_cons, List.length_nil]; omega
theorem inv_does {D : Dig} (hD : ∀ s : ByteArray, In64 (D.num s)) {key : ByteArray} {n : Int} {m : VM} {i : Ins} (hm : Inv n m) (hi : goodI i n) (ha : In64 i.a) (h : (doesM D key m i).2 = 0) : Inv n (doesM D key m i).1 := by
  by_cases hN : (needsM i.op m.stk).1 ≠ 0
  · rw [does_fail hN] at h; exact absurd h hN
  · rw [does_act hN] at h ⊢
    obtain ⟨l1, l2, l3, l4⟩ := needs_len (Classical.not_not.1 hN)
    exact inv_act hD ⟨⟨fun v hv => hm.ok.1 v (l4 v hv), hm.ok.2⟩, Nat.le_trans l2 hm.len, hm.told, hm.pos⟩ hi ha (fun x hx => hm.ok.1 x (l3 x hx)) h
section
variable {D : Dig} {p : List Ins} {key : ByteArray} {m : VM} {i : Ins}
theorem play_stop (k : Nat) (h : ¬ (m.pos < p.length ∧ m.halted = false)) : playM D p key k m = (m, 0) := by
  cases k <;> exact if_neg h
theorem play_dry (h : m.pos < p.length ∧ m.halted = false) : playM D p key 0 m = (m, 3) := if_pos h
theorem play_fail {k : Nat} (h : m.pos < p.length ∧ m.halted = false) (hi : p[m.pos.toNat]? = some i) (hw : (doesM D key {m with pos := m.pos + 1} i).2 ≠ 0) : playM D p key (k + 1) m = doesM D key {m with pos := m.pos + 1} i := by
  unfold playM
  rw [if_pos h, hi]
  exact if_pos hw
theorem play_go {k : Nat} (h : m.pos < p.length ∧ m.halted = false) (hi : p[m.pos.toNat]? = some i) (hw : ¬ (doesM D key {m with pos := m.pos + 1} i).2 ≠ 0) : playM D p key (k + 1) m = playM D p key k (doesM D key {m with pos := m.pos + 1} i).1 := by
  conv => lhs; unfold playM
  rw [if_pos h, hi]
  exact if_neg hw
end
theorem inv0 (n : Nat) (vals : List ByteArray) : Inv n (vm0 vals) where
  ok := ⟨fun v hv => (by cases hv), fun _ => okv0⟩
  len := Nat.zero_le _
  told := Nat.zero_le _
  pos := ⟨Int.le_refl 0, Int.natCast_nonneg n⟩
theorem may_all {xs : List Ins} (h : badI xs < 0) : ∀ x ∈ xs, goodI x xs.length := by
  by_cases hl : xs.length ≤ 40
  · exact (badI_neg hl).1 h
  · exfalso
    unfold badI at h
    split at h
    · omega
    · rw [if_pos (by omega)] at h
      omega
theorem inv_next {n : Int} {m : VM} (h : Inv n m) (hp : m.pos < n) : Inv n {m with pos := m.pos + 1} := ⟨h.ok, h.len, h.told, ⟨by have := h.pos; show 0 ≤ m.pos + 1; omega, by show m.pos + 1 ≤ n; omega⟩⟩
end Go.Proofs.YtlpgdkbokakniaaGreatDoor.X
