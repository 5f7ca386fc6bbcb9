/- A slice cut short: 'xs[:hi]'. No program in sight. -/
import Derived.Test.YtlpgdkbokakniaaGreatDoorXN
set_option linter.unusedVariables false
namespace Go.Proofs.YtlpgdkbokakniaaGreatDoor.X
open Go
section
variable {P : Program} {n : Nat} {l : Env} {w : World} {o : Oper} {x y : Operand} {t : TypeId}
theorem map_add0 (A : Option Addr) : A.map (fun a => a.add 0) = A := by
  cases A with
  | none => rfl
  | some a => cases a; simp [Addr.add]
theorem r_cutP {tt e size bytes : TypeId} {A : Option Addr} {m c m' : Nat} {k : IntKind} {j : Int} (ho : o.op = .slice tt x none (some y) none) (hs : slOf P tt = some (e, size, bytes)) (hx : ev l x = some (.slice A m c)) (hy : ev l y = some (.int k j))
    (h0 : 0 ≤ j) (h1 : j ≤ (c : Int)) (hm : j.toNat = m') : Run P n l w o (.slice A m' c) w := by
  intro a ha
  obtain ⟨hu, inf, hi, hz, _⟩ := slOf_spec hs
  subst hm
  have hb : (Instr.sliceBounds true m c none (some (.int k j)) none).run P w = .ok (0, j.toNat, c) w := by
    simp [Instr.sliceBounds, Instr.sliceBound, asIntOf, h0, h1]
  simp [execOp, ho, ha.eval hx, ha.eval hy, Instr.sliceAt, Instr.slice, hb, run_underlying hu, sizeOf, typeInfo, hi, hz, map_add0]
end
section
variable {w : World} {F : Foot} {α : Type} {d : Kd α} {A : Option Addr} {m c : Nat} {xs : List α}
/-- What is read of a slice is read of its begin, and of its end. -/
theorem rsl_pre (h : (rsl d (.slice A m c) xs).P w F) {i : Nat} (hi : i ≤ m) : (rsl d (.slice A i c) (xs.take i)).P w F := by
  obtain ⟨A', m', c', e, hl, h1, h2, cs, hr, hrep⟩ := h
  simp only [List.cons.injEq, Value.slice.injEq, and_true] at e
  obtain ⟨rfl, rfl, rfl⟩ := e
  refine ⟨_, _, _, rfl, by rw [List.length_take]; omega, by omega, h2, cs.take (i * d.sz), ⟨trivial, ?_⟩, hrep.take i⟩
  rcases hr.2 with rfl | ⟨b, off, C, t, fr, e, hb, hh, ht⟩
  · exact .inl (by simp)
  · refine .inr ⟨b, off, C, t, fr, e, hb, hh, ?_⟩
    rw [List.length_take, ← List.take_take, ht]
def cutA (A : Option Addr) (c i sz : Nat) : Option Addr := if c = i then A else A.map fun a => a.add (i * sz)
theorem rsl_suf (h : (rsl d (.slice A m c) xs).P w F) {i : Nat} (hi : i ≤ m) : (rsl d (.slice (cutA A c i d.sz) (m - i) (c - i)) (xs.drop i)).P w F := by
  obtain ⟨A', m', c', e, hl, h1, h2, cs, hr, hrep⟩ := h
  simp only [List.cons.injEq, Value.slice.injEq, and_true] at e
  obtain ⟨rfl, rfl, rfl⟩ := e
  refine ⟨_, _, _, rfl, by rw [List.length_drop]; omega, by omega, by omega, cs.drop (i * d.sz), ⟨trivial, ?_⟩, hrep.drop i⟩
  have hlen := hrep.len
  by_cases hc : c = i
  · refine .inl ?_
    rw [List.drop_eq_nil_iff]
    rw [hlen]
    exact Nat.mul_le_mul_right _ (by omega)
  · rcases hr.2 with rfl | ⟨b, off, C, t, fr, e, hb, hh, ht⟩
    · exact .inl (by simp)
    · refine .inr ⟨b, off + i * d.sz, C, t, fr, ?_, hb, hh, ?_⟩
      · unfold cutA
        rw [if_neg hc, e, Option.map_some, add_of]
      · have := congrArg (List.drop (i * d.sz)) ht
        rw [List.drop_take, List.drop_drop] at this
        rw [List.length_drop]
        exact this
end
section
variable {P : Program} {n : Nat} {l : Env} {w : World} {o : Oper} {x y : Operand} {t : TypeId}
theorem r_cutS {tt e size bytes : TypeId} {A : Option Addr} {m c i' : Nat} {k : IntKind} {i : Int} (ho : o.op = .slice tt x (some y) none none) (hs : slOf P tt = some (e, size, bytes)) (hx : ev l x = some (.slice A m c)) (hy : ev l y = some (.int k i))
    (h0 : 0 ≤ i) (h1 : i ≤ (m : Int)) (hi' : i.toNat = i') : Run P n l w o (.slice (cutA A c i' size) (m - i') (c - i')) w := by
  intro a ha
  obtain ⟨hu, inf, hi, hz, _⟩ := slOf_spec hs
  subst hi'
  have hb : (Instr.sliceBounds true m c (some (.int k i)) none none).run P w = .ok (i.toNat, m, c) w := by
    simp [Instr.sliceBounds, Instr.sliceBound, asIntOf, h0, h1]
  unfold cutA
  by_cases e1 : c = i.toNat
  · rw [if_pos e1]
    rw [e1] at hb
    simp [execOp, ho, ha.eval hx, ha.eval hy, Instr.sliceAt, Instr.slice, hb, run_underlying hu, sizeOf, typeInfo, hi, hz, e1]
  · rw [if_neg e1]
    simp [execOp, ho, ha.eval hx, ha.eval hy, Instr.sliceAt, Instr.slice, hb, run_underlying hu, sizeOf, typeInfo, hi, hz, e1]
end
section
variable {P : Program} {n : Nat} {l : Env} {w : World} {o : Oper} {x y : Operand} {t : TypeId} {t' : TypeId} {a b : ByteArray}
theorem r_geS (ho : o.op = .binOp .geq t x y t') (hx : ev l x = some (.string a)) (hy : ev l y = some (.string b)) : Run P n l w o (.bool (!(ltS a b))) w := by
  intro a' ha; simp [execOp, ho, ha.eval hx, ha.eval hy, eqGuard, binOp, Op.stringOp, ltS, ByteArray.toList_eq]
theorem r_leS (ho : o.op = .binOp .leq t x y t') (hx : ev l x = some (.string a)) (hy : ev l y = some (.string b)) : Run P n l w o (.bool (ltS a b || decide (a = b))) w := by
  intro a' ha; simp [execOp, ho, ha.eval hx, ha.eval hy, eqGuard, binOp, Op.stringOp, ltS, ← ByteArray.toList_eq, beqS]
end
end Go.Proofs.YtlpgdkbokakniaaGreatDoor.X
