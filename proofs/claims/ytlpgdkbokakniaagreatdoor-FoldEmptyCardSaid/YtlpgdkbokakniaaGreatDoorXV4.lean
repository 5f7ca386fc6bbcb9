/- What an instruction does, case by case; what stays true. No program in sight. -/
import Derived.Test.YtlpgdkbokakniaaGreatDoorXV3
set_option linter.unusedVariables false
namespace Go.Proofs.YtlpgdkbokakniaaGreatDoor.X
open Go
section
variable {D : Dig} {key : ByteArray} {m : VM} {i : Ins} {v : List Val}
theorem does_fail (h : (needsM i.op m.stk).1 ≠ 0) : doesM D key m i = (m, (needsM i.op m.stk).1) := if_pos h
theorem does_act (h : ¬ (needsM i.op m.stk).1 ≠ 0) : doesM D key m i = actM D key {m with stk := (needsM i.op m.stk).2.1} i (needsM i.op m.stk).2.2 := if_neg h
theorem act_0 (h : i.op = 0) : actM D key m i v = ({m with halted := true}, 0) := by unfold actM; rw [h]; rfl
theorem act_1 (h : i.op = 1) : actM D key m i v = pushV m [vint i.a] := by unfold actM; rw [h]; rfl
theorem act_2 (h : i.op = 2) : actM D key m i v = pushV m [vtxt i.s] := by unfold actM; rw [h]; rfl
theorem act_3 (h : i.op = 3) : actM D key m i v = pushV m [v.getD 0 val0, v.getD 0 val0] := by unfold actM; rw [h]; rfl
theorem act_4 (h : i.op = 4) : actM D key m i v = (m, 0) := by unfold actM; rw [h]; rfl
theorem act_5 (h : i.op = 5) : actM D key m i v = pushV m [v.getD 1 val0, v.getD 0 val0] := by unfold actM; rw [h]; rfl
theorem act_6 (h : i.op = 6) : actM D key m i v = pushV m [vtxt key] := by unfold actM; rw [h]; rfl
theorem act_7 (h : i.op = 7) : actM D key m i v = nextM m := by unfold actM; rw [h]; rfl
theorem act_8 (h : i.op = 8 ∨ i.op = 9 ∨ i.op = 10 ∨ i.op = 11) : actM D key m i v = pushV m [numM i.op (v.getD 0 val0).n (v.getD 1 val0).n] := by
  unfold actM
  rcases h with h | h | h | h <;> (rw [h]; rfl)
theorem act_12 (h : i.op = 12) : actM D key m i v = pushV m [oneV (sameV (v.getD 0 val0) (v.getD 1 val0))] := by unfold actM; rw [h]; rfl
theorem act_13 (h : i.op = 13) : actM D key m i v = pushV m [vtxt ((v.getD 0 val0).b ++ (v.getD 1 val0).b)] := by unfold actM; rw [h]; rfl
theorem act_14 (h : i.op = 14) : actM D key m i v = pushV m [vint (v.getD 0 val0).b.size] := by unfold actM; rw [h]; rfl
theorem act_15 (h : i.op = 15) : actM D key m i v = pushV m [vint (atS (v.getD 0 val0).b (v.getD 1 val0).n)] := by unfold actM; rw [h]; rfl
theorem act_16 (h : i.op = 16) : actM D key m i v = pushV m [vtxt (cutS (v.getD 0 val0).b (v.getD 1 val0).n (v.getD 2 val0).n)] := by unfold actM; rw [h]; rfl
theorem act_17 (h : i.op = 17) : actM D key m i v = pushV m [vtxt (D.dig (v.getD 0 val0).n)] := by unfold actM; rw [h]; rfl
theorem act_18 (h : i.op = 18) : actM D key m i v = pushV m [vint (D.num (v.getD 0 val0).b)] := by unfold actM; rw [h]; rfl
theorem act_19 (h : i.op = 19) : actM D key m i v = ({m with pos := i.a}, 0) := by unfold actM; rw [h]; rfl
theorem act_20 (h : i.op = 20) : actM D key m i v = (if (v.getD 0 val0).n ≠ 0 then {m with pos := i.a} else m, 0) := by unfold actM; rw [h]; rfl
theorem act_21 (h : i.op = 21) : actM D key m i v = pushV m [m.g i.a.toNat] := by unfold actM; rw [h]; rfl
theorem act_22 (h : i.op = 22) : actM D key m i v = ({m with g := setG m.g i.a.toNat (v.getD 0 val0)}, 0) := by unfold actM; rw [h]; rfl
theorem act_23 (h : i.op = 23) : actM D key m i v = ({m with told := (emitM m.told (v.getD 0 val0).b (v.getD 1 val0).b).2}, (emitM m.told (v.getD 0 val0).b (v.getD 1 val0).b).1) := by unfold actM; rw [h]; rfl
theorem needs_same {op : Int} {stk : List Val} (h : (needsM op stk).1 ≠ 0) : (needsM op stk).2.1 = stk := by
  by_cases h1 : stk.length < (kindsS op).size
  · rw [needs_under h1]
  · cases h2 : fitsB (kindsS op).data.toList (stk.drop (stk.length - (kindsS op).size)) with
    | false => rw [needs_type h1 h2]
    | true => rw [needs_fine h1 h2] at h; exact absurd rfl h
theorem getD_at {k : Nat} {x : Val} (h : v[k]? = some x) : v.getD k val0 = x := by rw [List.getD_eq_getElem?_getD, h]; rfl
theorem next_S : nextM m = ({m with stk := (nextS m.stk m.vals).2.1, vals := (nextS m.stk m.vals).2.2}, (nextS m.stk m.vals).1) := by
  unfold nextM
  split
  · rename_i h
    rw [h]
    cases m
    simp only at h
    subst h
    rfl
  · rename_i x xs h
    rw [h]
    rfl
end
end Go.Proofs.YtlpgdkbokakniaaGreatDoor.X
