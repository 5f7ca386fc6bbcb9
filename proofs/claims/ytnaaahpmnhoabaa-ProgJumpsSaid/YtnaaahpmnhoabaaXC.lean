/- A slice cut short: 'xs[:hi]'. No program in sight. -/
import Derived.Test.YtnaaahpmnhoabaaXN
set_option linter.unusedVariables false
namespace Go.Proofs.Ytnaaahpmnhoabaa.X
open Go
section
variable {P : Program} {n : Nat} {l : Env} {w : World} {o : Oper} {x y : Operand} {t : TypeId}
theorem map_add0 (A : Option Addr) : A.map (fun a => a.add 0) = A := by
  cases A with
  | none => rfl
  | some a => cases a; simp [Addr.add]
theorem r_cutP {tt e size bytes : TypeId} {A : Option Addr} {m c m' : Nat} {k : IntKind} {j : Int} (ho : o.op = .slice tt x none (some y) none) (hs : slOf P tt = some (e, size, bytes)) (hx : ev l x = some (.slice A m c)) (hy : ev l y = some (.int k j))
    (h0 : 0 ≤ j) (h1 : j ≤ (c : Int)) (hm : j.toNat = m') : Run P n l w o (.slice A m' c) w := by
  intro a ha
  obtain ⟨hu, inf, hi, hz, _⟩ := slOf_spec hs
  subst hm
  have hb : (Instr.sliceBounds true m c none (some (.int k j)) none).run P w = .ok (0, j.toNat, c) w := by
    simp [Instr.sliceBounds, Instr.sliceBound, asIntOf, h0, h1]
  simp [execOp, ho, ha.eval hx, ha.eval hy, Instr.sliceAt, Instr.slice, hb, run_underlying hu, sizeOf, typeInfo, hi, hz, map_add0]
end
end Go.Proofs.Ytnaaahpmnhoabaa.X
