/- Steps that the machine's code takes: results in variables, cuts of texts and of held rows, a register. No program in sight. -/
import Derived.Test.YtlpgdkbokakniaaGreatDoorXV
import Derived.Test.YtlpgdkbokakniaaGreatDoorXSy
import Derived.Test.YtlpgdkbokakniaaGreatDoorXMap
import Derived.WideLaws
set_option linter.unusedVariables false
namespace Go.Proofs.YtlpgdkbokakniaaGreatDoor.X
open Go
section
variable {P : Program} {fn : Func} {R : Ending → World → Prop} {n : Nat} {l : Env} {w w' : World} {v : Value} {t : TypeId}
theorem results_cell {s : Tmp} {sz : Nat} {p : Addr} {cs : List Value} {a : Act} (hr : fn.results = #[.cell s t]) (ha : Fits n l a) (hs : lk l s = some (.pointer (some p))) (ht : tyOf P t = some (true, sz)) (hz : cs.length = sz) (hc : ∀ j v, cs[j]? = some v → w.cell? (p.add j) = some v) : (results fn a.tmps).run P w = .ok (.agg cs.toArray) w := by
  have hl := run_loadCells_list (P := P) w p cs hc
  have hg := (ha.get s _ hs).1
  simp [results, hr]
  rw [← Array.getD_eq_getD_getElem?, hg]
  simp [asAddr, loadVar, run_isAgg ht, run_sizeOf ht, ← hz, hl]
theorem q_retC {s : Tmp} {sz : Nat} {p : Addr} {cs : List Value} (hr : fn.results = #[.cell s t]) (hs : lk l s = some (.pointer (some p))) (ht : tyOf P t = some (true, sz)) (hz : cs.length = sz) (hc : ∀ j v, cs[j]? = some v → w.cell? (p.add j) = some v) (h : R (.returned (.agg cs.toArray)) w) : WQ (bodyPost P fn R) .ret n l w :=
  fun a ha => bodyPost_ret (results_cell hr ha hs ht hz hc) ha.defers h
theorem q_endC {s : Tmp} {sz : Nat} {p : Addr} {cs : List Value} (hr : fn.results = #[.cell s t]) (hs : lk l s = some (.pointer (some p))) (ht : tyOf P t = some (true, sz)) (hz : cs.length = sz) (hc : ∀ j v, cs[j]? = some v → w.cell? (p.add j) = some v) (h : R (.returned (.agg cs.toArray)) w) : WQ (bodyPost P fn R) .normal n l w :=
  fun a ha => bodyPost_end (results_cell hr ha hs ht hz hc) ha.defers h
end
section
variable {P : Program} {n : Nat} {l : Env} {w w0 : World} {F0 : Foot} {o : Oper} {x y z : Operand} {t : TypeId} {As Rs : List SP}
/-- 's[lo:hi]' of a text. -/
theorem r_cutStr {tt : TypeId} {s : ByteArray} {k k' : IntKind} {i j : Int} {r : ByteArray} (ho : o.op = .slice tt x (some y) (some z) none) (ht : P.underlying tt = some .string) (hx : ev l x = some (.string s)) (hy : ev l y = some (.int k i)) (hz : ev l z = some (.int k' j))
    (h0 : 0 ≤ i) (h1 : i ≤ j) (h2 : j ≤ (s.size : Int)) (hr : s.extract i.toNat j.toNat = r) : Run P n l w o (.string r) w := by
  intro a ha
  have hb : (Instr.sliceBounds false s.size s.size (some (.int k i)) (some (.int k' j)) none).run P w = .ok (i.toNat, j.toNat, s.size) w := by
    have g0 : 0 ≤ j := by omega
    simp [Instr.sliceBounds, Instr.sliceBound, asIntOf, h0, h2, g0]
    intro hh
    omega
  simp [execOp, ho, ha.eval hx, ha.eval hy, ha.eval hz, Instr.sliceAt, Instr.slice, hb, run_underlying ht, ← hr]
theorem r_iaB {tt e : TypeId} {size len : Nat} {b off : Nat} {k : IntKind} {i : Int} {p : Nat} (ho : o.op = .indexAddr tt x y) (hu : P.underlying tt = some (.array len e)) (hi : (P.info? e).map (·.size) = some size)
    (hx : ev l x = some (.pointer (some ⟨b, off, none⟩))) (hy : ev l y = some (.int k i)) (h0 : 0 ≤ i) (h1 : i < (len : Int)) (hp : off + i.toNat * size = p) : Run P n l w o (.pointer (some ⟨b, p, none⟩)) w := by
  obtain ⟨inf, h2, h3⟩ := Option.map_eq_some_iff.1 hi
  exact r_iaA ho hu h2 h3 hx hy h0 h1 hp
/-- An interface value against nil. -/
theorem r_ine {t' : TypeId} {u : Value} {b : Bool} (ho : o.op = .binOp .neq t x (.const .nilIface) t') (ht : P.underlying t = some (.interface (P.methodsAt t))) (hx : ev l x = some u) (hu : (u = .nilIface ∧ b = false) ∨ (∃ te pe, u = .iface te pe ∧ b = true)) : Run P n l w o (.bool b) w := by
  intro a ha
  have hc : a.eval (.const .nilIface) = .nilIface := rfl
  rcases hu with ⟨rfl, rfl⟩ | ⟨te, pe, rfl, rfl⟩
  · have h := run_equal_nil_nil (P := P) w t ht
    simp [execOp, ho, ha.eval hx, hc, eqGuard, binOp, h]
  · have h := run_equal_held_nil (P := P) w t te pe ht
    simp [execOp, ho, ha.eval hx, hc, eqGuard, binOp, h]
/-- A pointer as an unsafe one. -/
theorem r_unsafe {src dst e : TypeId} {p : Addr} {v : Value} (ho : o.op = .convert src dst x) (hs : P.underlying src = some (.pointer e)) (hd : P.underlying dst = some .unsafePointer) (hz : (P.info? e).map (fun i => decide (i.size = 0)) = some false) (hx : ev l x = some (.pointer (some p))) (hc : w.cell? p = some v) : Run P n l w o (.pointer (some p)) w := by
  intro a ha
  simp [execOp, ho, ha.eval hx, run_convert_to_unsafe hs hd hz hc]
/-- What is held of a row is held of its begin. -/
theorem RepsO_take' {α : Type} {d : Kd α} {F : Foot} {xs : List α} {cs : List Value} (i : Nat) (h : RepsO d w F xs cs) : RepsO d w F (xs.take i) (cs.take (i * d.sz)) := h.take i
theorem osl_pre {α : Type} {d : Kd α} {F : Foot} {A : Option Addr} {m c : Nat} {xs : List α} (h : (osl d (.slice A m c) xs).P w F) {i : Nat} (hi : i ≤ m) : (osl d (.slice A i c) (xs.take i)).P w F := by
  obtain ⟨A', m', c', e, hl, cs, F1, F2, s1, s2, dj, ⟨r1, r2, r3, r4⟩, hrep⟩ := h
  simp only [List.cons.injEq, Value.slice.injEq, and_true] at e
  obtain ⟨rfl, rfl, rfl⟩ := e
  refine ⟨A, i, c, rfl, by rw [List.length_take]; omega, cs.take (i * d.sz), F1, F2, s1, s2, dj, ⟨by omega, r2, ?_, ?_⟩, hrep.take i⟩
  · rw [List.length_take, r3]
    exact Nat.min_eq_left (Nat.mul_le_mul_right _ hi)
  · rcases r4 with h0 | ⟨b, C, t, e, hb, hh, hs, ht⟩
    · exact .inl h0
    · refine .inr ⟨b, C, t, e, hb, hh, hs, ?_⟩
      rw [← ht, List.take_take, Nat.min_eq_left (Nat.mul_le_mul_right _ hi)]
theorem Hd.preO {α : Type} {d : Kd α} {A : Option Addr} {m c : Nat} {xs : List α} (H : Hd w0 F0 w (osl d (.slice A m c) xs :: As) Rs) (i : Nat) (hi : i ≤ m) : Hd w0 F0 w (osl d (.slice A i c) (xs.take i) :: As) Rs := H.turn fun _ h => osl_pre h hi
end
section
variable {w w0 : World} {F0 : Foot} {As Rs : List SP} {α : Type} {enc : α → List Value} {sz : Nat} {hp : 0 < sz} {hl : ∀ x, (enc x).length = sz} {h1 : ∀ x, ∀ c ∈ enc x, c.oneCell' = true} {xs : List α} {A : Option Addr} {m c : Nat}
/-- Elements of a slice that is known to be read. -/
theorem Hd.thX (H : Hd w0 F0 w As Rs) (hS : ∀ F, (∀ A ∈ As, A.P w F) → (∀ R ∈ Rs, R.P w F) → (rsl (flat enc sz hp hl h1) (.slice A m c) xs).P w F) {i : Nat} {x : α} (hx : xs[i]? = some x) : There A := H.read fun F hA hR => flat_there (hS F hA hR) hx
theorem Hd.elX (H : Hd w0 F0 w As Rs) (hS : ∀ F, (∀ A ∈ As, A.P w F) → (∀ R ∈ Rs, R.P w F) → (rsl (flat enc sz hp hl h1) (.slice A m c) xs).P w F) {i : Nat} {x : α} (hx : xs[i]? = some x) {q p : Nat} {u : Value} (hu : (enc x)[q]? = some u) (hpj : oOf A + i * sz + q = p) : w.cell? ⟨bOf A, p, none⟩ = some u :=
  H.read fun F hA hR => flat_cell (hS F hA hR) hx hu hpj
theorem Hd.elsX (H : Hd w0 F0 w As Rs) (hS : ∀ F, (∀ A ∈ As, A.P w F) → (∀ R ∈ Rs, R.P w F) → (rsl (flat enc sz hp hl h1) (.slice A m c) xs).P w F) {i : Nat} {x : α} (hx : xs[i]? = some x) {p : Nat} (hpj : oOf A + i * sz = p) : ∀ q v, (enc x)[q]? = some v → w.cell? ((⟨bOf A, p, none⟩ : Addr).add q) = some v := by
  intro q v hq
  rw [add_of]
  exact H.elX hS hx hq (by rw [hpj])
end
section
variable {pv : Value} {key : ByteArray} {vv : Value} {fuel pos steps : Int} {halted : Bool} {sv : Value} {g : Nat → Val} {tv mv : Value}
theorem lt8 {k : Nat} (h : k < 8) : k = 0 ∨ k = 1 ∨ k = 2 ∨ k = 3 ∨ k = 4 ∨ k = 5 ∨ k = 6 ∨ k = 7 := by omega
theorem runC_reg {k : Nat} (h : k < 8) : (((runC pv key vv fuel pos steps halted sv g tv mv).drop (8 + k * 3)).take 3) = encVal (g k) := by
  rcases lt8 h with rfl | rfl | rfl | rfl | rfl | rfl | rfl | rfl <;> rfl
theorem runC_set {k : Nat} (h : k < 8) (v : Val) : puts (runC pv key vv fuel pos steps halted sv g tv mv) (8 + k * 3) (encVal v) = runC pv key vv fuel pos steps halted sv (setG g k v) tv mv := by
  rcases lt8 h with rfl | rfl | rfl | rfl | rfl | rfl | rfl | rfl <;> rfl
end
end Go.Proofs.YtlpgdkbokakniaaGreatDoor.X
