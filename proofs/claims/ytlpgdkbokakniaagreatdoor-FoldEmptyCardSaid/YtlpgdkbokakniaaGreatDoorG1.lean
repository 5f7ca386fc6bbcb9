/- What is laid when a call begins, as the walks ask it. -/
import Derived.Test.YtlpgdkbokakniaaGreatDoorRows
import Derived.Test.YtlpgdkbokakniaaGreatDoorV4
import Derived.LaidSub
import Derived.Lib.LaidTab
import Derived.Stop.LaidErr
set_option linter.unusedVariables false
set_option linter.unusedSimpArgs false
namespace Go.Proofs.YtlpgdkbokakniaaGreatDoor.X
open Go
theorem v_foot {P : Program} {W : World} {name : String} {g : Nat} {cs : Array Value} (hg : P.globalNamed name = some g) (h : W.var? P name = some cs) : Old W g := by
  unfold World.var? at h
  rw [hg] at h
  simp only [Option.bind_some] at h
  show g < W.heap.size
  rcases Nat.lt_or_ge g W.heap.size with h' | h'
  · exact h'
  · simp [Array.getElem?_eq_none h'] at h
theorem star2 : "*" ++ "errors.errorString" = "*errors.errorString" := by decide
theorem ptrRow (u : TypeId) (h : Tryz.prog.typeName? 3 u = some "*errors.errorString") : u = 219 := typeName_ptr_named (nm := "errors.errorString") (by rw [star2]; kernel_rfl) (by kernel_rfl) (by decide) u (by rw [star2]; exact h)
theorem gn0 : Tryz.prog.globalNamed "internal/strconv.uint64pow10" = some 2 := by kernel_rfl
theorem gt0 : (Tryz.prog.globals[2]?).map (·.type) = some 215 := by kernel_rfl
theorem gn1 : Tryz.prog.globalNamed "strconv.ErrSyntax" = some 0 := by kernel_rfl
theorem gt1 : (Tryz.prog.globals[0]?).map (·.type) = some 168 := by kernel_rfl
theorem gn2 : Tryz.prog.globalNamed "strconv.ErrRange" = some 1 := by kernel_rfl
theorem gt2 : (Tryz.prog.globals[1]?).map (·.type) = some 168 := by kernel_rfl
theorem lu168 : Tryz.prog.underlying 168 = some (.interface (Tryz.prog.methodsAt 168)) := by kernel_rfl
theorem lu215 : Tryz.prog.underlying 215 = some (.array 20 86) := by kernel_rfl
theorem lu86 : Tryz.prog.underlying 86 = some (.int .u64) := by kernel_rfl
theorem lu219 : Tryz.prog.underlying 219 = some (.pointer 221) := by kernel_rfl
theorem lu221 : Tryz.prog.underlying 221 = some (.struct #[⟨ "s", 9, 0, false, "", "errors", 0⟩]) := by kernel_rfl
theorem lu9 : Tryz.prog.underlying 9 = some (.string) := by kernel_rfl
theorem lc86 : Tryz.prog.cellsOf 86 = 1 := by kernel_rfl
theorem lc215 : Tryz.prog.cellsOf 215 = 20 := by kernel_rfl
theorem lc221 : Tryz.prog.cellsOf 221 = 1 := by kernel_rfl
theorem lc9 : Tryz.prog.cellsOf 9 = 1 := by kernel_rfl
theorem gl_laid {W : World} (h : laidMet Tryz.prog Rows.foldEmptyRow.laid W) : gl.P W (Old W) := by
  refine ⟨?_, ?_, ?_⟩
  · have h0 : laidMet Tryz.prog [("internal/strconv.uint64pow10", Lib.tabData .u64 Lib.pow10Tab)] W := by
      have e : Rows.foldEmptyRow.laid.filter (fun x => x.1 == "internal/strconv.uint64pow10") = [("internal/strconv.uint64pow10", Lib.tabData .u64 Lib.pow10Tab)] := by kernel_rfl
      have := h.filter (fun x => x.1 == "internal/strconv.uint64pow10"); rw [e] at this; exact this
    have hv := Lib.tabIs_of_head gn0 gt0 lu215 lu86 lc86 lc215 h0
    exact ⟨_, gn0, v_foot gn0 hv, _, hv, rfl⟩
  · have h0 : laidMet Tryz.prog [("strconv.ErrSyntax", Rows.laid_strconv_ErrSyntax)] W := by
      have e : Rows.foldEmptyRow.laid.filter (fun x => x.1 == "strconv.ErrSyntax") = [("strconv.ErrSyntax", Rows.laid_strconv_ErrSyntax)] := by kernel_rfl
      have := h.filter (fun x => x.1 == "strconv.ErrSyntax"); rw [e] at this; exact this
    obtain ⟨a0, s0, hv, -⟩ := laid_sentinel h0 gn1 gt1 lu168 ptrRow lu219 lu221 rfl rfl lu9 lc221 lc9
    exact ⟨_, gn1, v_foot gn1 hv, _, hv, _, _, rfl⟩
  · have h0 : laidMet Tryz.prog [("strconv.ErrRange", Rows.laid_strconv_ErrRange)] W := by
      have e : Rows.foldEmptyRow.laid.filter (fun x => x.1 == "strconv.ErrRange") = [("strconv.ErrRange", Rows.laid_strconv_ErrRange)] := by kernel_rfl
      have := h.filter (fun x => x.1 == "strconv.ErrRange"); rw [e] at this; exact this
    obtain ⟨a0, s0, hv, -⟩ := laid_sentinel h0 gn2 gt2 lu168 ptrRow lu219 lu221 rfl rfl lu9 lc221 lc9
    exact ⟨_, gn2, v_foot gn2 hv, _, hv, _, _, rfl⟩
end Go.Proofs.YtlpgdkbokakniaaGreatDoor.X
