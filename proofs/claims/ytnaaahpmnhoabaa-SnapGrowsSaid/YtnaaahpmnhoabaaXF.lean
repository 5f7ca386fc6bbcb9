/- The facts of the types that the walks cite. -/
import Derived.Test.YtnaaahpmnhoabaaXK
import Derived.Test.YtnaaahpmnhoabaaProg
import Derived.KernelRfl
set_option linter.unusedVariables false
namespace Go.Proofs.Ytnaaahpmnhoabaa.X
open Go
theorem kn103 : Known Try.prog 103 := known Try.func103 rfl rfl
theorem kn104 : Known Try.prog 104 := known Try.func104 rfl rfl
theorem kn21 : Known Try.prog 21 := known Try.func21 rfl rfl
theorem kn22 : Known Try.prog 22 := known Try.func22 rfl rfl
theorem kn23 : Known Try.prog 23 := known Try.func23 rfl rfl
theorem kn24 : Known Try.prog 24 := known Try.func24 rfl rfl
theorem kn25 : Known Try.prog 25 := known Try.func25 rfl rfl
theorem kn26 : Known Try.prog 26 := known Try.func26 rfl rfl
theorem kn27 : Known Try.prog 27 := known Try.func27 rfl rfl
theorem kn28 : Known Try.prog 28 := known Try.func28 rfl rfl
theorem kn29 : Known Try.prog 29 := known Try.func29 rfl rfl
theorem kn30 : Known Try.prog 30 := known Try.func30 rfl rfl
theorem kn38 : Known Try.prog 38 := known Try.func38 rfl rfl
theorem kn84 : Known Try.prog 84 := known Try.func84 rfl rfl
theorem kn85 : Known Try.prog 85 := known Try.func85 rfl rfl
theorem kn86 : Known Try.prog 86 := known Try.func86 rfl rfl
theorem kn87 : Known Try.prog 87 := known Try.func87 rfl rfl
theorem mo : Try.prog.follows .mixedOrders = true := by kernel_rfl
theorem sl22 : slOf Try.prog 22 = some (3, 1, 8) := by kernel_rfl
theorem ty22 : tyOf Try.prog 22 = some (false, 1) := by kernel_rfl
theorem ty3 : tyOf Try.prog 3 = some (false, 1) := by kernel_rfl
theorem un22 : Try.prog.underlying 22 = some (.slice 3) := by kernel_rfl
theorem un3 : Try.prog.underlying 3 = some (.int .i64) := by kernel_rfl
theorem un4 : Try.prog.underlying 4 = some (.bool) := by kernel_rfl
theorem un96 : Try.prog.underlying 96 = some (.int .u64) := by kernel_rfl
theorem zr3 : zrOf Try.prog 3 = some (.int .i64 0) := by kernel_rfl
end Go.Proofs.Ytnaaahpmnhoabaa.X
