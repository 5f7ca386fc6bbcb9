/- The sorts and compactions of the library. -/
import Derived.Test.YtnaaahpmnhoabaaM1
import Derived.Test.YtnaaahpmnhoabaaXU
import Derived.Test.YtnaaahpmnhoabaaShelf
set_option linter.unusedVariables false
set_option linter.unusedSimpArgs false
namespace Go.Proofs.Ytnaaahpmnhoabaa.X
open Go
theorem sortInt_ok (v : Value) (xs : List Int) (hb : xs.length ≤ 1000000) : Cn Try.prog 93 [v] [osl (kInt .i64) v xs] [] (fun _ Bs => Bs = [osl (kInt .i64) v (sortI xs)]) :=
  cn_sort (e1 := Value.int .i64) (s := sortI) (fun xs => by simp [sortI]) (by simp [sortI]) (fun p c w => Go.Proofs.Try.slices_Sort_int_none p c w) (fun b c xs w hH hbl hl => Go.Proofs.Try.slices_Sort_int b 0 c xs w hH hbl (by omega)) v xs hb

theorem compInt_ok (v : Value) (xs : List Int) (hb : xs.length ≤ 1000000) : Cn Try.prog 94 [v] [osl (kInt .i64) v xs] [] (fun u Bs => Bs = [osl (kInt .i64) u (Lib.compact xs)]) :=
  cn_compact (e1 := Value.int .i64) (s := Lib.compact) (z := 0) compact_le rfl (fun p c w => Go.Proofs.Try.slices_Compact_int_empty p c w) (fun b c xs w hH hl hc => Go.Proofs.Try.slices_Compact_int b 0 c xs w hH (by omega) hc) v xs hb

theorem sortStr_ok (v : Value) (xs : List ByteArray) (hb : xs.length ≤ 1000000) : Cn Try.prog 98 [v] [osl kStr v xs] [] (fun _ Bs => Bs = [osl kStr v (sortS xs)]) :=
  cn_sort (e1 := Value.string) (s := sortS) (fun xs => by simp [sortS]) (by simp [sortS]) (fun p c w => Go.Proofs.Try.slices_Sort_string_none p c w) (fun b c xs w hH hbl hl => by
    have h := Go.Proofs.Try.slices_Sort_string b 0 c (xs.map ofS) w (holdsS hH) hbl (by simp; omega)
    rw [List.length_map] at h
    refine h.mono ?_
    rintro e w' ⟨h1, n, os, h2⟩
    exact ⟨h1, n, os, by rw [h2, putS]; rfl⟩) v xs hb

theorem compStr_ok (v : Value) (xs : List ByteArray) (hb : xs.length ≤ 1000000) : Cn Try.prog 99 [v] [osl kStr v xs] [] (fun u Bs => Bs = [osl kStr u (compS xs)]) :=
  cn_compact (e1 := Value.string) (s := compS) (z := toS []) (fun xs => by have := compact_le (xs.map ofS); simpa [compS] using this) rfl (fun p c w => Go.Proofs.Try.slices_Compact_string_empty p c w) (fun b c xs w hH hl hc => by
    have h := Go.Proofs.Try.slices_Compact_string b 0 c (xs.map ofS) w (holdsS hH) (by simp; omega) (by simpa using hc)
    rw [List.length_map] at h
    refine h.mono ?_
    rintro e w' ⟨h1, n, h2⟩
    exact ⟨by rw [h1]; simp [compS], n, by rw [h2, putS]; simp [compS]⟩) v xs hb

end Go.Proofs.Ytnaaahpmnhoabaa.X
