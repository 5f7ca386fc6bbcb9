/- Elements of a row that is held: a store into one. No program in sight. -/
import Derived.Test.YtlpgdkbokakniaaGreatDoorXK
set_option linter.unusedVariables false
namespace Go.Proofs.YtlpgdkbokakniaaGreatDoor.X
open Go

section
variable {w w0 : World} {F0 : Foot} {As Rs : List SP} {α : Type} {enc : α → List Value} {sz : Nat} {hp : 0 < sz} {hl : ∀ x, (enc x).length = sz} {h1 : ∀ x, ∀ c ∈ enc x, c.oneCell' = true} {A : Option Addr} {m c : Nat} {xs : List α}

theorem reps_one {F : Foot} {cs : List Value} (h : RepsO (flat enc sz hp hl h1) w F xs cs) : cs = xs.flatMap enc := RepsR.flat_eq.1 h.toR

/-- A row that is held and not empty is one block's first cells. -/
theorem Hd.toBlk (H : Hd w0 F0 w (osl (flat enc sz hp hl h1) (.slice A m c) xs :: As) Rs) (hc : 0 < xs.length) :
    ∃ b t rest, A = some ⟨b, 0, none⟩ ∧ xs.length = m ∧ m ≤ c ∧ c ≤ 9223372036854775807 ∧ rest.length + m * sz = c * sz ∧ Hd w0 F0 w (blk b (xs.flatMap enc ++ rest) t :: As) Rs := by
  obtain ⟨b, C, t, hA, hm, hle, hmax, hh, hs, ht⟩ : ∃ b C t, A = some ⟨b, 0, none⟩ ∧ xs.length = m ∧ m ≤ c ∧ c ≤ 9223372036854775807 ∧ w.heap[b]? = some (.cells C t (0, 0)) ∧ C.size = c * sz ∧ C.toList.take (m * sz) = xs.flatMap enc := by
    refine H.fact (List.mem_cons_self ..) ?_
    rintro F ⟨A', n, c', e, hn, cs, F1, F2, s1, s2, dj, ⟨r1, r2, r3, r4⟩, hr⟩
    simp only [List.cons.injEq, Value.slice.injEq, and_true] at e
    obtain ⟨rfl, rfl, rfl⟩ := e
    have hcs := reps_one hr
    rcases r4 with ⟨h0, _⟩ | ⟨b, C, t, e, hb, hh, hs, ht⟩
    · omega
    · exact ⟨b, C, t, e, hn, r1, r2, hh, hs, by rw [← hcs]; exact ht⟩
  have hCl : C.toList.length = c * sz := by simpa using hs
  have hle' : m * sz ≤ c * sz := Nat.mul_le_mul_right _ hle
  refine ⟨b, t, C.toList.drop (m * sz), hA, hm, hle, hmax, by rw [List.length_drop]; omega, H.turn fun F hF => ?_⟩
  obtain ⟨A', n, c', e, hn, cs, F1, F2, s1, s2, dj, ⟨r1, r2, r3, r4⟩, hr⟩ := hF
  simp only [List.cons.injEq, Value.slice.injEq, and_true] at e
  obtain ⟨rfl, rfl, rfl⟩ := e
  rcases r4 with ⟨h0, _⟩ | ⟨b', C', t', e, hb, hh', hs', ht'⟩
  · omega
  · rw [hA] at e
    obtain rfl : b = b' := by simpa using e
    refine ⟨s1 b hb, ?_⟩
    rw [hh, ← ht, List.take_append_drop]
theorem Hd.ofBlk {b t : Nat} {rest : List Value} (H : Hd w0 F0 w (blk b (xs.flatMap enc ++ rest) t :: As) Rs) (hm : xs.length = m) (hle : m ≤ c) (hmax : c ≤ 9223372036854775807) (hr : rest.length + m * sz = c * sz) :
    Hd w0 F0 w (osl (flat enc sz hp hl h1) (.slice (some ⟨b, 0, none⟩) m c) xs :: As) Rs := by
  refine H.turn fun F hF => ?_
  have hfl : (xs.flatMap enc).length = m * sz := by rw [flat_len hl, hm]
  refine ⟨_, _, _, rfl, hm, xs.flatMap enc, F, none_, fun _ q => q, fun _ q => q.elim, fun _ _ q => q, ⟨hle, hmax, hfl, .inr ⟨b, _, _, rfl, hF.1, hF.2, by show (xs.flatMap enc ++ rest).toArray.size = c * sz; simp only [List.size_toArray, List.length_append]; omega, ?_⟩⟩, RepsO.flatR (F := none_) (RepsR.flat_eq.2 rfl)⟩
  show ((xs.flatMap enc ++ rest).toArray.toList).take (m * sz) = _
  rw [List.toList_toArray, List.take_left' hfl]

variable {P : Program} {ops : Array Oper} {Q : Exit → Act → World → Prop} {rest : List Oper} {n : Nat} {l : Env} {o : Oper} {v : Value} {x y : Operand} {t : TypeId}

theorem Hd.nilR {β : Type} {d : Kd β} {ys : List β} {A : Option Addr} {m c : Nat} (H : Hd w0 F0 w As Rs) (j : Nat) (hj : Rs[j]? = some (rsl d (.slice A m c) ys)) (hA : A.isNone = true) : ys = [] := by
  refine H.factR (List.mem_of_getElem? hj) ?_
  rintro F ⟨A', n, c', e, hn, h1, h2, cs, hr, hrep⟩
  simp only [List.cons.injEq, Value.slice.injEq, and_true] at e
  obtain ⟨rfl, rfl, rfl⟩ := e
  rcases hr.2 with rfl | ⟨b, off, C, t, fr, e, _⟩
  · have := hrep.len
    have hp := d.pos
    rcases Nat.eq_zero_or_pos ys.length with h0 | h0
    · exact List.eq_nil_of_length_eq_zero h0
    · have := Nat.mul_pos h0 hp
      simp at *
      omega
  · rw [e] at hA
    cases hA
theorem Hd.newnilA {β : Type} (d : Kd β) (A : Option Addr) (H : Hd w0 F0 w As Rs) : Hd w0 F0 w (osl d (.slice A 0 0) [] :: As) Rs := by
  obtain ⟨F, G, s, r⟩ := H
  exact ⟨F, G, ⟨none_, F, fun _ h => h.elim, fun _ h => h, fun _ h => h.elim, osl_nil d w none_ trivial, s⟩, r⟩
/-- No elements, but not nil. -/
theorem s_bsl0 {e size bytes : Nat} (hg : gd ops l o = some true) (hd : dok n o.dst = true) (ho : o.op = .buildSlice t 0 #[]) (hs : slOf P t = some (e, size, bytes)) (H : Hd w0 F0 w As Rs)
    (h : ∀ b w', Hd w0 F0 w' (blk b [] e :: As) Rs → WL P ops Q rest n (upO l o.dst (.slice (some ⟨b, 0, none⟩) 0 0)) w') : WL P ops Q (o :: rest) n l w := by
  obtain ⟨hu, inf, hi, hsz, _⟩ := slOf_spec hs
  refine s_val (w' := w.alloc (.cells #[] e)) hg hd (v := .slice (some ⟨w.heap.size, 0, none⟩) 0 0) (fun a ha => ?_) (h _ _ ?_)
  · unfold execOp
    simp only [ho, Instr.buildSlice, Sem.run_bind, run_underlying hu, sizeOf, typeInfo, run_program, hi, Nat.zero_mul, if_true, Sem.run_pure, Result.andThen_ok, newRow]
    have hz : ∀ f : Nat → Value, (Array.range 0).map f = #[] := fun f => Array.toList_inj.1 (by simp)
    simp [Instr.fill, hz]
  · have := H.alloc [] e
    simpa using this

/-- A store of a whole datum into an element of a row that is held. -/
theorem s_stO {i p : Nat} {a : α} {B : Bool} (hg : gd ops l o = some true) (hd : o.dst = none) (ho : o.op = .store t x y) (ht : tyOf P t = some (B, sz)) (hx : ev l x = some (.pointer (some ⟨bOf A, p, none⟩))) (hy : ev l y = some v) (hv : v.cells.toList = enc a)
    (H : Hd w0 F0 w (osl (flat enc sz hp hl h1) (.slice A m c) xs :: As) Rs) (hi : i < xs.length) (hpi : oOf A + i * sz = p) (h : ∀ w', Hd w0 F0 w' (osl (flat enc sz hp hl h1) (.slice A m c) (xs.set i a) :: As) Rs → WL P ops Q rest n l w') : WL P ops Q (o :: rest) n l w := by
  obtain ⟨b, bt, spare, rfl, hm, hle, hmax, hr, H'⟩ := H.toBlk (by omega)
  simp only [bOf, oOf, Nat.zero_add] at hx hpi
  subst hpi
  have hfl : (xs.flatMap enc).length = xs.length * sz := flat_len hl xs
  have hfit : i * sz + sz ≤ (xs.flatMap enc).length := by rw [flat_len hl, ← Nat.succ_mul]; exact Nat.mul_le_mul_right _ hi
  refine s_st hg hd ho ht hx hy H' (by rw [← Array.length_toList, hv, hl]) (by rw [List.length_append]; omega) (by rw [hv]; exact h1 a) (fun w' H2 => h w' ?_)
  rw [hv] at H2
  have hp2 : puts (xs.flatMap enc ++ spare) (i * sz) (enc a) = (xs.set i a).flatMap enc ++ spare := by
    rw [← puts_flat hl hi, puts_eq _ _ _ (by rw [List.length_append, hl]; omega), puts_eq _ _ _ (by rw [hl]; exact hfit)]
    rw [List.take_append_of_le_length (by omega), List.drop_append_of_le_length (by rw [hl]; omega)]
    simp [List.append_assoc]
  rw [hp2] at H2
  exact H2.ofBlk (by rw [List.length_set]; exact hm) hle hmax hr
end
end Go.Proofs.YtlpgdkbokakniaaGreatDoor.X
