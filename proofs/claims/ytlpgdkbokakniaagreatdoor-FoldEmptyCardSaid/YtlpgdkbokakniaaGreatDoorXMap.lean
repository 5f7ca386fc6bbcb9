/- Maps whose keys are numbers: looked up, put into. No program in sight. -/
import Derived.Test.YtlpgdkbokakniaaGreatDoorXC
import Derived.MapKept
set_option linter.unusedVariables false
namespace Go.Proofs.YtlpgdkbokakniaaGreatDoor.X
open Go

/-- The entries of a map, as pairs. -/
def EntI (es : List MapEntry) (kvs : List (Int × Value)) : Prop := es.map (fun e => (e.key, e.val)) = kvs.map (fun p => (Value.int .i64 p.1, p.2))
def alook (k : Int) : List (Int × Value) → Option Value
  | [] => none
  | p :: r => if k = p.1 then some p.2 else alook k r
/-- A map that is held. -/
def mapI (b : Nat) (kvs : List (Int × Value)) : SP where
  P w F := F b ∧ ∃ es c, w.heap[b]? = some (.map es c) ∧ EntI es.toList kvs
  loc := fun ⟨h, es, c, e, h2⟩ hk => ⟨h, es, c, (hk b h).trans e, h2⟩
  mono := fun ⟨h, h2⟩ hs => ⟨hs b h, h2⟩
theorem findNow_i {k : Int} : ∀ {es : List MapEntry} {kvs : List (Int × Value)} (i : Nat), EntI es kvs →
    (alook k kvs = none ∧ Instr.findNow (.int .i64) (.int .i64 k) es i = some none) ∨ ∃ j v, alook k kvs = some v ∧ Instr.findNow (.int .i64) (.int .i64 k) es i = some (some (j, v))
  | [], kvs, i, h => by
    obtain rfl : kvs = [] := by simpa [EntI] using h.symm
    exact .inl ⟨rfl, rfl⟩
  | e :: es, [], i, h => by simp [EntI] at h
  | e :: es, p :: kvs, i, h => by
    simp only [EntI, List.map_cons, List.cons.injEq, Prod.mk.injEq] at h
    obtain ⟨⟨h1, h2⟩, h3⟩ := h
    have ih := findNow_i (k := k) (i + 1) (show EntI es kvs from h3)
    unfold alook Instr.findNow
    rw [h1]
    simp only [Instr.sameNow, if_true]
    by_cases hk : k = p.1
    · rw [if_pos hk]
      refine .inr ⟨i, p.2, rfl, ?_⟩
      simp [hk, h2]
    · rw [if_neg hk]
      have : (k == p.1) = false := by simpa using hk
      rw [this]
      exact ih
section
variable {P : Program} {ops : Array Oper} {Q : Exit → Act → World → Prop} {rest : List Oper} {n : Nat} {l : Env} {w0 w : World} {F0 : Foot} {o : Oper} {v : Value} {As Rs : List SP} {x y : Operand} {t kt et : TypeId} {b : Nat} {kvs : List (Int × Value)}

theorem run_look {F : Foot} (hm : P.underlying t = some (.map kt et)) (hk : P.underlying kt = some (.int .i64)) {z : Value} (hz : zrOf P et = some z) (k : Int) (h : (mapI b kvs).P w F) : (Instr.lookup t (.map (some b)) (.int .i64 k) false).run P w = .ok ((alook k kvs).getD z) w := by
  obtain ⟨_, es, c, hb, he⟩ := h
  have hg := MapKept.run_getObj_map (P := P) hb
  have hc := fun e => MapKept.run_checkKey (P := P) (w := w) (k := .int .i64 k) hk (by trivial) e 9999
  obtain ⟨i, hi, hz'⟩ := Option.bind_eq_some_iff.1 hz
  rcases findNow_i (k := k) 0 he with ⟨h1, h2⟩ | ⟨j, u, h1, h2⟩
  · have hf := MapKept.run_findKey (w := w) hk h2
    simp [Instr.lookup, run_underlying hm, hg, hc, hf, h1, zeroValue, typeInfo, hi, hz']
  · have hf := MapKept.run_findKey (w := w) hk h2
    simp [Instr.lookup, run_underlying hm, hg, hc, hf, h1]
/-- m[k], where m is held. -/
theorem r_look (ho : o.op = .lookup t x y false) (hm : P.underlying t = some (.map kt et)) (hk : P.underlying kt = some (.int .i64)) {z : Value} (hz : zrOf P et = some z) (hx : ev l x = some (.map (some b))) {k : Int} (hy : ev l y = some (.int .i64 k))
    (H : Hd w0 F0 w As Rs) (j : Nat) (hj : As[j]? = some (mapI b kvs)) : Run P n l w o ((alook k kvs).getD z) w := by
  intro a ha
  refine H.fact (List.mem_of_getElem? hj) fun F h => ?_
  have := run_look hm hk hz k h
  simp [execOp, ho, ha.eval hx, ha.eval hy, this]
/-- m[k] = v, where there is no k yet. -/
theorem s_mset {z : Operand} (hg : gd ops l o = some true) (hd : o.dst = none) (ho : o.op = .mapUpdate t x y z) (hm : P.underlying t = some (.map kt et)) (hk : P.underlying kt = some (.int .i64)) (hx : ev l x = some (.map (some b))) {k : Int} (hy : ev l y = some (.int .i64 k)) (hz : ev l z = some v)
    (hn : alook k kvs = none) (H : Hd w0 F0 w (mapI b kvs :: As) Rs) (h : ∀ w', Hd w0 F0 w' (mapI b (kvs ++ [(k, v)]) :: As) Rs → WL P ops Q rest n l w') : WL P ops Q (o :: rest) n l w := by
  obtain ⟨es, c, hb, he⟩ : ∃ es c, w.heap[b]? = some (.map es c) ∧ EntI es.toList kvs := H.fact (List.mem_cons_self ..) fun F h => h.2
  have hgo := MapKept.run_getObj_map (P := P) hb
  have hc := MapKept.run_checkKey (P := P) (w := w) (k := .int .i64 k) hk (by trivial) false 9999
  have hf : (Instr.findKey kt (.int .i64 k) es.toList).run P w = .ok none w := by
    rcases findNow_i (k := k) 0 he with ⟨h1, h2⟩ | ⟨j, u, h1, h2⟩
    · exact MapKept.run_findKey (w := w) hk h2
    · rw [hn] at h1; cases h1
  have hs := fun ob => MapKept.run_setObj_map (P := P) (o := ob) hb
  refine s_skip hg hd (w' := { w with heap := w.heap.setIfInBounds b (.map (es.push { key := .int .i64 k, val := v, born := c }) (c + 1)) }) (fun a ha => ?_) (h _ (H.write fun F hF => ?_))
  · simp [execOp, ho, ha.eval hx, ha.eval hy, ha.eval hz, Instr.mapUpdate, run_underlying hm, hgo, hc, hf, hs]
  · have hlt : b < w.heap.size := (Array.getElem?_eq_some_iff.1 hb).1
    refine ⟨⟨hF.1, _, _, by simp [hlt]; exact ⟨rfl, rfl⟩, ?_⟩, ⟨rfl, rfl, rfl, by simp, fun k hk hn' => ?_⟩⟩
    · simp only [EntI, Array.toList_push, List.map_append] at he ⊢
      rw [he]
      rfl
    · have : b ≠ k := fun e => hn' (e ▸ hF.1)
      simp [this]
/-- map[..]..{}. -/
theorem s_mkmap (hg : gd ops l o = some true) (hd : dok n o.dst = true) (ho : o.op = .makeMap t none) (H : Hd w0 F0 w As Rs)
    (h : ∀ b w', Hd w0 F0 w' (mapI b [] :: As) Rs → WL P ops Q rest n (upO l o.dst (.map (some b))) w') : WL P ops Q (o :: rest) n l w := by
  refine s_val (w' := w.alloc (.map #[] 0)) hg hd (v := .map (some w.heap.size)) (fun a ha => ?_) (h _ _ ?_)
  · simp [execOp, ho, Instr.makeMap]
  · refine H.new (F' := fun k => k = w.heap.size) (Upd.alloc _ _ _) ⟨rfl, #[], 0, heap_alloc_new w _, rfl⟩ ?_
    intro k hk
    subst hk
    simp
end
end Go.Proofs.YtlpgdkbokakniaaGreatDoor.X
