/- Rows of known length: made, filled in place, cut; structs held against one another. No program in sight. -/
import Derived.Test.YtlpgdkbokakniaaGreatDoorXR
set_option linter.unusedVariables false
set_option linter.unusedSimpArgs false
namespace Go.Proofs.YtlpgdkbokakniaaGreatDoor.X
open Go

/-! ### '==' of structs that lead nowhere -/
section
variable {P : Program} {w : World} {t : TypeId}
theorem eqF_cons {d : Nat} {xs ys : Array Value} {f : Field} {fs : List Field} {sz : Nat} {u v : Value} {b : Bool} (hn : f.name ≠ "_") (ha : tyOf P f.type = some (false, sz)) (hx : xs[f.offset]? = some u) (hy : ys[f.offset]? = some v)
    (he : (Op.equalIn d f.type u v).run P w = .ok b w) : (Op.eqFields d xs ys (f :: fs)).run P w = if b then (Op.eqFields d xs ys fs).run P w else .ok false w := by
  simp only [Op.eqFields, if_pos hn, Sem.run_bind]
  simp only [part, Sem.run_bind, run_isAgg ha, Result.andThen_ok, hx, hy, Sem.run_pure, Bool.false_eq_true, if_false, he, Sem.run_ite]
  cases b <;> simp
theorem eqIn_int (d : Nat) {k k' : IntKind} {a b : Int} (h : P.underlying t = some (.int k')) : (Op.equalIn (d + 1) t (.int k a) (.int k b)).run P w = .ok (decide (a = b)) w := by rw [run_equalIn_int w d t k k' a b h, beqI]
theorem eqIn_str (d : Nat) {a b : ByteArray} (h : P.underlying t = some .string) : (Op.equalIn (d + 1) t (.string a) (.string b)).run P w = .ok (decide (a = b)) w := by rw [run_equalIn_string w d t a b h, beqS]

/-- What '==' asks of a struct's type. -/
structure EqT (P : Program) (t : TypeId) (fs : List Field) : Prop where
  und : P.underlying t = some (.struct fs.toArray)
  stood : P.stoodInHeld t = false
  guard : P.eqGuardType P.depth t = false
theorem EqT.run {fs : List Field} (h : EqT P t fs) (d : Nat) (xs ys : Array Value) : (Op.equalIn (d + 1) t (.agg xs) (.agg ys)).run P w = (Op.eqFields d xs ys fs).run P w := by
  have hf : P.fieldsOf t = fs.toArray := by simp [Program.fieldsOf, h.und]
  rw [run_equalIn_struct w d t xs ys (by rw [hf]; exact h.und) h.stood, hf]
section
variable {n : Nat} {l : Env} {o : Oper} {x y : Operand} {t' : TypeId} {xs ys : Array Value} {fs : List Field} {b : Bool}
theorem r_eqT (ho : o.op = .binOp .eql t x y t') (h : EqT P t fs) (hx : ev l x = some (.agg xs)) (hy : ev l y = some (.agg ys)) (hb : (Op.eqFields (9998 + 1) xs ys fs).run P w = .ok b w) : Run P n l w o (.bool b) w := by
  intro a ha
  have h1 : (Op.equal t (.agg xs) (.agg ys)).run P w = .ok b w := (h.run (9998 + 1) xs ys).trans hb
  have h2 := run_eqGuard_agg (P := P) w .eql t x y xs ys h.guard
  unfold execOp
  simp only [ho, ha.eval hx, ha.eval hy, Sem.run_bind, h2, Result.andThen_ok]
  simp only [binOp, Sem.run_bind, h1, Result.andThen_ok, Sem.run_pure]
theorem r_neT (ho : o.op = .binOp .neq t x y t') (h : EqT P t fs) (hx : ev l x = some (.agg xs)) (hy : ev l y = some (.agg ys)) (hb : (Op.eqFields (9998 + 1) xs ys fs).run P w = .ok b w) : Run P n l w o (.bool !b) w := by
  intro a ha
  have h1 : (Op.equal t (.agg xs) (.agg ys)).run P w = .ok b w := (h.run (9998 + 1) xs ys).trans hb
  have h2 := run_eqGuard_agg (P := P) w .neq t x y xs ys h.guard
  unfold execOp
  simp only [ho, ha.eval hx, ha.eval hy, Sem.run_bind, h2, Result.andThen_ok]
  simp only [binOp, Sem.run_bind, h1, Result.andThen_ok, Sem.run_pure]
end
/-- A pair's fields. -/
structure PairT (P : Program) (t s : TypeId) : Prop where
  ex : ∃ f0 f1 : Field, EqT P t [f0, f1] ∧ f0.name ≠ "_" ∧ f1.name ≠ "_" ∧ f0.type = s ∧ f1.type = s ∧ f0.offset = 0 ∧ f1.offset = 1
  str : P.underlying s = some .string
  one : tyOf P s = some (false, 1)
theorem eqF_pair {s : TypeId} {f0 f1 : Field} (d : Nat) (p q : Pair) (h1 : f0.name ≠ "_") (h2 : f1.name ≠ "_") (h3 : f0.type = s) (h4 : f1.type = s) (h5 : f0.offset = 0) (h6 : f1.offset = 1) (hs : P.underlying s = some .string) (ho : tyOf P s = some (false, 1)) :
    (Op.eqFields (d + 1) (encPair p).toArray (encPair q).toArray [f0, f1]).run P w = .ok (decide (p = q)) w := by
  rw [eqF_cons (u := .string p.key) (v := .string q.key) (b := decide (p.key = q.key)) h1 (by rw [h3]; exact ho) (by rw [h5]; rfl) (by rw [h5]; rfl) (by rw [h3]; exact eqIn_str d hs)]
  rw [eqF_cons (u := .string p.val) (v := .string q.val) (b := decide (p.val = q.val)) h2 (by rw [h4]; exact ho) (by rw [h6]; rfl) (by rw [h6]; rfl) (by rw [h4]; exact eqIn_str d hs)]
  obtain ⟨a, b⟩ := p
  obtain ⟨c, e⟩ := q
  by_cases e1 : a = c <;> by_cases e2 : b = e <;> simp [e1, e2, Op.eqFields]
variable {n : Nat} {l : Env} {o : Oper} {x y : Operand} {t' s : TypeId}
theorem r_eqPair {p q : Pair} (ho : o.op = .binOp .eql t x y t') (h : PairT P t s) (hx : ev l x = some (.agg (encPair p).toArray)) (hy : ev l y = some (.agg (encPair q).toArray)) : Run P n l w o (.bool (decide (p = q))) w := by
  obtain ⟨f0, f1, he, h1, h2, h3, h4, h5, h6⟩ := h.ex
  exact r_eqT ho he hx hy (eqF_pair 9998 p q h1 h2 h3 h4 h5 h6 h.str h.one)
theorem r_nePair {p q : Pair} (ho : o.op = .binOp .neq t x y t') (h : PairT P t s) (hx : ev l x = some (.agg (encPair p).toArray)) (hy : ev l y = some (.agg (encPair q).toArray)) : Run P n l w o (.bool (decide (p ≠ q))) w := by
  obtain ⟨f0, f1, he, h1, h2, h3, h4, h5, h6⟩ := h.ex
  have := r_neT (n := n) (w := w) ho he hx hy (eqF_pair 9998 p q h1 h2 h3 h4 h5 h6 h.str h.one)
  rwa [show decide (p ≠ q) = !decide (p = q) from by simp]
structure InsT (P : Program) (t i s : TypeId) : Prop where
  ex : ∃ f0 f1 f2 : Field, EqT P t [f0, f1, f2] ∧ f0.name ≠ "_" ∧ f1.name ≠ "_" ∧ f2.name ≠ "_" ∧ f0.type = i ∧ f1.type = i ∧ f2.type = s ∧ f0.offset = 0 ∧ f1.offset = 1 ∧ f2.offset = 2
  str : P.underlying s = some .string
  int : P.underlying i = some (.int .i64)
  one : tyOf P s = some (false, 1)
  onei : tyOf P i = some (false, 1)
theorem eqF_ins {i s : TypeId} {f0 f1 f2 : Field} (d : Nat) (p q : Ins) (h1 : f0.name ≠ "_") (h2 : f1.name ≠ "_") (g2 : f2.name ≠ "_") (h3 : f0.type = i) (h4 : f1.type = i) (g4 : f2.type = s) (h5 : f0.offset = 0) (h6 : f1.offset = 1) (g6 : f2.offset = 2)
    (hs : P.underlying s = some .string) (hi : P.underlying i = some (.int .i64)) (ho : tyOf P s = some (false, 1)) (hoi : tyOf P i = some (false, 1)) :
    (Op.eqFields (d + 1) (encIns p).toArray (encIns q).toArray [f0, f1, f2]).run P w = .ok (decide (p = q)) w := by
  rw [eqF_cons (u := .int .i64 p.op) (v := .int .i64 q.op) (b := decide (p.op = q.op)) h1 (by rw [h3]; exact hoi) (by rw [h5]; rfl) (by rw [h5]; rfl) (by rw [h3]; exact eqIn_int d hi)]
  rw [eqF_cons (u := .int .i64 p.a) (v := .int .i64 q.a) (b := decide (p.a = q.a)) h2 (by rw [h4]; exact hoi) (by rw [h6]; rfl) (by rw [h6]; rfl) (by rw [h4]; exact eqIn_int d hi)]
  rw [eqF_cons (u := .string p.s) (v := .string q.s) (b := decide (p.s = q.s)) g2 (by rw [g4]; exact ho) (by rw [g6]; rfl) (by rw [g6]; rfl) (by rw [g4]; exact eqIn_str d hs)]
  obtain ⟨a, b, c⟩ := p
  obtain ⟨a', b', c'⟩ := q
  by_cases e1 : a = a' <;> by_cases e2 : b = b' <;> by_cases e3 : c = c' <;> simp [e1, e2, e3, Op.eqFields]
theorem r_eqIns {i : TypeId} {p q : Ins} (ho : o.op = .binOp .eql t x y t') (h : InsT P t i s) (hx : ev l x = some (.agg (encIns p).toArray)) (hy : ev l y = some (.agg (encIns q).toArray)) : Run P n l w o (.bool (decide (p = q))) w := by
  obtain ⟨f0, f1, f2, he, h1, h2, h2', h3, h4, h4', h5, h6, h6'⟩ := h.ex
  exact r_eqT ho he hx hy (eqF_ins 9998 p q h1 h2 h2' h3 h4 h4' h5 h6 h6' h.str h.int h.one h.onei)
theorem r_neIns {i : TypeId} {p q : Ins} (ho : o.op = .binOp .neq t x y t') (h : InsT P t i s) (hx : ev l x = some (.agg (encIns p).toArray)) (hy : ev l y = some (.agg (encIns q).toArray)) : Run P n l w o (.bool (decide (p ≠ q))) w := by
  obtain ⟨f0, f1, f2, he, h1, h2, h2', h3, h4, h4', h5, h6, h6'⟩ := h.ex
  have := r_neT (n := n) (w := w) ho he hx hy (eqF_ins 9998 p q h1 h2 h2' h3 h4 h4' h5 h6 h6' h.str h.int h.one h.onei)
  rwa [show decide (p ≠ q) = !decide (p = q) from by simp]
end

/-! ### Rows of known length -/
section
variable {α : Type} {enc : α → List Value} {sz : Nat} (hl : ∀ x, (enc x).length = sz)
include hl
theorem flat_len (xs : List α) : (xs.flatMap enc).length = xs.length * sz := by
  induction xs with
  | nil => simp
  | cons x xs ih => simp [hl, ih, Nat.succ_mul, Nat.add_comm]
theorem flat_drop : ∀ (xs : List α) (i : Nat), (xs.flatMap enc).drop (i * sz) = (xs.drop i).flatMap enc
  | [], i => by simp
  | x :: xs, 0 => by simp
  | x :: xs, i + 1 => by
    rw [List.flatMap_cons, List.drop_succ_cons, Nat.succ_mul, Nat.add_comm (i * sz), ← hl x, List.drop_length_add_append, hl x]
    exact flat_drop xs i
theorem flat_take : ∀ (xs : List α) (i : Nat), (xs.flatMap enc).take (i * sz) = (xs.take i).flatMap enc
  | [], i => by simp
  | x :: xs, 0 => by simp
  | x :: xs, i + 1 => by
    rw [List.flatMap_cons, List.take_succ_cons, List.flatMap_cons, Nat.succ_mul, Nat.add_comm (i * sz), ← hl x, List.take_length_add_append, hl x]
    rw [flat_take xs i]
end
theorem puts_eq : ∀ (vs cs : List Value) (i : Nat), i + vs.length ≤ cs.length → puts cs i vs = cs.take i ++ vs ++ cs.drop (i + vs.length)
  | [], cs, i, h => by simp [puts]
  | v :: vs, cs, i, h => by
    simp only [List.length_cons] at h
    rw [puts, puts_eq vs _ (i + 1) (by simp; omega)]
    have h1 : (cs.set i v).take (i + 1) = cs.take i ++ [v] := by
      rw [List.take_add_one, List.take_set_of_le (by omega)]
      simp [List.getElem?_set, show i < cs.length by omega]
    have h2 : (cs.set i v).drop (i + 1 + vs.length) = cs.drop (i + (vs.length + 1)) := by
      rw [List.drop_set_of_lt (by omega)]
      congr 1
      omega
    rw [h1, h2]
    simp
theorem puts_flat {α : Type} {enc : α → List Value} {sz : Nat} (hl : ∀ x, (enc x).length = sz) {xs : List α} {i : Nat} {x : α} (hi : i < xs.length) : puts (xs.flatMap enc) (i * sz) (enc x) = (xs.set i x).flatMap enc := by
  have h1 : i * sz + sz ≤ xs.length * sz := by rw [← Nat.succ_mul]; exact Nat.mul_le_mul_right _ hi
  rw [puts_eq _ _ _ (by rw [hl, flat_len hl]; exact h1), hl, flat_take hl, ← Nat.succ_mul, flat_drop hl, List.set_eq_take_append_cons_drop, if_pos hi]
  simp

/-- A block of so many data. -/
def rowF {α : Type} (enc : α → List Value) (b : Nat) (t : TypeId) (xs : List α) : SP := blk b (xs.flatMap enc) t
section
variable {P : Program} {ops : Array Oper} {Q : Exit → Act → World → Prop} {rest : List Oper} {n : Nat} {l : Env} {w0 w : World} {F F0 : Foot} {o : Oper} {v : Value} {As Rs : List SP} {x y : Operand} {t : TypeId}
variable {α : Type} {enc : α → List Value} {sz : Nat} {hp : 0 < sz} {hl : ∀ x, (enc x).length = sz} {h1 : ∀ x, ∀ c ∈ enc x, c.oneCell' = true}

theorem rowF_rsl {b : Nat} {bt : TypeId} {xs ys : List α} {i m c p : Nat} (h : (rowF enc b bt xs).P w F) (hy : (xs.drop i).take m = ys) (hm : ys.length = m) (hmc : m ≤ c) (hc : c ≤ 9223372036854775807) (hpi : i * sz = p) : (rsl (flat enc sz hp hl h1) (.slice (some ⟨b, p, none⟩) m c) ys).P w F := by
  subst hpi
  refine ⟨_, _, _, rfl, hm, hmc, hc, ys.flatMap enc, ⟨trivial, .inr ⟨b, i * sz, _, _, _, rfl, h.1, h.2, ?_⟩⟩, RepsR.flat_eq.2 rfl⟩
  rw [flat_len hl, hm]
  simp only [List.toList_toArray]
  rw [flat_drop hl, flat_take hl, hy]
theorem rowF_osl {b : Nat} {bt : TypeId} {xs ys : List α} {m c : Nat} (h : (rowF enc b bt xs).P w F) (hy : xs.take m = ys) (hm : ys.length = m) (hc : c = xs.length) (hcm : c ≤ 9223372036854775807) : (osl (flat enc sz hp hl h1) (.slice (some ⟨b, 0, none⟩) m c) ys).P w F := by
  have hmc : m ≤ c := by rw [← hm, ← hy, hc]; simp; omega
  have hml : m ≤ xs.length := by omega
  refine ⟨_, _, _, rfl, hm, ys.flatMap enc, F, none_, fun _ q => q, fun _ q => q.elim, fun _ _ q => q, ⟨hmc, hcm, by rw [flat_len hl, hm]; rfl, .inr ⟨b, _, bt, rfl, h.1, h.2, ?_, ?_⟩⟩, RepsO.flatR (F := none_) (RepsR.flat_eq.2 rfl)⟩
  · simp only [List.size_toArray]
    rw [flat_len hl, hc]
    rfl
  · simp only [List.toList_toArray]
    show (xs.flatMap enc).take (m * sz) = _
    rw [flat_take hl, hy]
theorem rowF_cells (hl : ∀ x, (enc x).length = sz) {b : Nat} {bt : TypeId} {xs : List α} (h : (rowF enc b bt xs).P w F) {i : Nat} {a : α} (hx : xs[i]? = some a) {p : Nat} (hpi : i * sz = p) : ∀ q u, (enc a)[q]? = some u → w.cell? ((⟨b, p, none⟩ : Addr).add q) = some u := by
  subst hpi
  intro q u hq
  rw [add_of]
  refine blk_cell h ?_
  have hlt : q < sz := by
    rcases Nat.lt_or_ge q (enc a).length with h' | h'
    · rw [hl] at h'; exact h'
    · simp [List.getElem?_eq_none h'] at hq
  have h2 : ((xs.flatMap enc).drop (i * sz))[q]? = some u := by
    rw [flat_drop hl]
    have hi : i < xs.length := lt_of_some hx
    rw [List.drop_eq_getElem_cons hi, List.flatMap_cons, List.getElem?_append_left (by rw [hl]; exact hlt)]
    rw [List.getElem?_eq_getElem hi] at hx
    rw [Option.some.inj hx]
    exact hq
  rwa [List.getElem?_drop] at h2
/-- 'make([]T, m, c)'. -/
theorem s_mkF {e bytes : Nat} {z : Value} {a0 : α} {m c : Nat} (hg : gd ops l o = some true) (hd : dok n o.dst = true) (ho : o.op = .makeSlice t x y) (hs : slOf P t = some (e, sz, bytes)) (hz : zrOf P e = some z) (hz0 : z.cells.toList = enc a0) (hp : 0 < sz) (hl : ∀ x, (enc x).length = sz)
    (hx : ev l x = some (.int .i64 (m : Int))) (hy : ev l y = some (.int .i64 (c : Int))) (hmc : m ≤ c) (hc : c * bytes ≤ 140737488355328) (hcs : c ≤ 140737488355328) (H : Hd w0 F0 w As Rs)
    (h : ∀ b w', Hd w0 F0 w' (rowF enc b e (List.replicate c a0) :: As) Rs → WL P ops Q rest n (upO l o.dst (.slice (some ⟨b, 0, none⟩) m c)) w') : WL P ops Q (o :: rest) n l w := by
  obtain ⟨hu, inf, hi, hsz, hby⟩ := slOf_spec hs
  obtain ⟨i, hi', hz'⟩ := Option.bind_eq_some_iff.1 hz
  rw [hi] at hi'
  cases hi'
  have hwc : IntKind.i64.wrap (c : Int) = c := w64 (by omega) (by omega)
  have hwm : IntKind.i64.wrap (m : Int) = m := w64 (by omega) (by omega)
  have hcells : (List.range (c * sz)).map (fun j => z.cells[j % z.cells.size]!) = (List.replicate c a0).flatMap enc := by
    have hzs : z.cells.size = sz := by rw [← Array.length_toList, hz0, hl]
    apply List.ext_getElem
    · rw [flat_len hl]; simp
    · intro j h1 h2
      simp only [List.getElem_map, List.getElem_range]
      simp at h1
      have hd : j = j / sz * sz + j % sz := by rw [Nat.mul_comm]; exact (Nat.div_add_mod j sz).symm
      have hjd : j / sz < c := Nat.div_lt_of_lt_mul (by rw [Nat.mul_comm]; exact h1)
      have hjm : j % sz < sz := Nat.mod_lt _ hp
      have h3 : ((List.replicate c a0).flatMap enc)[j]? = (enc a0)[j % sz]? := by
        have h4 : (((List.replicate c a0).flatMap enc).drop (j / sz * sz))[j % sz]? = (enc a0)[j % sz]? := by
          rw [flat_drop hl, List.drop_replicate]
          obtain ⟨r, hr⟩ : ∃ r, c - j / sz = r + 1 := ⟨c - j / sz - 1, by omega⟩
          rw [hr, List.replicate_succ, List.flatMap_cons, List.getElem?_append_left (by rw [hl]; exact hjm)]
        rw [List.getElem?_drop, ← hd] at h4
        exact h4
      have h5 : ((List.replicate c a0).flatMap enc)[j] = z.cells[j % z.cells.size]! := by
        rw [List.getElem?_eq_getElem h2] at h3
        rw [hzs]
        have h6 : j % sz < z.cells.size := by rw [hzs]; exact hjm
        rw [getElem!_pos z.cells _ h6]
        have h7 : (enc a0)[j % sz]? = some z.cells[j % sz] := by rw [← hz0]; simp [h6]
        rw [h7] at h3
        exact Option.some.inj h3
      exact h5.symm
  refine s_val (w' := w.alloc (.cells ((List.replicate c a0).flatMap enc).toArray e)) hg hd (v := .slice (some ⟨w.heap.size, 0, none⟩) m c) (fun a ha => ?_) (h _ _ (H.alloc _ e))
  have hb : inf.bytes * c ≤ 281474976710656 := by rw [hby, Nat.mul_comm]; omega
  have hb' : ¬ ((281474976710656 : Int) < (inf.bytes : Int) * (c : Int)) := by
    have : ((inf.bytes * c : Nat) : Int) ≤ 281474976710656 := Int.le_trans (Int.ofNat_le.2 hb) (by decide)
    rw [Int.natCast_mul] at this
    omega
  have hmc' : ¬ ((c : Int) < (m : Int)) := by omega
  have hcn : ¬ ((c : Int) < 0) := by omega
  have hmn : ¬ ((m : Int) < 0) := by omega
  have hcell2 : (Array.range (c * sz)).map (fun x => z.cells[x % z.cells.size]!) = ((List.replicate c a0).flatMap enc).toArray := by
    apply Array.toList_inj.1
    rw [← hcells]
    simp
  by_cases hc0 : c * sz = 0
  · obtain rfl : c = 0 := by
      rcases Nat.mul_eq_zero.1 hc0 with h | h
      · exact h
      · omega
    obtain rfl : m = 0 := by omega
    simp [execOp, ho, ha.eval hx, ha.eval hy, Instr.makeSlice, run_underlying hu, asInt, asIntOf, sizeOf, zeroValue, typeInfo, hi, hz', hsz, hwc, newRow, IntKind.wrap, IntKind.bits, IntKind.signed]
    exact congrArg (fun q => w.alloc (Obj.cells q e)) (by apply Array.toList_inj.1; simp)
  · simp [execOp, ho, ha.eval hx, ha.eval hy, Instr.makeSlice, run_underlying hu, asInt, asIntOf, sizeOf, zeroValue, typeInfo, hi, hz', hsz, hwc, hwm, hb', hmc', hcn, hmn, newRow, hc0, hcell2]

/-- 'append' where there is room: a row of known length. -/
theorem s_appIn {e bytes : Nat} {b bt : Nat} {xs ys : List α} {B : Option Addr} {m c m2 c2 : Nat} (hg : gd ops l o = some true) (hd : dok n o.dst = true) (ho : o.op = .call { callee := .builtin .append, args := #[x, y], argTypes := #[t, t] }) (hs : slOf P t = some (e, sz, bytes))
    (hx : ev l x = some (.slice (some ⟨b, 0, none⟩) m c)) (hy : ev l y = some (.slice B m2 c2)) (H : Hd w0 F0 w (rowF enc b bt xs :: As) Rs) (hc : xs.length = c) (hroom : m + m2 ≤ c) {k : Nat} (hk : m + m2 = k)
    (hn : ∀ F, (∀ A ∈ As, A.P w F) → (∀ R ∈ Rs, R.P w F) → (rsl (flat enc sz hp hl h1) (.slice B m2 c2) ys).P w F)
    (h : ∀ w', Hd w0 F0 w' (rowF enc b bt (xs.take m ++ ys ++ xs.drop k) :: As) Rs → WL P ops Q rest n (upO l o.dst (.slice (some ⟨b, 0, none⟩) k c)) w') : WL P ops Q (o :: rest) n l w := by
  subst hk
  obtain ⟨F, hF1, hF2⟩ : ∃ F, (∀ A ∈ As, A.P w F) ∧ (∀ R ∈ Rs, R.P w F) := H.read fun F a r => ⟨F, fun A hA => a A (List.mem_cons_of_mem _ hA), r⟩
  obtain ⟨hyl, _, _, news, hnr, hnR⟩ : slR (flat enc sz hp hl h1) w F ys B m2 c2 := by
    obtain ⟨A', n', c', e', h'⟩ := hn F hF1 hF2
    cases e'
    exact h'
  have hnl : news.length = m2 * sz := by rw [hnR.len, hyl]; rfl
  have hm0 : B = none → m2 = 0 := by
    intro hB
    rcases hnr.2 with rfl | ⟨b, off, C, t', fr, e', _⟩
    · have : m2 * sz = 0 := by rw [← hnl]; rfl
      exact (Nat.mul_eq_zero.1 this).resolve_right (by omega)
    · rw [hB] at e'; cases e'
  obtain ⟨hu, i, hi, hi1, hi2⟩ := slOf_spec hs
  have hfc := firstCells_row (P := P) (c := c2) hnr hnl hm0
  have hnews : news = ys.flatMap enc := RepsR.flat_eq.1 hnR
  obtain ⟨F1, hb⟩ : ∃ F, (rowF enc b bt xs).P w F := H.fact (List.mem_cons_self ..) fun F hb => ⟨F, hb⟩
  have hfit : m * sz + news.length ≤ (xs.flatMap enc).length := by rw [hnl, flat_len hl, ← Nat.add_mul]; exact Nat.mul_le_mul_right _ (by omega)
  obtain ⟨w', hr, _, _⟩ := run_put (P := P) news (xs.flatMap enc) (m * sz) 0 w hb hfit hnR.one
  have hnew : puts (xs.flatMap enc) (m * sz + 0) news = (xs.take m ++ ys ++ xs.drop (m + m2)).flatMap enc := by
    rw [Nat.add_zero, puts_eq _ _ _ hfit, hnews, flat_take hl, flat_len hl, hyl, ← Nat.add_mul, flat_drop hl]
    simp
  refine s_val hg hd (v := .slice (some ⟨b, 0, none⟩) (m + m2) c) (w' := w') (fun a ha => ?_) (h w' (H.write fun F' hb' => ?_))
  · simp [execOp, ho, resolve, ha.eval hx, ha.eval hy, invoke, builtin, Builtin.append_, run_underlying hu, sizeOf, typeInfo, hi, hi1, Builtin.lenOf, hroom, hfc w rfl, add_of, hr]
  · obtain ⟨w'', hr', h2, h3⟩ := run_put (P := P) news (xs.flatMap enc) (m * sz) 0 w hb' hfit hnR.one
    rw [hr] at hr'
    cases hr'
    refine ⟨?_, h3⟩
    show (blk b _ bt).P w' F'
    rw [← hnew]
    exact h2

/-- A store of a whole datum into a row of known length. -/
theorem s_stF {b bt : Nat} {xs : List α} {i p : Nat} {a : α} {B : Bool} (hl : ∀ x, (enc x).length = sz) (h1 : ∀ x, ∀ c ∈ enc x, c.oneCell' = true) (hg : gd ops l o = some true) (hd : o.dst = none) (ho : o.op = .store t x y) (ht : tyOf P t = some (B, sz)) (hx : ev l x = some (.pointer (some ⟨b, p, none⟩))) (hy : ev l y = some v) (hv : v.cells.toList = enc a)
    (H : Hd w0 F0 w (rowF enc b bt xs :: As) Rs) (hi : i < xs.length) (hpi : i * sz = p) (h : ∀ w', Hd w0 F0 w' (rowF enc b bt (xs.set i a) :: As) Rs → WL P ops Q rest n l w') : WL P ops Q (o :: rest) n l w := by
  subst hpi
  have hfit : i * sz + sz ≤ (xs.flatMap enc).length := by rw [flat_len hl, ← Nat.succ_mul]; exact Nat.mul_le_mul_right _ hi
  refine s_st hg hd ho ht hx hy H (by rw [← Array.length_toList, hv, hl]) hfit (by rw [hv]; exact h1 a) (fun w' H' => h w' ?_)
  rw [hv, puts_flat hl hi] at H'
  exact H'

/-- 'xs[lo:hi]'. -/
theorem r_cut2 {tt e size bytes : TypeId} {b off m c m' c' : Nat} {k k' : IntKind} {i j : Int} {p : Nat} {yh : Operand} (ho : o.op = .slice tt x (some y) (some yh) none) (hs : slOf P tt = some (e, size, bytes)) (hx : ev l x = some (.slice (some ⟨b, off, none⟩) m c)) (hy : ev l y = some (.int k i)) (hyh : ev l yh = some (.int k' j))
    (h0 : 0 ≤ i) (h1 : i ≤ j) (h2 : j ≤ (c : Int)) (hp : (if c = i.toNat then off else off + i.toNat * size) = p) (hm : j.toNat - i.toNat = m') (hc : c - i.toNat = c') : Run P n l w o (.slice (some ⟨b, p, none⟩) m' c') w := by
  intro a ha
  obtain ⟨hu, inf, hi, hz, _⟩ := slOf_spec hs
  subst hp
  subst hm
  subst hc
  have h3 : 0 ≤ j := by omega
  have h4 : i ≤ max j 0 := by omega
  have hb : (Instr.sliceBounds true m c (some (.int k i)) (some (.int k' j)) none).run P w = .ok (i.toNat, j.toNat, c) w := by
    simp [Instr.sliceBounds, Instr.sliceBound, asIntOf, h0, h2, h3, h4]
  by_cases e1 : c = i.toNat
  · rw [e1] at hb
    simp [execOp, ho, ha.eval hx, ha.eval hy, ha.eval hyh, Instr.sliceAt, Instr.slice, hb, run_underlying hu, sizeOf, typeInfo, hi, hz, e1]
  · simp [execOp, ho, ha.eval hx, ha.eval hy, ha.eval hyh, Instr.sliceAt, Instr.slice, hb, run_underlying hu, sizeOf, typeInfo, hi, hz, add_of, e1]

theorem Hd.rowsA (H : Hd w0 F0 w As Rs) (j : Nat) {b : Nat} {bt : TypeId} {xs : List α} (hj : As[j]? = some (rowF enc b bt xs)) (hl : ∀ x, (enc x).length = sz) {i : Nat} {a : α} (hx : xs[i]? = some a) {p : Nat} (hpi : i * sz = p) : ∀ q u, (enc a)[q]? = some u → w.cell? ((⟨b, p, none⟩ : Addr).add q) = some u :=
  fun q u hq => H.fact (List.mem_of_getElem? hj) fun _ h => rowF_cells hl h hx hpi q u hq
theorem Hd.rowsR (H : Hd w0 F0 w As Rs) (j : Nat) {b : Nat} {bt : TypeId} {xs : List α} (hj : Rs[j]? = some (rowF enc b bt xs)) (hl : ∀ x, (enc x).length = sz) {i : Nat} {a : α} (hx : xs[i]? = some a) {p : Nat} (hpi : i * sz = p) : ∀ q u, (enc a)[q]? = some u → w.cell? ((⟨b, p, none⟩ : Addr).add q) = some u :=
  fun q u hq => H.factR (List.mem_of_getElem? hj) fun _ h => rowF_cells hl h hx hpi q u hq
theorem Hd.rowA (H : Hd w0 F0 w As Rs) (j : Nat) {b : Nat} {bt : TypeId} {xs : List α} (hj : As[j]? = some (rowF enc b bt xs)) (hl : ∀ x, (enc x).length = sz) {i : Nat} {a : α} (hx : xs[i]? = some a) {p q : Nat} {u : Value} (hq : (enc a)[q]? = some u) (hpi : i * sz + q = p) : w.cell? ⟨b, p, none⟩ = some u := by
  have := H.rowsA j hj hl hx rfl q u hq
  rwa [add_of, hpi] at this
theorem Hd.rowR (H : Hd w0 F0 w As Rs) (j : Nat) {b : Nat} {bt : TypeId} {xs : List α} (hj : Rs[j]? = some (rowF enc b bt xs)) (hl : ∀ x, (enc x).length = sz) {i : Nat} {a : α} (hx : xs[i]? = some a) {p q : Nat} {u : Value} (hq : (enc a)[q]? = some u) (hpi : i * sz + q = p) : w.cell? ⟨b, p, none⟩ = some u := by
  have := H.rowsR j hj hl hx rfl q u hq
  rwa [add_of, hpi] at this
end
def encI64 (x : Int) : List Value := [.int .i64 x]
def encStr (x : ByteArray) : List Value := [.string x]
theorem hlI64 : ∀ x, (encI64 x).length = 1 := fun _ => rfl
theorem hlStr : ∀ x, (encStr x).length = 1 := fun _ => rfl
theorem hlPair : ∀ x, (encPair x).length = 2 := fun _ => rfl
theorem hlIns : ∀ x, (encIns x).length = 3 := fun _ => rfl
theorem h1I64 : ∀ x, ∀ c ∈ encI64 x, c.oneCell' = true := fun _ c h => by simp [encI64] at h; subst h; rfl
theorem h1Str : ∀ x, ∀ c ∈ encStr x, c.oneCell' = true := fun _ c h => by simp [encStr] at h; subst h; rfl
theorem h1Pair : ∀ x, ∀ c ∈ encPair x, c.oneCell' = true := fun _ c h => by simp [encPair] at h; rcases h with rfl | rfl <;> rfl
theorem h1Ins : ∀ x, ∀ c ∈ encIns x, c.oneCell' = true := fun _ c h => by simp [encIns] at h; rcases h with rfl | rfl | rfl <;> rfl
/-- What is lent with room behind it that is marked. -/
theorem lend_start {α : Type} (xs : List α) (z : α) : (List.replicate (xs.length + 3) z).take 0 ++ xs ++ (List.replicate (xs.length + 3) z).drop xs.length = xs ++ List.replicate 0 z ++ List.replicate (3 - 0) z := by
  simp [List.drop_replicate, show xs.length + 3 - xs.length = 3 by omega]
theorem lend_set {α : Type} (xs : List α) (m z : α) (k : Nat) (hk : k < 3) : (xs ++ List.replicate k m ++ List.replicate (3 - k) z).set (xs.length + k) m = xs ++ List.replicate (k + 1) m ++ List.replicate (3 - (k + 1)) z := by
  match k, hk with
  | 0, _ => simp [List.set_append, List.replicate_succ]
  | 1, _ => simp [List.set_append, List.replicate_succ]
  | 2, _ => simp [List.set_append, List.replicate_succ]
theorem lend_get {α : Type} (xs : List α) (m : α) (k : Nat) (hk : k < 3) : (xs ++ List.replicate 3 m)[xs.length + k]? = some m := by
  rw [List.getElem?_append_right (by omega), show xs.length + k - xs.length = k by omega, List.getElem?_replicate, if_pos hk]
end Go.Proofs.YtlpgdkbokakniaaGreatDoor.X
