/- What the library's own functions without a body do (atomic loads, stores, swaps; marks), as steps. No program in sight. -/
import Derived.Test.YtlpgdkbokakniaaGreatDoorXC
import Derived.Laws.LoneSync
set_option linter.unusedVariables false
namespace Go.Proofs.YtlpgdkbokakniaaGreatDoor.X
open Go
/-- f is the model's own function g. -/
def ExtIs (P : Program) (f : FuncId) (g : Array Value → Sem Value) : Prop := ∃ fn, P.funcs[f]? = some fn ∧ (fn.name == "runtime.NumGoroutine") = false ∧ fn.body.isNone = true ∧ Extern.findNext fn = none ∧ Extern.find fn = some g
section
variable {P : Program} {ops : Array Oper} {Q : Exit → Act → World → Prop} {rest : List Oper} {n : Nat} {l : Env} {w0 w w' : World} {F0 : Foot} {o : Oper} {v : Value} {As Rs : List SP} {f : FuncId} {xs : List Operand} {vs : List Value} {ts : Array TypeId} {b off : Nat} {cs : List Value} {t : TypeId}

theorem r_ext (ho : o.op = .call { callee := .value (.func f), args := xs.toArray, argTypes := ts }) (hx : xs.map (ev l) = vs.map some) (hr : (callFunc f vs.toArray).run P w = .ok (.value v) w') : Run P n l w o v w' := by
  intro a ha
  have := evals ha xs vs hx
  simp [execOp, ho, resolve, Act.eval, Deferred.ofValue, invoke, this, hr]

/-- An atomic load. -/
theorem r_aload {k : IntKind} {x : Int} (he : ExtIs P f (Extern.Atomic.loadT (.int k))) (ho : o.op = .call { callee := .value (.func f), args := xs.toArray, argTypes := ts }) (hx : xs.map (ev l) = [some (.pointer (some ⟨b, off, none⟩))]) (hc : w.cell? ⟨b, off, none⟩ = some (.int k x)) : Run P n l w o (.int k x) w := by
  obtain ⟨fn, h1, h2, h3, h4, h5⟩ := he
  exact r_ext (vs := [.pointer (some ⟨b, off, none⟩)]) ho hx (run_call_load h1 h2 h3 h4 k h5 hc)
theorem set_write {w : World} {F : Foot} (h : (blk b cs t).P w F) (i : Nat) (v : Value) : (blk b (cs.set i v) t).P (w.setCell ⟨b, i, none⟩ v) F ∧ Upd F w (w.setCell ⟨b, i, none⟩ v) := ⟨blk_set h i v, Upd.setCell w _ v h.1⟩
/-- An atomic store. -/
theorem s_astore {k : IntKind} {y : Int} {u : Value} (he : ExtIs P f Extern.Atomic.storeT) (hg : gd ops l o = some true) (hd : dok n o.dst = true) (ho : o.op = .call { callee := .value (.func f), args := xs.toArray, argTypes := ts }) (hx : xs.map (ev l) = [some (.pointer (some ⟨b, off, none⟩)), some (.int k y)])
    (H : Hd w0 F0 w (blk b cs t :: As) Rs) (hc : cs[off]? = some u) (h : ∀ w', Hd w0 F0 w' (blk b (cs.set off (.int k y)) t :: As) Rs → WL P ops Q rest n (upO l o.dst (.tuple #[])) w') : WL P ops Q (o :: rest) n l w := by
  obtain ⟨fn, h1, h2, h3, h4, h5⟩ := he
  exact s_val hg hd (r_ext (vs := [.pointer (some ⟨b, off, none⟩), .int k y]) ho hx (run_call_store h1 h2 h3 h4 h5 (H.cell (List.mem_cons_self ..) hc) (H.free (List.mem_cons_self ..) off))) (h _ (H.write fun F hF => set_write hF off _))
/-- An atomic swap that hits. -/
theorem s_acas {k : IntKind} {x y : Int} (he : ExtIs P f (Extern.Atomic.casT (.int k))) (hg : gd ops l o = some true) (hd : dok n o.dst = true) (ho : o.op = .call { callee := .value (.func f), args := xs.toArray, argTypes := ts }) (hx : xs.map (ev l) = [some (.pointer (some ⟨b, off, none⟩)), some (.int k x), some (.int k y)])
    (H : Hd w0 F0 w (blk b cs t :: As) Rs) (hc : cs[off]? = some (.int k x)) (h : ∀ w', Hd w0 F0 w' (blk b (cs.set off (.int k y)) t :: As) Rs → WL P ops Q rest n (upO l o.dst (.bool true)) w') : WL P ops Q (o :: rest) n l w := by
  obtain ⟨fn, h1, h2, h3, h4, h5⟩ := he
  exact s_val hg hd (r_ext (vs := [.pointer (some ⟨b, off, none⟩), .int k x, .int k y]) ho hx (run_call_cas_hit h1 h2 h3 h4 k h5 (H.cell (List.mem_cons_self ..) hc) (H.free (List.mem_cons_self ..) off))) (h _ (H.write fun F hF => set_write hF off _))
/-- An atomic sum. -/
theorem s_aadd {k : IntKind} {x y z : Int} (he : ExtIs P f (Extern.Atomic.update (Op.intArith .add) k true)) (hg : gd ops l o = some true) (hd : dok n o.dst = true) (ho : o.op = .call { callee := .value (.func f), args := xs.toArray, argTypes := ts }) (hx : xs.map (ev l) = [some (.pointer (some ⟨b, off, none⟩)), some (.int k y)])
    (H : Hd w0 F0 w (blk b cs t :: As) Rs) (hc : cs[off]? = some (.int k x)) (hz : k.wrap (x + y) = z) (h : ∀ w', Hd w0 F0 w' (blk b (cs.set off (.int k z)) t :: As) Rs → WL P ops Q rest n (upO l o.dst (.int k z)) w') : WL P ops Q (o :: rest) n l w := by
  obtain ⟨fn, h1, h2, h3, h4, h5⟩ := he
  refine s_val hg hd (r_ext (vs := [.pointer (some ⟨b, off, none⟩), .int k y]) ho hx (run_call_add h1 h2 h3 h4 k h5 (s := z) (H.cell (List.mem_cons_self ..) hc) (H.free (List.mem_cons_self ..) off) ?_)) (h _ (H.write fun F hF => set_write hF off _))
  subst hz
  simp [Op.intArith]
/-- A mark. -/
theorem r_mark0 {m : Mark} (he : ExtIs P f (fun _ => do mark m; pure Extern.Race.none_)) (ho : o.op = .call { callee := .value (.func f), args := xs.toArray, argTypes := ts }) (hx : xs.map (ev l) = []) : Run P n l w o (.tuple #[]) w := by
  obtain ⟨fn, h1, h2, h3, h4, h5⟩ := he
  exact r_ext (vs := []) ho hx (run_call_mark0 h1 h2 h3 h4 m h5 w)
theorem r_marked {m : Addr → Mark} (he : ExtIs P f (Extern.Race.marked m)) (ho : o.op = .call { callee := .value (.func f), args := xs.toArray, argTypes := ts }) {A : Addr} (hx : xs.map (ev l) = [some (.pointer (some A))]) : Run P n l w o (.tuple #[]) w := by
  obtain ⟨fn, h1, h2, h3, h4, h5⟩ := he
  exact r_ext (vs := [.pointer (some A)]) ho hx (run_call_marked h1 h2 h3 h4 m h5 A w)
end
end Go.Proofs.YtlpgdkbokakniaaGreatDoor.X
