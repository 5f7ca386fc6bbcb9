/- Variables of the library that are read; digits made once; calls that were put off. No program in sight. -/
import Derived.Test.YtlpgdkbokakniaaGreatDoorXV5
import Derived.Defers
import Derived.Lib.LaidTab
import Derived.Lib.ItoaNum
import Derived.Lib.AppendIntMem
set_option linter.unusedVariables false
namespace Go.Proofs.YtlpgdkbokakniaaGreatDoor.X
open Go
/-- A package-level variable that holds such cells. -/
def glb (P : Program) (name : String) (Q : Array Value → Prop) : SP where
  P w F := ∃ g, P.globalNamed name = some g ∧ F g ∧ ∃ cs, w.var? P name = some cs ∧ Q cs
  loc := fun ⟨g, h1, h2, cs, h3, h4⟩ hk => ⟨g, h1, h2, cs, by
    unfold World.var? at h3 ⊢
    rw [h1] at h3 ⊢
    simp only [Option.bind_some] at h3 ⊢
    rw [hk g h2]
    exact h3, h4⟩
  mono := fun ⟨g, h1, h2, h3⟩ hs => ⟨g, h1, hs g h2, h3⟩
def both (A B : SP) : SP where
  P w F := A.P w F ∧ B.P w F
  loc := fun ⟨a, b⟩ hk => ⟨SP.loc _ a hk, SP.loc _ b hk⟩
  mono := fun ⟨a, b⟩ hs => ⟨SP.mono _ a hs, SP.mono _ b hs⟩
section
variable {w0 w w' : World} {F0 : Foot} {As Rs : List SP}
theorem Hd.after (H : Hd w0 F0 w As Rs) (ub : Upd none_ w w') : Hd w0 F0 w' As Rs := by
  have h : Hd w0 F0 w' (pure_ True :: As) Rs := H.new ub (F' := none_) trivial (fun _ h => h.elim)
  exact h.drop
theorem upd_below (h : Go.RowKit.Below w.heap.size w w') : Upd none_ w w' := ⟨h.os, h.tape, h.output, h.size, fun k hk _ => h.block k hk⟩
theorem upd_grow (w : World) (k : Nat) (os : Array Obj) : Upd none_ w (Sort.grow (w.drewN k) os) := ⟨rfl, rfl, rfl, by simp [Sort.grow], fun i hi _ => by
  show (w.heap ++ os)[i]? = _
  rw [Array.getElem?_append_left hi]⟩
end

/-! ### Calls that were put off -/
def CnD (P : Program) (f : FuncId) (args : List Value) (As Rs : List SP) (T : Value → List SP → Prop) : Prop :=
  ∀ w F u, Hd w F w As Rs → CallsD P f args.toArray u w fun e u' w' => u' = u ∧ Ret (fun v w' => ∃ Bs, T v Bs ∧ Hd w F w' Bs Rs) e w'
theorem enterD {P : Program} {n : Nat} {w : World} {f : FuncId} {fn : Func} {c : Code} {args : List Value} {u : FrameMode} {R : Ending → World → Prop} (hf : P.funcs[f]? = some fn) (hb : fn.body = some c) (hn : fn.ntmps = n) (hl : args.length ≤ n)
    (h : WC P c (bodyPost P fn R) n (envOf 0 args) w) : CallsD P f args.toArray u w fun e u' w' => u' = u ∧ R e w' := by
  refine callsD_of_wp hf hb (h _ ⟨rfl, ?_, ?_⟩)
  · simp only [Array.size_append, List.size_toArray, Array.size_replicate, hn]
    omega
  · intro s v hs
    obtain ⟨_, h2⟩ := lk_envOf args 0 s v hs
    have hlt : s < args.length := by
      rcases Nat.lt_or_ge s args.length with h' | h'
      · exact h'
      · simp [List.getElem?_eq_none h'] at h2
    refine ⟨?_, by omega⟩
    have h3 : args[s]? = some v := by simpa using h2
    simp [Array.getD_eq_getD_getElem?, Array.getElem?_append, hlt]
    simpa [List.getElem?_eq_getElem hlt] using h3

theorem call_frameD {P : Program} {w0 w : World} {F0 : Foot} {As Rs Cs Ss : List SP} {f : FuncId} {args : List Value} {u : FrameMode} {T : Value → List SP → Prop} (hc : CnD P f args Cs Ss T) (H : Hd w0 F0 w (Cs ++ As) Rs) (hl : Lends w As Rs Ss) :
    CallsD P f args.toArray u w fun e u' w' => u' = u ∧ Ret (fun v w' => ∃ Bs, T v Bs ∧ Hd w0 F0 w' (Bs ++ As) Rs) e w' := by
  obtain ⟨Fc, h1, h2⟩ := H.frame hl
  refine (hc w Fc u h1).mono ?_
  rintro e u' w' ⟨hu, v, rfl, Bs, hT, hB⟩
  exact ⟨hu, v, rfl, Bs, hT, h2 w' Bs hB⟩

/-! ### Digits that are made once -/
def digS (n : Int) : ByteArray := ⟨(Lib.itoa n).toArray⟩
/-- A cell whose text is made. -/
def cellB (n : Int) (c t : Nat) : SP := ex fun f : Value => blk c [.int .u32 1, .int .i32 0, .int .u32 0, .int .u32 1, f, .string (digS n)] t
def ptrOf (p : Int × Nat) : Int × Value := (p.1, .pointer (some ⟨p.2, 0, none⟩))
def cellsS (t : Nat) (kvs : List (Int × Nat)) : SP := star (kvs.map fun p => cellB p.1 p.2 t)
def digsT (t b : Nat) : SP := ex fun kvs : List (Int × Nat) => star [mapI b (kvs.map ptrOf), cellsS t kvs]
section
variable {w0 w w' : World} {F0 : Foot} {As Rs : List SP} {t b : Nat}
theorem Hd.ex_out {α : Sort _} {A : α → SP} (H : Hd w0 F0 w (ex A :: As) Rs) : ∃ a, Hd w0 F0 w (A a :: As) Rs := by
  obtain ⟨F, G, ⟨F1, F2, h1, h2, h3, ⟨a, ha⟩, s⟩, r, d, f, g, u⟩ := H
  exact ⟨a, F, G, ⟨F1, F2, h1, h2, h3, ha, s⟩, r, d, f, g, u⟩
theorem Hd.ex_in {α : Sort _} {A : α → SP} (a : α) (H : Hd w0 F0 w (A a :: As) Rs) : Hd w0 F0 w (ex A :: As) Rs := H.turn fun _ h => ⟨a, h⟩
theorem digs_open (H : Hd w0 F0 w (digsT t b :: As) Rs) : ∃ kvs : List (Int × Nat), Hd w0 F0 w (mapI b (kvs.map ptrOf) :: cellsS t kvs :: As) Rs := by
  obtain ⟨kvs, h⟩ := H.ex_out
  exact ⟨kvs, h.open_ (Bs := [mapI b (kvs.map ptrOf), cellsS t kvs]) fun F hF => hF⟩
theorem digs_shut (kvs : List (Int × Nat)) (H : Hd w0 F0 w (mapI b (kvs.map ptrOf) :: cellsS t kvs :: As) Rs) : Hd w0 F0 w (digsT t b :: As) Rs :=
  (Hd.shut (Bs := [mapI b (kvs.map ptrOf), cellsS t kvs]) H fun F hF => hF).ex_in kvs
theorem cells_nil (H : Hd w0 F0 w As Rs) : Hd w0 F0 w (cellsS t [] :: As) Rs := Hd.shut (Bs := []) H fun F hF => hF
theorem digs_new {A : SP} (H : Hd w0 F0 w (A :: mapI b [] :: As) Rs) : Hd w0 F0 w (A :: digsT t b :: As) Rs := by
  have h1 : Hd w0 F0 w (mapI b [] :: A :: As) Rs := H.perm (List.Perm.swap _ _ _)
  have h2 := (cells_nil (t := t) h1).perm (List.Perm.swap _ _ _)
  exact (digs_shut [] h2).perm (List.Perm.swap _ _ _)
theorem start_order {A B C : SP} (H : Hd w0 F0 w (A :: B :: C :: As) Rs) : Hd w0 F0 w (C :: A :: B :: As) Rs := H.perm (((List.Perm.swap C B As).cons A).trans (List.Perm.swap C A _))
theorem alook_ptr {n : Int} : ∀ {kvs : List (Int × Nat)} {v : Value}, alook n (kvs.map ptrOf) = some v → ∃ c, v = .pointer (some ⟨c, 0, none⟩) ∧ (n, c) ∈ kvs
  | [], _, h => by simp [alook] at h
  | p :: kvs, v, h => by
    simp only [List.map_cons, alook, ptrOf] at h
    split at h
    · rename_i e
      refine ⟨p.2, (Option.some.inj h).symm, ?_⟩
      rw [e]
      exact List.mem_cons_self ..
    · obtain ⟨c, h1, h2⟩ := alook_ptr h
      exact ⟨c, h1, List.mem_cons_of_mem _ h2⟩
theorem alook_snoc {n : Int} {v : Value} : ∀ {kvs : List (Int × Value)}, alook n kvs = none → alook n (kvs ++ [(n, v)]) = some v
  | [], _ => by simp [alook]
  | p :: kvs, h => by
    simp only [List.cons_append, alook] at h ⊢
    split at h
    · cases h
    · rename_i e
      rw [if_neg e]
      exact alook_snoc h
theorem map_snoc (kvs : List (Int × Nat)) (n : Int) (b : Nat) : (kvs ++ [(n, b)]).map ptrOf = kvs.map ptrOf ++ [(n, .pointer (some ⟨b, 0, none⟩))] := by simp [ptrOf]
/-- One cell is taken out, and laid back. -/
theorem cells_take {kvs : List (Int × Nat)} {n : Int} {c : Nat} (hm : (n, c) ∈ kvs) (H : Hd w0 F0 w (cellsS t kvs :: As) Rs) : ∃ rest : List (Int × Nat), Hd w0 F0 w (cellB n c t :: cellsS t rest :: As) Rs ∧ ∀ {w1 : World} {F1 : Foot} {w2 : World} {Bs Rs' : List SP}, Hd w1 F1 w2 (cellB n c t :: cellsS t rest :: Bs) Rs' → Hd w1 F1 w2 (cellsS t kvs :: Bs) Rs' := by
  obtain ⟨s, u, rfl⟩ := List.append_of_mem hm
  have hp : ((s ++ (n, c) :: u).map fun p => cellB p.1 p.2 t).Perm (cellB n c t :: ((s ++ u).map fun p => cellB p.1 p.2 t)) := by
    rw [List.map_append, List.map_cons, List.map_append]
    exact List.perm_middle
  refine ⟨s ++ u, ?_, ?_⟩
  · have h1 : Hd w0 F0 w (star (cellB n c t :: ((s ++ u).map fun p => cellB p.1 p.2 t)) :: As) Rs := H.turn fun F hF => Star.perm hp hF
    refine h1.open_ (Bs := [cellB n c t, cellsS t (s ++ u)]) fun F hF => ?_
    obtain ⟨F1, F2, a1, a2, a3, a, b⟩ := hF
    exact ⟨F1, F2, a1, a2, a3, a, F2, none_, fun _ h => h, fun _ h => h.elim, fun _ _ h => h, b, trivial⟩
  · intro w1 F1 w2 Bs Rs' H2
    refine Hd.shut (Bs := [cellB n c t, cellsS t (s ++ u)]) H2 fun F hF => ?_
    obtain ⟨F1, F2, a1, a2, a3, a, F3, F4, b1, b2, b3, b, _⟩ := hF
    exact Star.perm hp.symm ⟨F1, F2, a1, a2, a3, a, Star.mono b b1⟩
theorem cells_put {kvs : List (Int × Nat)} {n : Int} {c : Nat} (H : Hd w0 F0 w (cellB n c t :: cellsS t kvs :: As) Rs) : Hd w0 F0 w (cellsS t (kvs ++ [(n, c)]) :: As) Rs := by
  have hp : ((kvs ++ [(n, c)]).map fun p => cellB p.1 p.2 t).Perm (cellB n c t :: (kvs.map fun p => cellB p.1 p.2 t)) := by
    rw [List.map_append, List.map_cons, List.map_nil]
    exact List.perm_append_singleton ..
  refine Hd.shut (Bs := [cellB n c t, cellsS t kvs]) H fun F hF => ?_
  obtain ⟨F1, F2, a1, a2, a3, a, F3, F4, b1, b2, b3, b, _⟩ := hF
  exact Star.perm hp.symm ⟨F1, F2, a1, a2, a3, a, Star.mono b b1⟩
end
section
variable {P : Program} {n : Nat} {l : Env} {w w0 : World} {F0 : Foot} {o : Oper} {x y : Operand} {t kt et : TypeId} {As Rs : List SP} {b : Nat} {kvs : List (Int × Value)} {v : Value}
theorem r_look1 (ho : o.op = .lookup t x y false) (hm : P.underlying t = some (.map kt et)) (hk : P.underlying kt = some (.int .i64)) {z : Value} (hz : zrOf P et = some z) (hx : ev l x = some (.map (some b))) {k : Int} (hy : ev l y = some (.int .i64 k))
    (H : Hd w0 F0 w As Rs) (j : Nat) (hj : As[j]? = some (mapI b kvs)) (hv : (alook k kvs).getD z = v) : Run P n l w o v w := hv ▸ r_look ho hm hk hz hx hy H j hj
end
end Go.Proofs.YtlpgdkbokakniaaGreatDoor.X
