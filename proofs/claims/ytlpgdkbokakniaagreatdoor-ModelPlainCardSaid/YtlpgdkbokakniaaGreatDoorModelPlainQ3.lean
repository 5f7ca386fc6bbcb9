/- ModelPlain: texts XG, V4, O1, O2, joined by a program of ours; what nothing names is left out. -/
import Derived.Test.YtlpgdkbokakniaaGreatDoorModelPlainQ2
import Derived.Defers
import Derived.Lib.LaidTab
import Derived.Lib.ItoaNum
import Derived.Lib.AppendIntMem
import Derived.Test.YtlpgdkbokakniaaGreatDoorShelf
import Derived.Tactics2
import Derived.Laws.Pointers
import Derived.RegionTactic
import Derived.RegionCalls
import Derived.ChangeAlike
set_option linter.unusedVariables false
namespace Go.Proofs.YtlpgdkbokakniaaGreatDoor.X
open Go
/-- A package-level variable that holds such cells. -/
def glb (P : Program) (name : String) (Q : Array Value → Prop) : SP where
  P w F := ∃ g, P.globalNamed name = some g ∧ F g ∧ ∃ cs, w.var? P name = some cs ∧ Q cs
  loc := fun ⟨g, h1, h2, cs, h3, h4⟩ hk => ⟨g, h1, h2, cs, by
    unfold World.var? at h3 ⊢
    rw [h1] at h3 ⊢
    simp only [Option.bind_some] at h3 ⊢
    rw [hk g h2]
    exact h3, h4⟩
  mono := fun ⟨g, h1, h2, h3⟩ hs => ⟨g, h1, hs g h2, h3⟩
def both (A B : SP) : SP where
  P w F := A.P w F ∧ B.P w F
  loc := fun ⟨a, b⟩ hk => ⟨SP.loc _ a hk, SP.loc _ b hk⟩
  mono := fun ⟨a, b⟩ hs => ⟨SP.mono _ a hs, SP.mono _ b hs⟩
section
variable {w0 w w' : World} {F0 : Foot} {As Rs : List SP}
theorem Hd.after (H : Hd w0 F0 w As Rs) (ub : Upd none_ w w') : Hd w0 F0 w' As Rs := by
  have h : Hd w0 F0 w' (pure_ True :: As) Rs := H.new ub (F' := none_) trivial (fun _ h => h.elim)
  exact h.drop
theorem upd_below (h : Go.RowKit.Below w.heap.size w w') : Upd none_ w w' := ⟨h.os, h.tape, h.output, h.size, fun k hk _ => h.block k hk⟩
theorem upd_grow (w : World) (k : Nat) (os : Array Obj) : Upd none_ w (Sort.grow (w.drewN k) os) := ⟨rfl, rfl, rfl, by simp [Sort.grow], fun i hi _ => by
  show (w.heap ++ os)[i]? = _
  rw [Array.getElem?_append_left hi]⟩
end

/-! ### Calls that were put off -/
def CnD (P : Program) (f : FuncId) (args : List Value) (As Rs : List SP) (T : Value → List SP → Prop) : Prop :=
  ∀ w F u, Hd w F w As Rs → CallsD P f args.toArray u w fun e u' w' => u' = u ∧ Ret (fun v w' => ∃ Bs, T v Bs ∧ Hd w F w' Bs Rs) e w'
theorem enterD {P : Program} {n : Nat} {w : World} {f : FuncId} {fn : Func} {c : Code} {args : List Value} {u : FrameMode} {R : Ending → World → Prop} (hf : P.funcs[f]? = some fn) (hb : fn.body = some c) (hn : fn.ntmps = n) (hl : args.length ≤ n)
    (h : WC P c (bodyPost P fn R) n (envOf 0 args) w) : CallsD P f args.toArray u w fun e u' w' => u' = u ∧ R e w' := by
  refine callsD_of_wp hf hb (h _ ⟨rfl, ?_, ?_⟩)
  · simp only [Array.size_append, List.size_toArray, Array.size_replicate, hn]
    omega
  · intro s v hs
    obtain ⟨_, h2⟩ := lk_envOf args 0 s v hs
    have hlt : s < args.length := by
      rcases Nat.lt_or_ge s args.length with h' | h'
      · exact h'
      · simp [List.getElem?_eq_none h'] at h2
    refine ⟨?_, by omega⟩
    have h3 : args[s]? = some v := by simpa using h2
    simp [Array.getD_eq_getD_getElem?, Array.getElem?_append, hlt]
    simpa [List.getElem?_eq_getElem hlt] using h3

theorem call_frameD {P : Program} {w0 w : World} {F0 : Foot} {As Rs Cs Ss : List SP} {f : FuncId} {args : List Value} {u : FrameMode} {T : Value → List SP → Prop} (hc : CnD P f args Cs Ss T) (H : Hd w0 F0 w (Cs ++ As) Rs) (hl : Lends w As Rs Ss) :
    CallsD P f args.toArray u w fun e u' w' => u' = u ∧ Ret (fun v w' => ∃ Bs, T v Bs ∧ Hd w0 F0 w' (Bs ++ As) Rs) e w' := by
  obtain ⟨Fc, h1, h2⟩ := H.frame hl
  refine (hc w Fc u h1).mono ?_
  rintro e u' w' ⟨hu, v, rfl, Bs, hT, hB⟩
  exact ⟨hu, v, rfl, Bs, hT, h2 w' Bs hB⟩

/-! ### Digits that are made once -/
def digS (n : Int) : ByteArray := ⟨(Lib.itoa n).toArray⟩
/-- A cell whose text is made. -/
def cellB (n : Int) (c t : Nat) : SP := ex fun f : Value => blk c [.int .u32 1, .int .i32 0, .int .u32 0, .int .u32 1, f, .string (digS n)] t
def ptrOf (p : Int × Nat) : Int × Value := (p.1, .pointer (some ⟨p.2, 0, none⟩))
def cellsS (t : Nat) (kvs : List (Int × Nat)) : SP := star (kvs.map fun p => cellB p.1 p.2 t)
def digsT (t b : Nat) : SP := ex fun kvs : List (Int × Nat) => star [mapI b (kvs.map ptrOf), cellsS t kvs]
section
variable {w0 w w' : World} {F0 : Foot} {As Rs : List SP} {t b : Nat}
theorem Hd.ex_out {α : Sort _} {A : α → SP} (H : Hd w0 F0 w (ex A :: As) Rs) : ∃ a, Hd w0 F0 w (A a :: As) Rs := by
  obtain ⟨F, G, ⟨F1, F2, h1, h2, h3, ⟨a, ha⟩, s⟩, r, d, f, g, u⟩ := H
  exact ⟨a, F, G, ⟨F1, F2, h1, h2, h3, ha, s⟩, r, d, f, g, u⟩
theorem Hd.ex_in {α : Sort _} {A : α → SP} (a : α) (H : Hd w0 F0 w (A a :: As) Rs) : Hd w0 F0 w (ex A :: As) Rs := H.turn fun _ h => ⟨a, h⟩
theorem digs_open (H : Hd w0 F0 w (digsT t b :: As) Rs) : ∃ kvs : List (Int × Nat), Hd w0 F0 w (mapI b (kvs.map ptrOf) :: cellsS t kvs :: As) Rs := by
  obtain ⟨kvs, h⟩ := H.ex_out
  exact ⟨kvs, h.open_ (Bs := [mapI b (kvs.map ptrOf), cellsS t kvs]) fun F hF => hF⟩
theorem digs_shut (kvs : List (Int × Nat)) (H : Hd w0 F0 w (mapI b (kvs.map ptrOf) :: cellsS t kvs :: As) Rs) : Hd w0 F0 w (digsT t b :: As) Rs :=
  (Hd.shut (Bs := [mapI b (kvs.map ptrOf), cellsS t kvs]) H fun F hF => hF).ex_in kvs
theorem cells_nil (H : Hd w0 F0 w As Rs) : Hd w0 F0 w (cellsS t [] :: As) Rs := Hd.shut (Bs := []) H fun F hF => hF
theorem digs_new {A : SP} (H : Hd w0 F0 w (A :: mapI b [] :: As) Rs) : Hd w0 F0 w (A :: digsT t b :: As) Rs := by
  have h1 : Hd w0 F0 w (mapI b [] :: A :: As) Rs := H.perm (List.Perm.swap _ _ _)
  have h2 := (cells_nil (t := t) h1).perm (List.Perm.swap _ _ _)
  exact (digs_shut [] h2).perm (List.Perm.swap _ _ _)
theorem start_order {A B C : SP} (H : Hd w0 F0 w (A :: B :: C :: As) Rs) : Hd w0 F0 w (C :: A :: B :: As) Rs := H.perm (((List.Perm.swap C B As).cons A).trans (List.Perm.swap C A _))
theorem alook_ptr {n : Int} : ∀ {kvs : List (Int × Nat)} {v : Value}, alook n (kvs.map ptrOf) = some v → ∃ c, v = .pointer (some ⟨c, 0, none⟩) ∧ (n, c) ∈ kvs
  | [], _, h => by simp [alook] at h
  | p :: kvs, v, h => by
    simp only [List.map_cons, alook, ptrOf] at h
    split at h
    · rename_i e
      refine ⟨p.2, (Option.some.inj h).symm, ?_⟩
      rw [e]
      exact List.mem_cons_self ..
    · obtain ⟨c, h1, h2⟩ := alook_ptr h
      exact ⟨c, h1, List.mem_cons_of_mem _ h2⟩
theorem alook_snoc {n : Int} {v : Value} : ∀ {kvs : List (Int × Value)}, alook n kvs = none → alook n (kvs ++ [(n, v)]) = some v
  | [], _ => by simp [alook]
  | p :: kvs, h => by
    simp only [List.cons_append, alook] at h ⊢
    split at h
    · cases h
    · rename_i e
      rw [if_neg e]
      exact alook_snoc h
theorem map_snoc (kvs : List (Int × Nat)) (n : Int) (b : Nat) : (kvs ++ [(n, b)]).map ptrOf = kvs.map ptrOf ++ [(n, .pointer (some ⟨b, 0, none⟩))] := by simp [ptrOf]
/-- One cell is taken out, and laid back. -/
theorem cells_take {kvs : List (Int × Nat)} {n : Int} {c : Nat} (hm : (n, c) ∈ kvs) (H : Hd w0 F0 w (cellsS t kvs :: As) Rs) : ∃ rest : List (Int × Nat), Hd w0 F0 w (cellB n c t :: cellsS t rest :: As) Rs ∧ ∀ {w1 : World} {F1 : Foot} {w2 : World} {Bs Rs' : List SP}, Hd w1 F1 w2 (cellB n c t :: cellsS t rest :: Bs) Rs' → Hd w1 F1 w2 (cellsS t kvs :: Bs) Rs' := by
  obtain ⟨s, u, rfl⟩ := List.append_of_mem hm
  have hp : ((s ++ (n, c) :: u).map fun p => cellB p.1 p.2 t).Perm (cellB n c t :: ((s ++ u).map fun p => cellB p.1 p.2 t)) := by
    rw [List.map_append, List.map_cons, List.map_append]
    exact List.perm_middle
  refine ⟨s ++ u, ?_, ?_⟩
  · have h1 : Hd w0 F0 w (star (cellB n c t :: ((s ++ u).map fun p => cellB p.1 p.2 t)) :: As) Rs := H.turn fun F hF => Star.perm hp hF
    refine h1.open_ (Bs := [cellB n c t, cellsS t (s ++ u)]) fun F hF => ?_
    obtain ⟨F1, F2, a1, a2, a3, a, b⟩ := hF
    exact ⟨F1, F2, a1, a2, a3, a, F2, none_, fun _ h => h, fun _ h => h.elim, fun _ _ h => h, b, trivial⟩
  · intro w1 F1 w2 Bs Rs' H2
    refine Hd.shut (Bs := [cellB n c t, cellsS t (s ++ u)]) H2 fun F hF => ?_
    obtain ⟨F1, F2, a1, a2, a3, a, F3, F4, b1, b2, b3, b, _⟩ := hF
    exact Star.perm hp.symm ⟨F1, F2, a1, a2, a3, a, Star.mono b b1⟩
theorem cells_put {kvs : List (Int × Nat)} {n : Int} {c : Nat} (H : Hd w0 F0 w (cellB n c t :: cellsS t kvs :: As) Rs) : Hd w0 F0 w (cellsS t (kvs ++ [(n, c)]) :: As) Rs := by
  have hp : ((kvs ++ [(n, c)]).map fun p => cellB p.1 p.2 t).Perm (cellB n c t :: (kvs.map fun p => cellB p.1 p.2 t)) := by
    rw [List.map_append, List.map_cons, List.map_nil]
    exact List.perm_append_singleton ..
  refine Hd.shut (Bs := [cellB n c t, cellsS t kvs]) H fun F hF => ?_
  obtain ⟨F1, F2, a1, a2, a3, a, F3, F4, b1, b2, b3, b, _⟩ := hF
  exact Star.perm hp.symm ⟨F1, F2, a1, a2, a3, a, Star.mono b b1⟩
end
section
variable {P : Program} {n : Nat} {l : Env} {w w0 : World} {F0 : Foot} {o : Oper} {x y : Operand} {t kt et : TypeId} {As Rs : List SP} {b : Nat} {kvs : List (Int × Value)} {v : Value}
theorem r_look1 (ho : o.op = .lookup t x y false) (hm : P.underlying t = some (.map kt et)) (hk : P.underlying kt = some (.int .i64)) {z : Value} (hz : zrOf P et = some z) (hx : ev l x = some (.map (some b))) {k : Int} (hy : ev l y = some (.int .i64 k))
    (H : Hd w0 F0 w As Rs) (j : Nat) (hj : As[j]? = some (mapI b kvs)) (hv : (alook k kvs).getD z = v) : Run P n l w o v w := hv ▸ r_look ho hm hk hz hx hy H j hj
end
end Go.Proofs.YtlpgdkbokakniaaGreatDoor.X

set_option linter.unusedVariables false
set_option linter.unusedSimpArgs false
namespace Go.Proofs.YtlpgdkbokakniaaGreatDoor.X
open Go
def gl : SP := both (glb Tryz.prog "internal/strconv.uint64pow10" (fun cs => cs = (Lib.pow10Tab.map fun z => Value.int .u64 z).toArray)) (both (glb Tryz.prog "strconv.ErrSyntax" (fun cs => ∃ tp p, cs = #[.iface tp p])) (glb Tryz.prog "strconv.ErrRange" (fun cs => ∃ tp p, cs = #[.iface tp p])))
def numS (s : ByteArray) : Int := match Lib.parseIntB 64 s.data.toList with
  | .ok v => if digS v = s then v else 0
  | _ => 0
def dg : Dig := ⟨digS, numS⟩
abbrev digsP (b : Nat) : SP := digsT 185 b
theorem num_in (s : ByteArray) : In64 (dg.num s) := by
  show In64 (numS s)
  unfold numS
  split
  · rename_i v h
    have := Lib.parseIntB_bounds h
    split
    · unfold In64; omega
    · exact in0
  · exact in0
theorem formatInt_ok (n : Int) (hn : In64 n) : Cn Tryz.prog 136 [.int .i64 n, .int .i64 10] [] [gl] (fun v Bs => v = .string (dg.dig n) ∧ Bs = []) := by
  intro w F H
  have htab : Lib.TabIs Tryz.prog w "internal/strconv.uint64pow10" .u64 Lib.pow10Tab := H.factR (List.mem_cons_self ..) fun F h => by
    obtain ⟨⟨g, h1, h2, cs, h3, rfl⟩, _⟩ := h
    exact h3
  refine (Go.Proofs.Tryz.strconv_FormatInt_10 n hn.1 hn.2 w htab).mono ?_
  rintro e w' ⟨rfl, k, os, rfl⟩
  exact ⟨_, rfl, [], ⟨rfl, rfl⟩, H.after (upd_grow w k os)⟩
theorem parse_ok (s : ByteArray) (hs : s.size ≤ 64) (v : Int) (h : Lib.parseIntB 64 s.data.toList = .ok v) : Cn Tryz.prog 131 [.string s, .int .i64 10, .int .i64 64] [] [gl] (fun r Bs => r = .tuple #[.int .i64 v, .nilIface] ∧ Bs = []) := by
  intro w F H
  refine (Go.Proofs.Tryz.strconv_ParseInt_10_at64_ok s (by omega) v h w).mono ?_
  rintro e w' ⟨rfl, hw⟩
  refine ⟨_, rfl, [], ⟨rfl, rfl⟩, ?_⟩
  rcases hw with rfl | ⟨t, rfl⟩
  · exact H
  · exact H.after (upd_below (Lib.bytesWorld_below ..))
theorem parse_err (s : ByteArray) (hs : s.size ≤ 64) (h : ∀ v, Lib.parseIntB 64 s.data.toList ≠ .ok v) : Cn Tryz.prog 131 [.string s, .int .i64 10, .int .i64 64] [] [gl] (fun r Bs => ∃ x te pe, r = .tuple #[.int .i64 x, .iface te pe] ∧ Bs = []) := by
  intro w F H
  obtain ⟨tp, p, hS⟩ : ∃ tp p, w.var? Tryz.prog "strconv.ErrSyntax" = some #[.iface tp p] := H.factR (List.mem_cons_self ..) fun F h => by
    obtain ⟨_, ⟨g, h1, h2, cs, h3, tp, p, rfl⟩, _⟩ := h
    exact ⟨tp, p, h3⟩
  obtain ⟨tq, q, hR⟩ : ∃ tp p, w.var? Tryz.prog "strconv.ErrRange" = some #[.iface tp p] := H.factR (List.mem_cons_self ..) fun F h => by
    obtain ⟨_, _, ⟨g, h1, h2, cs, h3, tp, p, rfl⟩⟩ := h
    exact ⟨tp, p, h3⟩
  cases hh : Lib.parseIntB 64 s.data.toList with
  | ok v => exact absurd hh (h v)
  | «syntax» =>
    refine (Go.Proofs.Tryz.strconv_ParseInt_10_at64_syntax_var s (by omega) hh tp p w hS).mono ?_
    rintro e w' ⟨N, rfl, _, _, hb⟩
    exact ⟨_, rfl, [], ⟨_, _, _, rfl, rfl⟩, H.after (upd_below hb)⟩
  | range =>
    refine (Go.Proofs.Tryz.strconv_ParseInt_10_at64_range_var s (by omega) hh tq q w hR).mono ?_
    rintro e w' ⟨N, rfl, _, _, hb⟩
    exact ⟨_, rfl, [], ⟨_, _, _, rfl, rfl⟩, H.after (upd_below hb)⟩

set_option maxHeartbeats 1000000 in
theorem digits_ok (n : Int) (hn : In64 n) :
    Cn Tryz.prog 129 [.int .i64 n] [] [gl] (fun v Bs => v = .string (dg.dig n) ∧ Bs = []) := by
  intro w0 F0 H
  refine enter (args := [.int .i64 n]) Tryz.func129 rfl rfl (Nat.le_of_ble_eq_true rfl) ?_
  refine c_seq ?_
  refine c_reg ?_
  refine s_val rfl rfl (r_as rfl rfl) ?_
  refine s_nil ?_
  refine q_then ?_
  refine c_env [(0, .int .i64 n), (2, .string ⟨#[]⟩)] ⟨rfl, rfl, trivial⟩ ?_
  refine c_seq ?_
  refine c_reg ?_
  refine s_val rfl rfl (r_mv rfl rfl) ?_
  refine sc (formatInt_ok n (by assumption)) H (lR 0 rfl l0) rfl rfl (e_fn kn136 rfl rfl) ?_
  rintro _ _ w ⟨rfl, rfl⟩ H
  refine s_val rfl rfl (r_as rfl rfl) ?_
  refine s_nil ?_
  refine q_then ?_
  refine c_env [(2, .string (dg.dig n))] ⟨rfl, trivial⟩ ?_
  refine c_ret ?_
  refine q_ret1 rfl rfl ?_
  exact fin ⟨rfl, rfl⟩ H

theorem num_none {s : ByteArray} (h : ∀ v, Lib.parseIntB 64 s.data.toList ≠ .ok v) : dg.num s = 0 := by
  show numS s = 0
  unfold numS
  split
  · rename_i v hh
    exact absurd hh (h v)
  · rfl
set_option maxHeartbeats 1000000 in
theorem number_ok (s : ByteArray) (hs : s.size ≤ 64) :
    Cn Tryz.prog 114 [.string s] [] [gl] (fun v Bs => v = .int .i64 (dg.num s) ∧ Bs = []) := by
  intro w0 F0 H
  refine enter (args := [.string s]) Tryz.func114 rfl rfl (Nat.le_of_ble_eq_true rfl) ?_
  refine c_seq ?_
  refine c_reg ?_
  refine s_val rfl rfl (r_as rfl rfl) ?_
  refine s_nil ?_
  refine q_then ?_
  refine c_env [(0, .string s), (2, .int .i64 0)] ⟨rfl, rfl, trivial⟩ ?_
  refine c_seq ?_
  by_cases hok : ∃ v, Lib.parseIntB 64 s.data.toList = .ok v
  · skip
    refine c_reg ?_
    refine s_val rfl rfl (r_mv rfl rfl) ?_
    obtain ⟨x0, hx0⟩ := hok
    have hxb := Lib.parseIntB_bounds hx0
    have hx64 : In64 x0 := by unfold In64; omega
    refine sc (parse_ok s hs x0 hx0) H (lR 0 rfl l0) rfl rfl (e_fn kn131 rfl rfl) ?_
    rintro _ _ w ⟨rfl, rfl⟩ H
    refine s_val rfl rfl (r_mv rfl rfl) ?_
    refine s_val rfl rfl (r_ex rfl rfl rfl) ?_
    refine s_val rfl rfl (r_ex rfl rfl rfl) ?_
    refine s_val rfl rfl (r_as rfl rfl) ?_
    refine s_val rfl rfl (r_as rfl rfl) ?_
    refine s_nil ?_
    refine q_then ?_
    refine c_env [(0, .string s), (2, .int .i64 0), (3, .int .i64 x0), (4, .nilIface)] ⟨rfl, rfl, rfl, rfl, trivial⟩ ?_
    refine c_seq ?_
    refine c_seq ?_
    refine c_reg ?_
    refine s_val rfl rfl (r_mv rfl rfl) ?_
    refine s_val rfl rfl (r_ine rfl ui168 rfl (.inl ⟨rfl, rfl⟩)) ?_
    refine s_val rfl rfl (r_mv rfl rfl) ?_
    refine s_val rfl rfl (r_mv rfl rfl) ?_
    refine sc (digits_ok x0 (by assumption)) H (lR 0 rfl l0) rfl rfl (e_fn kn129 rfl rfl) ?_
    rintro _ _ w ⟨rfl, rfl⟩ H
    refine s_val rfl rfl (r_mv rfl rfl) ?_
    refine s_val rfl rfl (r_neS rfl rfl rfl) ?_
    refine s_val rfl rfl (r_pickF rfl rfl rfl) ?_
    refine s_nil ?_
    refine q_then ?_
    refine c_env [(2, .int .i64 0), (3, .int .i64 x0), (17, .bool (decide ((dg.dig x0) ≠ s)))] ⟨rfl, rfl, rfl, trivial⟩ ?_
    refine c_dec (p := (dg.dig x0) ≠ s) rfl (fun h1 => ?_) (fun h1 => ?_)
    · skip
      refine c_seq ?_
      refine c_reg ?_
      refine s_val rfl rfl (r_as rfl rfl) ?_
      refine s_nil ?_
      refine q_then ?_
      refine c_env [(2, .int .i64 0), (3, .int .i64 x0)] ⟨rfl, rfl, trivial⟩ ?_
      refine c_ret ?_
      refine q_thenR ?_
      refine q_ret1 rfl rfl ?_
      have e : dg.num s = 0 := by show numS s = _; unfold numS; rw [hx0]; exact if_neg h1
      exact fin ⟨by rw [e], rfl⟩ H
    · skip
      refine c_skip ?_
      refine q_then ?_
      refine c_env [(2, .int .i64 0), (3, .int .i64 x0)] ⟨rfl, rfl, trivial⟩ ?_
      refine c_seq ?_
      refine c_reg ?_
      refine s_val rfl rfl (r_mv rfl rfl) ?_
      refine s_val rfl rfl (r_as rfl rfl) ?_
      refine s_nil ?_
      refine q_then ?_
      refine c_env [(2, .int .i64 x0)] ⟨rfl, trivial⟩ ?_
      refine c_ret ?_
      refine q_ret1 rfl rfl ?_
      have e : dg.num s = x0 := by show numS s = _; unfold numS; rw [hx0]; exact if_pos (Classical.not_not.1 h1)
      exact fin ⟨by rw [e], rfl⟩ H
  · skip
    refine c_reg ?_
    refine s_val rfl rfl (r_mv rfl rfl) ?_
    refine sc (parse_err s hs (fun v h => hok ⟨v, h⟩)) H (lR 0 rfl l0) rfl rfl (e_fn kn131 rfl rfl) ?_
    rintro _ _ w ⟨x0, te, pe, rfl, rfl⟩ H
    refine s_val rfl rfl (r_mv rfl rfl) ?_
    refine s_val rfl rfl (r_ex rfl rfl rfl) ?_
    refine s_val rfl rfl (r_ex rfl rfl rfl) ?_
    refine s_val rfl rfl (r_as rfl rfl) ?_
    refine s_val rfl rfl (r_as rfl rfl) ?_
    refine s_nil ?_
    refine q_then ?_
    refine c_env [(0, .string s), (2, .int .i64 0), (3, .int .i64 x0), (4, .iface te pe)] ⟨rfl, rfl, rfl, rfl, trivial⟩ ?_
    refine c_seq ?_
    refine c_seq ?_
    refine c_reg ?_
    refine s_val rfl rfl (r_mv rfl rfl) ?_
    refine s_val rfl rfl (r_ine rfl ui168 rfl (.inr ⟨_, _, rfl, rfl⟩)) ?_
    refine s_val rfl rfl (r_mv rfl rfl) ?_
    refine s_no rfl rfl ?_
    refine s_no rfl rfl ?_
    refine s_no rfl rfl ?_
    refine s_no rfl rfl ?_
    refine s_val rfl rfl (r_pickT rfl rfl rfl) ?_
    refine s_nil ?_
    refine q_then ?_
    refine c_env [(2, .int .i64 0), (3, .int .i64 x0), (17, .bool true)] ⟨rfl, rfl, rfl, trivial⟩ ?_
    refine c_yes rfl ?_
    refine c_seq ?_
    refine c_reg ?_
    refine s_val rfl rfl (r_as rfl rfl) ?_
    refine s_nil ?_
    refine q_then ?_
    refine c_env [(2, .int .i64 0), (3, .int .i64 x0)] ⟨rfl, rfl, trivial⟩ ?_
    refine c_ret ?_
    refine q_thenR ?_
    refine q_ret1 rfl rfl ?_
    have e : dg.num s = 0 := num_none (fun v h => hok ⟨v, h⟩)
    exact fin ⟨by rw [e], rfl⟩ H

end Go.Proofs.YtlpgdkbokakniaaGreatDoor.X

set_option linter.unusedVariables false
set_option linter.unusedSimpArgs false
namespace Go.Proofs.YtlpgdkbokakniaaGreatDoor.X
open Go
set_option maxHeartbeats 1000000 in
theorem b32_ok (b : Bool) :
    Cn Tryz.prog 152 [.bool b] [] [] (fun v Bs => v = .int .u32 (if b = true then 1 else 0) ∧ Bs = []) := by
  intro w0 F0 H
  refine enter (args := [.bool b]) Tryz.func152 rfl rfl (Nat.le_of_ble_eq_true rfl) ?_
  refine c_seq ?_
  refine c_reg ?_
  refine s_val rfl rfl (r_as rfl rfl) ?_
  refine s_nil ?_
  refine q_then ?_
  refine c_env [(0, .bool b), (2, .int .u32 0)] ⟨rfl, rfl, trivial⟩ ?_
  refine c_seq ?_
  refine c_seq ?_
  refine c_reg ?_
  refine s_val rfl rfl (r_mv rfl rfl) ?_
  refine s_nil ?_
  refine q_then ?_
  refine c_env [(2, .int .u32 0), (3, .bool b)] ⟨rfl, rfl, trivial⟩ ?_
  refine c_cond (b := b) rfl (fun h1 => ?_) (fun h1 => ?_)
  · skip
    refine c_seq ?_
    refine c_reg ?_
    refine s_val rfl rfl (r_as rfl rfl) ?_
    refine s_nil ?_
    refine q_then ?_
    refine c_env [(2, .int .u32 1)] ⟨rfl, trivial⟩ ?_
    refine c_ret ?_
    refine q_thenR ?_
    refine q_ret1 rfl rfl ?_
    exact fin ⟨by simp [h1], rfl⟩ H
  · skip
    refine c_skip ?_
    refine q_then ?_
    refine c_env [(2, .int .u32 0)] ⟨rfl, trivial⟩ ?_
    refine c_seq ?_
    refine c_reg ?_
    refine s_val rfl rfl (r_as rfl rfl) ?_
    refine s_nil ?_
    refine q_then ?_
    refine c_env [(2, .int .u32 0)] ⟨rfl, trivial⟩ ?_
    refine c_ret ?_
    refine q_ret1 rfl rfl ?_
    exact fin ⟨by simp [h1], rfl⟩ H

set_option maxHeartbeats 1000000 in
theorem storeMade_ok (c : Nat) (d m : Int) (sm : Value) (md : Int) (fv : Value) (tx : ByteArray) :
    Cn Tryz.prog 137 [.pointer (some ⟨c, 3, none⟩), .bool true] [blk c [.int .u32 d, .int .i32 m, sm, .int .u32 md, fv, .string tx] 185] [] (fun v Bs => v = .tuple #[] ∧ Bs = [blk c [.int .u32 d, .int .i32 m, sm, .int .u32 1, fv, .string tx] 185]) := by
  intro w0 F0 H
  refine enter (args := [.pointer (some ⟨c, 3, none⟩), .bool true]) Tryz.func137 rfl rfl (Nat.le_of_ble_eq_true rfl) ?_
  refine c_ord (.e 0 (.e 1 (.e 2 (.e 3 (.m 4 (.m 5 .z)))))) (fun w => ∃ Ar, Hd w0 F0 w (Ar) []) mo (by kernel_rfl) (fun w H => ⟨_, H⟩) H (fun w H => ?_)
  refine d_val rfl rfl rfl (fun w ⟨Ar, H⟩ => r_mv rfl rfl) ?_
  refine d_val rfl rfl rfl (fun w ⟨Ar, H⟩ => r_nilP rfl rfl) ?_
  refine d_val rfl rfl rfl (fun w ⟨Ar, H⟩ => r_fa rfl fo177_1 rfl) ?_
  refine d_val rfl rfl rfl (fun w ⟨Ar, H⟩ => r_mv rfl rfl) ?_
  refine d_main rfl ?_
  refine sc (b32_ok true) H l0 rfl rfl (e_fn kn152 rfl rfl) ?_
  rintro _ _ w ⟨rfl, rfl⟩ H
  refine d_back ⟨_, H⟩ ?_
  refine d_main rfl ?_
  refine s_astore ex151 rfl rfl rfl rfl H rfl (fun w H => ?_)
  replace H : Hd _ _ _ [blk c [.int .u32 d, .int .i32 m, sm, .int .u32 1, fv, .string tx] 185] [] := H
  refine d_back ⟨_, H⟩ ?_
  refine d_nil ?_
  refine q_end rfl ?_
  replace H : Hd _ _ _ [blk c [.int .u32 d, .int .i32 m, sm, .int .u32 1, fv, .string tx] 185] [] := H
  exact fin ⟨rfl, rfl⟩ H

set_option maxHeartbeats 1000000 in
theorem storeDone_ok (c : Nat) (d m : Int) (sm : Value) (md : Int) (fv : Value) (tx : ByteArray) :
    CnD Tryz.prog 137 [.pointer (some ⟨c, 0, none⟩), .bool true] [blk c [.int .u32 d, .int .i32 m, sm, .int .u32 md, fv, .string tx] 185] [] (fun v Bs => v = .tuple #[] ∧ Bs = [blk c [.int .u32 1, .int .i32 m, sm, .int .u32 md, fv, .string tx] 185]) := by
  intro w0 F0 ufm H
  refine enterD (args := [.pointer (some ⟨c, 0, none⟩), .bool true]) Tryz.func137 rfl rfl (Nat.le_of_ble_eq_true rfl) ?_
  refine c_ord (.e 0 (.e 1 (.e 2 (.e 3 (.m 4 (.m 5 .z)))))) (fun w => ∃ Ar, Hd w0 F0 w (Ar) []) mo (by kernel_rfl) (fun w H => ⟨_, H⟩) H (fun w H => ?_)
  refine d_val rfl rfl rfl (fun w ⟨Ar, H⟩ => r_mv rfl rfl) ?_
  refine d_val rfl rfl rfl (fun w ⟨Ar, H⟩ => r_nilP rfl rfl) ?_
  refine d_val rfl rfl rfl (fun w ⟨Ar, H⟩ => r_fa rfl fo177_1 rfl) ?_
  refine d_val rfl rfl rfl (fun w ⟨Ar, H⟩ => r_mv rfl rfl) ?_
  refine d_main rfl ?_
  refine sc (b32_ok true) H l0 rfl rfl (e_fn kn152 rfl rfl) ?_
  rintro _ _ w ⟨rfl, rfl⟩ H
  refine d_back ⟨_, H⟩ ?_
  refine d_main rfl ?_
  refine s_astore ex151 rfl rfl rfl rfl H rfl (fun w H => ?_)
  replace H : Hd _ _ _ [blk c [.int .u32 1, .int .i32 m, sm, .int .u32 md, fv, .string tx] 185] [] := H
  refine d_back ⟨_, H⟩ ?_
  refine d_nil ?_
  refine q_end rfl ?_
  replace H : Hd _ _ _ [blk c [.int .u32 1, .int .i32 m, sm, .int .u32 md, fv, .string tx] 185] [] := H
  exact fin ⟨rfl, rfl⟩ H

set_option maxHeartbeats 1000000 in
theorem loadDone0_ok (c : Nat) (m : Int) (sm : Value) (md : Int) (fv : Value) (tx : ByteArray) :
    Cn Tryz.prog 153 [.pointer (some ⟨c, 0, none⟩)] [] [blk c [.int .u32 0, .int .i32 m, sm, .int .u32 md, fv, .string tx] 185] (fun v Bs => v = .bool false ∧ Bs = []) := by
  intro w0 F0 H
  refine enter (args := [.pointer (some ⟨c, 0, none⟩)]) Tryz.func153 rfl rfl (Nat.le_of_ble_eq_true rfl) ?_
  refine c_seq ?_
  refine c_reg ?_
  refine s_val rfl rfl (r_as rfl rfl) ?_
  refine s_nil ?_
  refine q_then ?_
  refine c_env [(0, .pointer (some ⟨c, 0, none⟩)), (2, .bool false)] ⟨rfl, rfl, trivial⟩ ?_
  refine c_seq ?_
  refine c_reg ?_
  refine s_val rfl rfl (r_mv rfl rfl) ?_
  refine s_val rfl rfl (r_nilP rfl rfl) ?_
  refine s_val rfl rfl (r_fa rfl fo177_1 rfl) ?_
  refine s_val rfl rfl (r_aload ex165 rfl rfl (H.cellRI 0 rfl rfl)) ?_
  refine s_val rfl rfl (r_ne rfl rfl rfl) ?_
  refine s_val rfl rfl (r_as rfl rfl) ?_
  refine s_nil ?_
  refine q_then ?_
  refine c_env [(2, .bool false)] ⟨rfl, trivial⟩ ?_
  refine c_ret ?_
  refine q_ret1 rfl rfl ?_
  replace H : Hd _ _ _ [] [blk c [.int .u32 0, .int .i32 m, sm, .int .u32 md, fv, .string tx] 185] := H
  exact fin ⟨rfl, rfl⟩ H

set_option maxHeartbeats 1000000 in
theorem loadDone1_ok (c : Nat) (m : Int) (sm : Value) (md : Int) (fv : Value) (tx : ByteArray) :
    Cn Tryz.prog 153 [.pointer (some ⟨c, 0, none⟩)] [] [blk c [.int .u32 1, .int .i32 m, sm, .int .u32 md, fv, .string tx] 185] (fun v Bs => v = .bool true ∧ Bs = []) := by
  intro w0 F0 H
  refine enter (args := [.pointer (some ⟨c, 0, none⟩)]) Tryz.func153 rfl rfl (Nat.le_of_ble_eq_true rfl) ?_
  refine c_seq ?_
  refine c_reg ?_
  refine s_val rfl rfl (r_as rfl rfl) ?_
  refine s_nil ?_
  refine q_then ?_
  refine c_env [(0, .pointer (some ⟨c, 0, none⟩)), (2, .bool false)] ⟨rfl, rfl, trivial⟩ ?_
  refine c_seq ?_
  refine c_reg ?_
  refine s_val rfl rfl (r_mv rfl rfl) ?_
  refine s_val rfl rfl (r_nilP rfl rfl) ?_
  refine s_val rfl rfl (r_fa rfl fo177_1 rfl) ?_
  refine s_val rfl rfl (r_aload ex165 rfl rfl (H.cellRI 0 rfl rfl)) ?_
  refine s_val rfl rfl (r_ne rfl rfl rfl) ?_
  refine s_val rfl rfl (r_as rfl rfl) ?_
  refine s_nil ?_
  refine q_then ?_
  refine c_env [(2, .bool true)] ⟨rfl, trivial⟩ ?_
  refine c_ret ?_
  refine q_ret1 rfl rfl ?_
  replace H : Hd _ _ _ [] [blk c [.int .u32 1, .int .i32 m, sm, .int .u32 md, fv, .string tx] 185] := H
  exact fin ⟨rfl, rfl⟩ H

set_option maxHeartbeats 1000000 in
theorem ilock_ok (c : Nat) (d : Int) (sm : Value) (md : Int) (fv : Value) (tx : ByteArray) :
    Cn Tryz.prog 177 [.pointer (some ⟨c, 1, none⟩)] [blk c [.int .u32 d, .int .i32 0, sm, .int .u32 md, fv, .string tx] 185] [] (fun v Bs => v = .tuple #[] ∧ Bs = [blk c [.int .u32 d, .int .i32 1, sm, .int .u32 md, fv, .string tx] 185]) := by
  intro w0 F0 H
  refine enter (args := [.pointer (some ⟨c, 1, none⟩)]) Tryz.func177 rfl rfl (Nat.le_of_ble_eq_true rfl) ?_
  refine c_seq ?_
  refine c_reg ?_
  refine s_val rfl rfl (r_mark0 ex182 rfl rfl) ?_
  refine s_nil ?_
  refine q_then ?_
  refine c_env [(0, .pointer (some ⟨c, 1, none⟩))] ⟨rfl, trivial⟩ ?_
  refine c_seq ?_
  refine c_seq ?_
  refine c_reg ?_
  refine s_val rfl rfl (r_mv rfl rfl) ?_
  refine s_val rfl rfl (r_nilP rfl rfl) ?_
  refine s_val rfl rfl (r_fa rfl fo179_0 rfl) ?_
  refine s_acas ex183 rfl rfl rfl rfl H rfl (fun w H => ?_)
  replace H : Hd _ _ _ [blk c [.int .u32 d, .int .i32 1, sm, .int .u32 md, fv, .string tx] 185] [] := H
  refine s_nil ?_
  refine q_then ?_
  refine c_env [(0, .pointer (some ⟨c, 1, none⟩)), (6, .bool true)] ⟨rfl, rfl, trivial⟩ ?_
  refine c_yes rfl ?_
  refine c_seq ?_
  refine c_yes rfl ?_
  refine c_seq ?_
  refine c_reg ?_
  refine s_val rfl rfl (r_mark0 ex184 rfl rfl) ?_
  refine s_nil ?_
  refine q_then ?_
  refine c_env [(0, .pointer (some ⟨c, 1, none⟩))] ⟨rfl, trivial⟩ ?_
  refine c_reg ?_
  refine s_val rfl rfl (r_mv rfl rfl) ?_
  refine s_val rfl rfl (r_unsafe rfl un222 up226 nz179 rfl (H.cellI 0 rfl rfl)) ?_
  refine s_val rfl rfl (r_marked ex185 rfl rfl) ?_
  refine s_nil ?_
  refine q_then ?_
  refine c_env [(0, .pointer (some ⟨c, 1, none⟩))] ⟨rfl, trivial⟩ ?_
  refine c_ret ?_
  refine q_thenR ?_
  refine q_ret0 rfl ?_
  replace H : Hd _ _ _ [blk c [.int .u32 d, .int .i32 1, sm, .int .u32 md, fv, .string tx] 185] [] := H
  exact fin ⟨rfl, rfl⟩ H

set_option maxHeartbeats 1000000 in
theorem lock_ok (c : Nat) (d : Int) (sm : Value) (md : Int) (fv : Value) (tx : ByteArray) :
    Cn Tryz.prog 166 [.pointer (some ⟨c, 1, none⟩)] [blk c [.int .u32 d, .int .i32 0, sm, .int .u32 md, fv, .string tx] 185] [] (fun v Bs => v = .tuple #[] ∧ Bs = [blk c [.int .u32 d, .int .i32 1, sm, .int .u32 md, fv, .string tx] 185]) := by
  intro w0 F0 H
  refine enter (args := [.pointer (some ⟨c, 1, none⟩)]) Tryz.func166 rfl rfl (Nat.le_of_ble_eq_true rfl) ?_
  refine c_reg ?_
  refine s_val rfl rfl (r_mv rfl rfl) ?_
  refine s_val rfl rfl (r_nilP rfl rfl) ?_
  refine s_val rfl rfl (r_fa rfl fo181_1 rfl) ?_
  refine sc (ilock_ok c d sm md fv tx) H l0 rfl rfl (e_fn kn177 rfl rfl) ?_
  rintro _ _ w ⟨rfl, rfl⟩ H
  refine s_nil ?_
  refine q_end rfl ?_
  replace H : Hd _ _ _ [blk c [.int .u32 d, .int .i32 1, sm, .int .u32 md, fv, .string tx] 185] [] := H
  exact fin ⟨rfl, rfl⟩ H

set_option maxHeartbeats 1000000 in
theorem iunlock_ok (c : Nat) (d : Int) (sm : Value) (md : Int) (fv : Value) (tx : ByteArray) :
    Cn Tryz.prog 178 [.pointer (some ⟨c, 1, none⟩)] [blk c [.int .u32 d, .int .i32 1, sm, .int .u32 md, fv, .string tx] 185] [] (fun v Bs => v = .tuple #[] ∧ Bs = [blk c [.int .u32 d, .int .i32 0, sm, .int .u32 md, fv, .string tx] 185]) := by
  intro w0 F0 H
  refine enter (args := [.pointer (some ⟨c, 1, none⟩)]) Tryz.func178 rfl rfl (Nat.le_of_ble_eq_true rfl) ?_
  refine c_seq ?_
  refine c_yes rfl ?_
  refine c_seq ?_
  refine c_reg ?_
  refine s_val rfl rfl (r_mv rfl rfl) ?_
  refine s_val rfl rfl (r_nilP rfl rfl) ?_
  refine s_val rfl rfl (r_fa rfl fo179_0 rfl) ?_
  refine s_val rfl rfl (r_ld rfl ty21 rfl (H.cellI 0 rfl rfl)) ?_
  refine s_nil ?_
  refine q_then ?_
  refine c_env [(0, .pointer (some ⟨c, 1, none⟩))] ⟨rfl, trivial⟩ ?_
  refine c_seq ?_
  refine c_reg ?_
  refine s_val rfl rfl (r_mv rfl rfl) ?_
  refine s_val rfl rfl (r_unsafe rfl un222 up226 nz179 rfl (H.cellI 0 rfl rfl)) ?_
  refine s_val rfl rfl (r_marked ex187 rfl rfl) ?_
  refine s_nil ?_
  refine q_then ?_
  refine c_env [(0, .pointer (some ⟨c, 1, none⟩))] ⟨rfl, trivial⟩ ?_
  refine c_reg ?_
  refine s_val rfl rfl (r_mark0 ex182 rfl rfl) ?_
  refine s_nil ?_
  refine q_then ?_
  refine c_env [(0, .pointer (some ⟨c, 1, none⟩))] ⟨rfl, trivial⟩ ?_
  refine c_seq ?_
  refine c_reg ?_
  refine s_val rfl rfl (r_mv rfl rfl) ?_
  refine s_val rfl rfl (r_nilP rfl rfl) ?_
  refine s_val rfl rfl (r_fa rfl fo179_0 rfl) ?_
  refine s_aadd ex188 rfl rfl rfl rfl H rfl rfl (fun w H => ?_)
  replace H : Hd _ _ _ [blk c [.int .u32 d, .int .i32 0, sm, .int .u32 md, fv, .string tx] 185] [] := H
  refine s_val rfl rfl (r_as rfl rfl) ?_
  refine s_nil ?_
  refine q_then ?_
  refine c_env [(0, .pointer (some ⟨c, 1, none⟩)), (2, .int .i32 0)] ⟨rfl, rfl, trivial⟩ ?_
  refine c_seq ?_
  refine c_seq ?_
  refine c_reg ?_
  refine s_val rfl rfl (r_mv rfl rfl) ?_
  refine s_val rfl rfl (r_ne rfl rfl rfl) ?_
  refine s_nil ?_
  refine q_then ?_
  refine c_env [(0, .pointer (some ⟨c, 1, none⟩)), (2, .int .i32 0), (16, .bool false)] ⟨rfl, rfl, rfl, trivial⟩ ?_
  refine c_no rfl ?_
  refine c_skip ?_
  refine q_then ?_
  refine c_env [] trivial ?_
  refine c_reg ?_
  refine s_val rfl rfl (r_mark0 ex184 rfl rfl) ?_
  refine s_nil ?_
  refine q_end rfl ?_
  replace H : Hd _ _ _ [blk c [.int .u32 d, .int .i32 0, sm, .int .u32 md, fv, .string tx] 185] [] := H
  exact fin ⟨rfl, rfl⟩ H

set_option maxHeartbeats 1000000 in
theorem unlockD_ok (c : Nat) (d : Int) (sm : Value) (md : Int) (fv : Value) (tx : ByteArray) :
    CnD Tryz.prog 167 [.pointer (some ⟨c, 1, none⟩)] [blk c [.int .u32 d, .int .i32 1, sm, .int .u32 md, fv, .string tx] 185] [] (fun v Bs => v = .tuple #[] ∧ Bs = [blk c [.int .u32 d, .int .i32 0, sm, .int .u32 md, fv, .string tx] 185]) := by
  intro w0 F0 ufm H
  refine enterD (args := [.pointer (some ⟨c, 1, none⟩)]) Tryz.func167 rfl rfl (Nat.le_of_ble_eq_true rfl) ?_
  refine c_reg ?_
  refine s_val rfl rfl (r_mv rfl rfl) ?_
  refine s_val rfl rfl (r_nilP rfl rfl) ?_
  refine s_val rfl rfl (r_fa rfl fo181_1 rfl) ?_
  refine sc (iunlock_ok c d sm md fv tx) H l0 rfl rfl (e_fn kn178 rfl rfl) ?_
  rintro _ _ w ⟨rfl, rfl⟩ H
  refine s_nil ?_
  refine q_end rfl ?_
  replace H : Hd _ _ _ [blk c [.int .u32 d, .int .i32 0, sm, .int .u32 md, fv, .string tx] 185] [] := H
  exact fin ⟨rfl, rfl⟩ H

end Go.Proofs.YtlpgdkbokakniaaGreatDoor.X

set_option linter.unusedVariables false
set_option linter.unusedSimpArgs false
namespace Go.Proofs.YtlpgdkbokakniaaGreatDoor.X
open Go
set_option maxRecDepth 100000 in
set_option maxHeartbeats 1600000 in
theorem doSlow_ok (c pl : Nat) (sm : Value) (md : Int) (fv : Value) (tx tx2 : ByteArray) (Rs : List SP)
    (hcl : Cn Tryz.prog 139 [.pointer (some ⟨pl, 0, none⟩)] [blk c [.int .u32 0, .int .i32 1, sm, .int .u32 md, fv, .string tx] 185] Rs (fun v Bs => v = .tuple #[] ∧ Bs = [blk c [.int .u32 0, .int .i32 1, sm, .int .u32 md, fv, .string tx2] 185])) :
    Cn Tryz.prog 154 [.pointer (some ⟨c, 0, none⟩), .func (.func 139) #[] #[.pointer (some ⟨pl, 0, none⟩)]] [blk c [.int .u32 0, .int .i32 0, sm, .int .u32 md, fv, .string tx] 185] Rs (fun v Bs => v = .tuple #[] ∧ Bs = [blk c [.int .u32 1, .int .i32 0, sm, .int .u32 md, fv, .string tx2] 185]) := by
  intro w F H
  have hnot : ∀ (x : Bool) (w : World), (Op.unary .not (.bool x)).run Tryz.prog w = .ok (.bool (!x)) w := fun _ _ => rfl
  go_enter_defers Tryz.func154, Tryz.ntmps154
  go_wp2_with (first
    | (go_at_call 166; refine (call_frame (As := []) (lock_ok c 0 sm md fv tx) H l0).mono ?_; rintro e w1 ⟨v, rfl, Bs, ⟨rfl, rfl⟩, H1⟩)
    | (go_at_call 153; refine (call_frame (Cs := []) (loadDone0_ok c 1 sm md fv tx) H1 (lA 0 rfl (fun _ h => h) l0)).mono ?_; rintro e w2 ⟨v, rfl, Bs, ⟨rfl, rfl⟩, H2⟩)
    | (go_at_call 139; refine (call_frame (As := []) hcl H2 lAll).mono ?_; rintro e w3 ⟨v, rfl, Bs, ⟨rfl, rfl⟩, H3⟩))
  refine leaves_cons (f := 137) (args := #[.pointer (some ⟨c, 0, none⟩), .bool true]) (by simp) (by simp [go_sem]) ?_
  refine (call_frameD (As := []) (storeDone_ok c 0 1 sm md fv tx2) H3 l0).mono ?_
  rintro e u' w4 ⟨rfl, v, rfl, Bs, ⟨rfl, rfl⟩, H4⟩
  refine leaves_cons (f := 167) (args := #[.pointer (some ⟨c, 1, none⟩)]) (by simp [settle]) (by simp [go_sem]) ?_
  refine (call_frameD (As := []) (unlockD_ok c 1 sm md fv tx2) H4 l0).mono ?_
  rintro e u' w5 ⟨rfl, v, rfl, Bs, ⟨rfl, rfl⟩, H5⟩
  exact ⟨.tuple #[], by simp [results, Tryz.results154], .tuple #[], rfl, _, ⟨rfl, rfl⟩, H5⟩

set_option maxHeartbeats 1000000 in
theorem text1_ok (nb : Nat) (n : Int) (hn : In64 n) :
    Cn Tryz.prog 128 [.pointer (some ⟨nb, 0, none⟩)] [] [blk nb [.int .i64 n] 2, gl] (fun v Bs => v = .string (dg.dig n) ∧ Bs = []) := by
  intro w0 F0 H
  refine enter (args := [.pointer (some ⟨nb, 0, none⟩)]) Tryz.func128 rfl rfl (Nat.le_of_ble_eq_true rfl) ?_
  refine c_seq ?_
  refine c_reg ?_
  refine s_val rfl rfl (r_as rfl rfl) ?_
  refine s_nil ?_
  refine q_then ?_
  refine c_env [(0, .pointer (some ⟨nb, 0, none⟩)), (1, .string ⟨#[]⟩)] ⟨rfl, rfl, trivial⟩ ?_
  refine c_seq ?_
  refine c_reg ?_
  refine s_val rfl rfl (r_ld rfl ty2 rfl (H.cellRI 0 rfl rfl)) ?_
  refine sc (digits_ok n (by assumption)) H (lR 1 rfl l0) rfl rfl (e_fn kn129 rfl rfl) ?_
  rintro _ _ w ⟨rfl, rfl⟩ H
  refine s_val rfl rfl (r_as rfl rfl) ?_
  refine s_nil ?_
  refine q_then ?_
  refine c_env [(1, .string (dg.dig n))] ⟨rfl, trivial⟩ ?_
  refine c_ret ?_
  refine q_ret1 rfl rfl ?_
  replace H : Hd _ _ _ [] [blk nb [.int .i64 n] 2, gl] := H
  exact fin ⟨rfl, rfl⟩ H

set_option maxHeartbeats 1000000 in
theorem getf_ok (c pl nb : Nat) (n : Int) (hn : In64 n) (sm : Value) (md : Int) (tx : ByteArray) :
    Cn Tryz.prog 139 [.pointer (some ⟨pl, 0, none⟩)] [blk c [.int .u32 0, .int .i32 1, sm, .int .u32 md, .func (.func 128) #[] #[.pointer (some ⟨nb, 0, none⟩)], .string tx] 185] [blk pl [.pointer (some ⟨c, 0, none⟩)] 164, blk nb [.int .i64 n] 2, gl] (fun v Bs => v = .tuple #[] ∧ Bs = [blk c [.int .u32 0, .int .i32 1, sm, .int .u32 md, .func (.func 128) #[] #[.pointer (some ⟨nb, 0, none⟩)], .string (dg.dig n)] 185]) := by
  intro w0 F0 H
  refine enter (args := [.pointer (some ⟨pl, 0, none⟩)]) Tryz.func139 rfl rfl (Nat.le_of_ble_eq_true rfl) ?_
  refine c_seq ?_
  refine c_reg ?_
  refine s_val rfl rfl (r_ld rfl ty164 rfl (H.cellRI 0 rfl rfl)) ?_
  refine s_val rfl rfl (r_nilP rfl rfl) ?_
  refine s_val rfl rfl (r_fa rfl fo185_2 rfl) ?_
  refine s_val rfl rfl (r_ld rfl ty166 rfl (H.cellI 0 rfl rfl)) ?_
  refine s_val rfl rfl (r_fne rfl un166 rfl rfl) ?_
  refine s_nil ?_
  refine q_then ?_
  refine c_env [(0, .pointer (some ⟨pl, 0, none⟩)), (5, .bool true)] ⟨rfl, rfl, trivial⟩ ?_
  refine c_yes rfl ?_
  refine c_ord (.e 0 (.e 1 (.e 2 (.e 3 (.m 4 (.m 5 (.e 6 (.e 7 (.m 8 .z))))))))) (fun w => ∃ Ar, Hd w0 F0 w (Ar) [blk pl [.pointer (some ⟨c, 0, none⟩)] 164, blk nb [.int .i64 n] 2, gl]) mo (by kernel_rfl) (fun w H => ⟨_, H⟩) H (fun w H => ?_)
  refine d_val rfl rfl rfl (fun w ⟨Ar, H⟩ => r_ld rfl ty164 rfl (H.cellRI 0 rfl rfl)) ?_
  refine d_val rfl rfl rfl (fun w ⟨Ar, H⟩ => r_ld rfl ty164 rfl (H.cellRI 0 rfl rfl)) ?_
  refine d_val rfl rfl rfl (fun w ⟨Ar, H⟩ => r_nilP rfl rfl) ?_
  refine d_val rfl rfl rfl (fun w ⟨Ar, H⟩ => r_fa rfl fo185_2 rfl) ?_
  refine d_main rfl ?_
  refine s_val rfl rfl (r_ld rfl ty166 rfl (H.cellI 0 rfl rfl)) ?_
  refine d_back ⟨_, H⟩ ?_
  refine d_main rfl ?_
  refine sc (text1_ok nb n hn) H (lR 1 rfl (lR 2 rfl l0)) rfl rfl (e_val (vs := []) (fs := #[]) (cs := #[.pointer (some ⟨nb, 0, none⟩)]) kn128 rfl rfl rfl) ?_
  rintro _ _ w ⟨rfl, rfl⟩ H
  refine d_back ⟨_, H⟩ ?_
  refine d_val rfl rfl rfl (fun w ⟨Ar, H⟩ => r_nilP rfl rfl) ?_
  refine d_val rfl rfl rfl (fun w ⟨Ar, H⟩ => r_fa rfl fo185_3 rfl) ?_
  refine d_main rfl ?_
  refine s_st rfl rfl rfl ty9 rfl rfl H rfl (Nat.le_of_ble_eq_true rfl) (fun u hu => by simp [Value.cells] at hu; subst hu; rfl) (fun w H => ?_)
  replace H : Hd _ _ _ [blk c [.int .u32 0, .int .i32 1, sm, .int .u32 md, .func (.func 128) #[] #[.pointer (some ⟨nb, 0, none⟩)], .string (dg.dig n)] 185] [blk pl [.pointer (some ⟨c, 0, none⟩)] 164, blk nb [.int .i64 n] 2, gl] := H
  refine d_back ⟨_, H⟩ ?_
  refine d_nil ?_
  refine q_end rfl ?_
  replace H : Hd _ _ _ [blk c [.int .u32 0, .int .i32 1, sm, .int .u32 md, .func (.func 128) #[] #[.pointer (some ⟨nb, 0, none⟩)], .string (dg.dig n)] 185] [blk pl [.pointer (some ⟨c, 0, none⟩)] 164, blk nb [.int .i64 n] 2, gl] := H
  exact fin ⟨rfl, rfl⟩ H

set_option maxHeartbeats 1000000 in
theorem doNew_ok (c pl nb : Nat) (n : Int) (hn : In64 n) (sm : Value) (md : Int) (tx : ByteArray) :
    Cn Tryz.prog 138 [.pointer (some ⟨c, 0, none⟩), .func (.func 139) #[] #[.pointer (some ⟨pl, 0, none⟩)]] [blk c [.int .u32 0, .int .i32 0, sm, .int .u32 md, .func (.func 128) #[] #[.pointer (some ⟨nb, 0, none⟩)], .string tx] 185] [blk pl [.pointer (some ⟨c, 0, none⟩)] 164, blk nb [.int .i64 n] 2, gl] (fun v Bs => v = .tuple #[] ∧ Bs = [blk c [.int .u32 1, .int .i32 0, sm, .int .u32 md, .func (.func 128) #[] #[.pointer (some ⟨nb, 0, none⟩)], .string (dg.dig n)] 185]) := by
  intro w0 F0 H
  refine enter (args := [.pointer (some ⟨c, 0, none⟩), .func (.func 139) #[] #[.pointer (some ⟨pl, 0, none⟩)]]) Tryz.func138 rfl rfl (Nat.le_of_ble_eq_true rfl) ?_
  refine c_seq ?_
  refine c_reg ?_
  refine s_val rfl rfl (r_mv rfl rfl) ?_
  refine s_val rfl rfl (r_nilP rfl rfl) ?_
  refine s_val rfl rfl (r_fa rfl fo183_1 rfl) ?_
  refine sc (loadDone0_ok c 0 sm md (.func (.func 128) #[] #[.pointer (some ⟨nb, 0, none⟩)]) tx) H (lA 0 rfl (fun _ h => h) l0) rfl rfl (e_fn kn153 rfl rfl) ?_
  rintro _ _ w ⟨rfl, rfl⟩ H
  refine s_val rfl rfl (r_not rfl rfl rfl) ?_
  refine s_nil ?_
  refine q_then ?_
  refine c_env [(0, .pointer (some ⟨c, 0, none⟩)), (1, .func (.func 139) #[] #[.pointer (some ⟨pl, 0, none⟩)]), (8, .bool true)] ⟨rfl, rfl, rfl, trivial⟩ ?_
  refine c_yes rfl ?_
  refine c_reg ?_
  refine s_val rfl rfl (r_mv rfl rfl) ?_
  refine s_val rfl rfl (r_mv rfl rfl) ?_
  refine sc (doSlow_ok c pl sm md (.func (.func 128) #[] #[.pointer (some ⟨nb, 0, none⟩)]) tx (dg.dig n) [blk pl [.pointer (some ⟨c, 0, none⟩)] 164, blk nb [.int .i64 n] 2, gl] (getf_ok c pl nb n hn sm md tx)) H (lR 0 rfl (lR 1 rfl (lR 2 rfl l0))) rfl rfl (e_fn kn154 rfl rfl) ?_
  rintro _ _ w ⟨rfl, rfl⟩ H
  refine s_nil ?_
  refine q_end rfl ?_
  replace H : Hd _ _ _ [blk c [.int .u32 1, .int .i32 0, sm, .int .u32 md, .func (.func 128) #[] #[.pointer (some ⟨nb, 0, none⟩)], .string (dg.dig n)] 185] [blk pl [.pointer (some ⟨c, 0, none⟩)] 164, blk nb [.int .i64 n] 2, gl] := H
  exact fin ⟨rfl, rfl⟩ H

set_option maxHeartbeats 1000000 in
theorem doOld_ok (c pl : Nat) (m : Int) (sm : Value) (md : Int) (fv : Value) (tx : ByteArray) :
    Cn Tryz.prog 138 [.pointer (some ⟨c, 0, none⟩), .func (.func 139) #[] #[.pointer (some ⟨pl, 0, none⟩)]] [] [blk c [.int .u32 1, .int .i32 m, sm, .int .u32 md, fv, .string tx] 185] (fun v Bs => v = .tuple #[] ∧ Bs = []) := by
  intro w0 F0 H
  refine enter (args := [.pointer (some ⟨c, 0, none⟩), .func (.func 139) #[] #[.pointer (some ⟨pl, 0, none⟩)]]) Tryz.func138 rfl rfl (Nat.le_of_ble_eq_true rfl) ?_
  refine c_seq ?_
  refine c_reg ?_
  refine s_val rfl rfl (r_mv rfl rfl) ?_
  refine s_val rfl rfl (r_nilP rfl rfl) ?_
  refine s_val rfl rfl (r_fa rfl fo183_1 rfl) ?_
  refine sc (loadDone1_ok c m sm md fv tx) H (lR 0 rfl l0) rfl rfl (e_fn kn153 rfl rfl) ?_
  rintro _ _ w ⟨rfl, rfl⟩ H
  refine s_val rfl rfl (r_not rfl rfl rfl) ?_
  refine s_nil ?_
  refine q_then ?_
  refine c_env [(0, .pointer (some ⟨c, 0, none⟩)), (1, .func (.func 139) #[] #[.pointer (some ⟨pl, 0, none⟩)]), (8, .bool false)] ⟨rfl, rfl, rfl, trivial⟩ ?_
  refine c_no rfl ?_
  refine c_skip ?_
  refine q_end rfl ?_
  replace H : Hd _ _ _ [] [blk c [.int .u32 1, .int .i32 m, sm, .int .u32 md, fv, .string tx] 185] := H
  exact fin ⟨rfl, rfl⟩ H

set_option maxHeartbeats 1000000 in
theorem getNew_ok (c nb : Nat) (n : Int) (hn : In64 n) :
    Cn Tryz.prog 130 [.pointer (some ⟨c, 0, none⟩)] [blk c [.int .u32 0, .int .i32 0, .int .u32 0, .int .u32 0, .func (.func 128) #[] #[.pointer (some ⟨nb, 0, none⟩)], .string ⟨#[]⟩] 185] [blk nb [.int .i64 n] 2, gl] (fun v Bs => v = .string (dg.dig n) ∧ Bs = [blk c [.int .u32 1, .int .i32 0, .int .u32 0, .int .u32 1, .func (.func 128) #[] #[.pointer (some ⟨nb, 0, none⟩)], .string (dg.dig n)] 185]) := by
  intro w0 F0 H
  refine enter (args := [.pointer (some ⟨c, 0, none⟩)]) Tryz.func130 rfl rfl (Nat.le_of_ble_eq_true rfl) ?_
  refine c_seq ?_
  refine c_reg ?_
  refine s_box rfl rfl rfl rfl H (fun b1 w H => ?_)
  refine s_val rfl rfl (r_as rfl rfl) ?_
  refine s_nil ?_
  refine q_then ?_
  replace H : Hd _ _ _ [blk b1 [.pointer (some ⟨c, 0, none⟩)] 164, blk c [.int .u32 0, .int .i32 0, .int .u32 0, .int .u32 0, .func (.func 128) #[] #[.pointer (some ⟨nb, 0, none⟩)], .string ⟨#[]⟩] 185] [blk nb [.int .i64 n] 2, gl] := H
  refine c_env [(1, .pointer (some ⟨b1, 0, none⟩)), (2, .string ⟨#[]⟩)] ⟨rfl, rfl, trivial⟩ ?_
  refine c_seq ?_
  refine c_seq ?_
  refine c_reg ?_
  refine s_val rfl rfl (r_ld rfl ty164 rfl (H.cellI 0 rfl rfl)) ?_
  refine s_val rfl rfl (r_peq rfl un164 rfl rfl) ?_
  refine s_nil ?_
  refine q_then ?_
  refine c_env [(1, .pointer (some ⟨b1, 0, none⟩)), (2, .string ⟨#[]⟩), (4, .bool false)] ⟨rfl, rfl, rfl, trivial⟩ ?_
  refine c_no rfl ?_
  refine c_skip ?_
  refine q_then ?_
  refine c_env [(1, .pointer (some ⟨b1, 0, none⟩)), (2, .string ⟨#[]⟩)] ⟨rfl, rfl, trivial⟩ ?_
  refine c_seq ?_
  refine c_reg ?_
  refine s_val rfl rfl (r_ld rfl ty164 rfl (H.cellI 0 rfl rfl)) ?_
  refine s_val rfl rfl (r_nilP rfl rfl) ?_
  refine s_val rfl rfl (r_fa rfl fo185_1 rfl) ?_
  replace H := H.pick 1 rfl
  replace H : Hd _ _ _ [blk c [.int .u32 0, .int .i32 0, .int .u32 0, .int .u32 0, .func (.func 128) #[] #[.pointer (some ⟨nb, 0, none⟩)], .string ⟨#[]⟩] 185, blk b1 [.pointer (some ⟨c, 0, none⟩)] 164] [blk nb [.int .i64 n] 2, gl] := H
  refine sc (storeMade_ok c 0 0 (.int .u32 0) 0 (.func (.func 128) #[] #[.pointer (some ⟨nb, 0, none⟩)]) (⟨#[]⟩ : ByteArray)) H l0 rfl rfl (e_fn kn137 rfl rfl) ?_
  rintro _ _ w ⟨rfl, rfl⟩ H
  refine s_nil ?_
  refine q_then ?_
  replace H : Hd _ _ _ [blk c [.int .u32 0, .int .i32 0, .int .u32 0, .int .u32 1, .func (.func 128) #[] #[.pointer (some ⟨nb, 0, none⟩)], .string ⟨#[]⟩] 185, blk b1 [.pointer (some ⟨c, 0, none⟩)] 164] [blk nb [.int .i64 n] 2, gl] := H
  refine c_env [(1, .pointer (some ⟨b1, 0, none⟩)), (2, .string ⟨#[]⟩)] ⟨rfl, rfl, trivial⟩ ?_
  refine c_seq ?_
  refine c_reg ?_
  refine s_val rfl rfl (r_ld rfl ty164 rfl (H.cellI 1 rfl rfl)) ?_
  refine s_val rfl rfl (r_nilP rfl rfl) ?_
  refine s_val rfl rfl (r_fa rfl fo185_0 rfl) ?_
  refine s_val rfl rfl (r_fn (fs := #[]) (cs := #[.pointer (some ⟨b1, 0, none⟩)]) rfl rfl rfl) ?_
  refine sc (doNew_ok c b1 nb n hn (.int .u32 0) 1 ⟨#[]⟩) H (lA 0 rfl (fun _ h => h) (lR 0 rfl (lR 1 rfl l0))) rfl rfl (e_fn kn138 rfl rfl) ?_
  rintro _ _ w ⟨rfl, rfl⟩ H
  refine s_nil ?_
  refine q_then ?_
  replace H : Hd _ _ _ [blk c [.int .u32 1, .int .i32 0, .int .u32 0, .int .u32 1, .func (.func 128) #[] #[.pointer (some ⟨nb, 0, none⟩)], .string (dg.dig n)] 185, blk b1 [.pointer (some ⟨c, 0, none⟩)] 164] [blk nb [.int .i64 n] 2, gl] := H
  refine c_env [(1, .pointer (some ⟨b1, 0, none⟩)), (2, .string ⟨#[]⟩)] ⟨rfl, rfl, trivial⟩ ?_
  refine c_seq ?_
  refine c_reg ?_
  refine s_val rfl rfl (r_ld rfl ty164 rfl (H.cellI 1 rfl rfl)) ?_
  refine s_val rfl rfl (r_nilP rfl rfl) ?_
  refine s_val rfl rfl (r_fa rfl fo185_3 rfl) ?_
  refine s_val rfl rfl (r_ld rfl ty9 rfl (H.cellI 0 rfl rfl)) ?_
  refine s_val rfl rfl (r_as rfl rfl) ?_
  refine s_nil ?_
  refine q_then ?_
  refine c_env [(2, .string (dg.dig n))] ⟨rfl, trivial⟩ ?_
  refine c_ret ?_
  refine q_ret1 rfl rfl ?_
  replace H := H.keep 1
  replace H : Hd _ _ _ [blk c [.int .u32 1, .int .i32 0, .int .u32 0, .int .u32 1, .func (.func 128) #[] #[.pointer (some ⟨nb, 0, none⟩)], .string (dg.dig n)] 185] [blk nb [.int .i64 n] 2, gl] := H
  exact fin ⟨rfl, rfl⟩ H

set_option maxHeartbeats 1000000 in
theorem getOld_ok (c : Nat) (fv : Value) (tx : ByteArray) :
    Cn Tryz.prog 130 [.pointer (some ⟨c, 0, none⟩)] [blk c [.int .u32 1, .int .i32 0, .int .u32 0, .int .u32 1, fv, .string tx] 185] [] (fun v Bs => v = .string tx ∧ Bs = [blk c [.int .u32 1, .int .i32 0, .int .u32 0, .int .u32 1, fv, .string tx] 185]) := by
  intro w0 F0 H
  refine enter (args := [.pointer (some ⟨c, 0, none⟩)]) Tryz.func130 rfl rfl (Nat.le_of_ble_eq_true rfl) ?_
  refine c_seq ?_
  refine c_reg ?_
  refine s_box rfl rfl rfl rfl H (fun b1 w H => ?_)
  refine s_val rfl rfl (r_as rfl rfl) ?_
  refine s_nil ?_
  refine q_then ?_
  replace H : Hd _ _ _ [blk b1 [.pointer (some ⟨c, 0, none⟩)] 164, blk c [.int .u32 1, .int .i32 0, .int .u32 0, .int .u32 1, fv, .string tx] 185] [] := H
  refine c_env [(1, .pointer (some ⟨b1, 0, none⟩)), (2, .string ⟨#[]⟩)] ⟨rfl, rfl, trivial⟩ ?_
  refine c_seq ?_
  refine c_seq ?_
  refine c_reg ?_
  refine s_val rfl rfl (r_ld rfl ty164 rfl (H.cellI 0 rfl rfl)) ?_
  refine s_val rfl rfl (r_peq rfl un164 rfl rfl) ?_
  refine s_nil ?_
  refine q_then ?_
  refine c_env [(1, .pointer (some ⟨b1, 0, none⟩)), (2, .string ⟨#[]⟩), (4, .bool false)] ⟨rfl, rfl, rfl, trivial⟩ ?_
  refine c_no rfl ?_
  refine c_skip ?_
  refine q_then ?_
  refine c_env [(1, .pointer (some ⟨b1, 0, none⟩)), (2, .string ⟨#[]⟩)] ⟨rfl, rfl, trivial⟩ ?_
  refine c_seq ?_
  refine c_reg ?_
  refine s_val rfl rfl (r_ld rfl ty164 rfl (H.cellI 0 rfl rfl)) ?_
  refine s_val rfl rfl (r_nilP rfl rfl) ?_
  refine s_val rfl rfl (r_fa rfl fo185_1 rfl) ?_
  replace H := H.pick 1 rfl
  replace H : Hd _ _ _ [blk c [.int .u32 1, .int .i32 0, .int .u32 0, .int .u32 1, fv, .string tx] 185, blk b1 [.pointer (some ⟨c, 0, none⟩)] 164] [] := H
  refine sc (storeMade_ok c 1 0 (.int .u32 0) 1 fv tx) H l0 rfl rfl (e_fn kn137 rfl rfl) ?_
  rintro _ _ w ⟨rfl, rfl⟩ H
  refine s_nil ?_
  refine q_then ?_
  replace H : Hd _ _ _ [blk c [.int .u32 1, .int .i32 0, .int .u32 0, .int .u32 1, fv, .string tx] 185, blk b1 [.pointer (some ⟨c, 0, none⟩)] 164] [] := H
  refine c_env [(1, .pointer (some ⟨b1, 0, none⟩)), (2, .string ⟨#[]⟩)] ⟨rfl, rfl, trivial⟩ ?_
  refine c_seq ?_
  refine c_reg ?_
  refine s_val rfl rfl (r_ld rfl ty164 rfl (H.cellI 1 rfl rfl)) ?_
  refine s_val rfl rfl (r_nilP rfl rfl) ?_
  refine s_val rfl rfl (r_fa rfl fo185_0 rfl) ?_
  refine s_val rfl rfl (r_fn (fs := #[]) (cs := #[.pointer (some ⟨b1, 0, none⟩)]) rfl rfl rfl) ?_
  refine sc (doOld_ok c b1 0 (.int .u32 0) 1 fv tx) H (lA 0 rfl (fun _ h => h) l0) rfl rfl (e_fn kn138 rfl rfl) ?_
  rintro _ _ w ⟨rfl, rfl⟩ H
  refine s_nil ?_
  refine q_then ?_
  replace H : Hd _ _ _ [blk c [.int .u32 1, .int .i32 0, .int .u32 0, .int .u32 1, fv, .string tx] 185, blk b1 [.pointer (some ⟨c, 0, none⟩)] 164] [] := H
  refine c_env [(1, .pointer (some ⟨b1, 0, none⟩)), (2, .string ⟨#[]⟩)] ⟨rfl, rfl, trivial⟩ ?_
  refine c_seq ?_
  refine c_reg ?_
  refine s_val rfl rfl (r_ld rfl ty164 rfl (H.cellI 1 rfl rfl)) ?_
  refine s_val rfl rfl (r_nilP rfl rfl) ?_
  refine s_val rfl rfl (r_fa rfl fo185_3 rfl) ?_
  refine s_val rfl rfl (r_ld rfl ty9 rfl (H.cellI 0 rfl rfl)) ?_
  refine s_val rfl rfl (r_as rfl rfl) ?_
  refine s_nil ?_
  refine q_then ?_
  refine c_env [(2, .string tx)] ⟨rfl, trivial⟩ ?_
  refine c_ret ?_
  refine q_ret1 rfl rfl ?_
  replace H := H.keep 1
  replace H : Hd _ _ _ [blk c [.int .u32 1, .int .i32 0, .int .u32 0, .int .u32 1, fv, .string tx] 185] [] := H
  exact fin ⟨rfl, rfl⟩ H

set_option maxHeartbeats 1000000 in
theorem lazyNew_ok (nb : Nat) :
    Cn Tryz.prog 127 [.func (.func 128) #[] #[.pointer (some ⟨nb, 0, none⟩)]] [] [] (fun v Bs => ∃ b, v = .pointer (some ⟨b, 0, none⟩) ∧ Bs = [blk b [.int .u32 0, .int .i32 0, .int .u32 0, .int .u32 0, .func (.func 128) #[] #[.pointer (some ⟨nb, 0, none⟩)], .string ⟨#[]⟩] 185]) := by
  intro w0 F0 H
  refine enter (args := [.func (.func 128) #[] #[.pointer (some ⟨nb, 0, none⟩)]]) Tryz.func127 rfl rfl (Nat.le_of_ble_eq_true rfl) ?_
  refine c_seq ?_
  refine c_reg ?_
  refine s_val rfl rfl (r_as rfl rfl) ?_
  refine s_nil ?_
  refine q_then ?_
  refine c_env [(0, .func (.func 128) #[] #[.pointer (some ⟨nb, 0, none⟩)]), (2, .pointer none)] ⟨rfl, rfl, trivial⟩ ?_
  refine c_seq ?_
  refine c_reg ?_
  refine s_val rfl rfl (r_mv rfl rfl) ?_
  refine s_val rfl rfl (r_bd (parts := [(2, .tmp 3)]) (vs := [.func (.func 128) #[] #[.pointer (some ⟨nb, 0, none⟩)]]) (cs := [.int .u32 0, .int .i32 0, .int .u32 0, .int .u32 0, .func (.func 128) #[] #[.pointer (some ⟨nb, 0, none⟩)], .string ⟨#[]⟩]) rfl bd185 rfl rfl) ?_
  refine s_box rfl rfl rfl rfl H (fun b1 w H => ?_)
  refine s_val rfl rfl (r_as rfl rfl) ?_
  refine s_nil ?_
  refine q_then ?_
  replace H : Hd _ _ _ [blk b1 [.int .u32 0, .int .i32 0, .int .u32 0, .int .u32 0, .func (.func 128) #[] #[.pointer (some ⟨nb, 0, none⟩)], .string ⟨#[]⟩] 185] [] := H
  refine c_env [(2, .pointer (some ⟨b1, 0, none⟩))] ⟨rfl, trivial⟩ ?_
  refine c_ret ?_
  refine q_ret1 rfl rfl ?_
  replace H : Hd _ _ _ [blk b1 [.int .u32 0, .int .i32 0, .int .u32 0, .int .u32 0, .func (.func 128) #[] #[.pointer (some ⟨nb, 0, none⟩)], .string ⟨#[]⟩] 185] [] := H
  exact fin ⟨_, rfl, rfl⟩ H

set_option maxHeartbeats 1000000 in
theorem text_ok (r : Nat) (pv : Value) (key : ByteArray) (vv : Value) (fuel pos steps : Int) (halted : Bool) (sv : Value) (g : Nat → Val) (tv : Value) (mb : Nat) (n : Int) (hn : In64 n) :
    Cn Tryz.prog 113 [.pointer (some ⟨r, 0, none⟩), .int .i64 n] [digsP mb] [blk r (runC pv key vv fuel pos steps halted sv g tv (.map (some mb))) 108, gl] (fun v Bs => v = .string (dg.dig n) ∧ Bs = [digsP mb]) := by
  intro w0 F0 H
  obtain ⟨kvs, H⟩ := digs_open H
  refine enter (args := [.pointer (some ⟨r, 0, none⟩), .int .i64 n]) Tryz.func113 rfl rfl (Nat.le_of_ble_eq_true rfl) ?_
  refine c_seq ?_
  refine c_reg ?_
  refine s_box rfl rfl rfl rfl H (fun b1 w H => ?_)
  refine s_val rfl rfl (r_as rfl rfl) ?_
  refine s_nil ?_
  refine q_then ?_
  replace H : Hd _ _ _ [blk b1 [.int .i64 n] 2, mapI mb (kvs.map ptrOf), cellsS 185 kvs] [blk r (runC pv key vv fuel pos steps halted sv g tv (.map (some mb))) 108, gl] := H
  refine c_env [(0, .pointer (some ⟨r, 0, none⟩)), (3, .pointer (some ⟨b1, 0, none⟩)), (4, .string ⟨#[]⟩)] ⟨rfl, rfl, rfl, trivial⟩ ?_
  refine c_seq ?_
  refine c_seq ?_
  by_cases hno : alook n (kvs.map ptrOf) = none
  · skip
    refine c_draw mo (by kernel_rfl) H ?_
    refine u_val rfl rfl (fun w H => r_mv rfl rfl) ?_
    refine u_val rfl rfl (fun w H => r_nilP rfl rfl) ?_
    refine u_val rfl rfl (fun w H => r_fa rfl fo108_10 rfl) ?_
    refine u_val rfl rfl (fun w H => r_ld rfl ty106 rfl (H.cellRI 0 rfl rfl)) ?_
    refine u_val rfl rfl (fun w H => r_ld rfl ty2 rfl (H.cellI 0 rfl rfl)) ?_
    refine u_val rfl rfl (fun w H => r_look1 rfl un106 un2 zr164 rfl rfl H 1 rfl (by rw [hno] <;> rfl)) ?_
    refine u_val rfl rfl (fun w H => r_peq rfl un164 rfl rfl) ?_
    refine u_end (fun w H => ?_)
    refine q_then ?_
    refine c_env [(0, .pointer (some ⟨r, 0, none⟩)), (3, .pointer (some ⟨b1, 0, none⟩)), (4, .string ⟨#[]⟩), (11, .bool true)] ⟨rfl, rfl, rfl, rfl, trivial⟩ ?_
    refine c_yes rfl ?_
    replace H := H.pick 2 rfl
    replace H := H.pick 1 rfl
    replace H : Hd _ _ _ [blk b1 [.int .i64 n] 2, cellsS 185 kvs, mapI mb (kvs.map ptrOf)] [blk r (runC pv key vv fuel pos steps halted sv g tv (.map (some mb))) 108, gl] := H
    refine c_ord (.e 0 (.e 1 (.e 2 (.e 3 (.e 4 (.e 5 (.m 6 (.m 7 .z)))))))) (fun w => ∃ Ar, Hd w0 F0 w (blk b1 [.int .i64 n] 2 :: cellsS 185 kvs :: Ar) [blk r (runC pv key vv fuel pos steps halted sv g tv (.map (some mb))) 108, gl]) mo (by kernel_rfl) (fun w H => ⟨_, H⟩) H (fun w H => ?_)
    refine d_val rfl rfl rfl (fun w ⟨Ar, H⟩ => r_mv rfl rfl) ?_
    refine d_val rfl rfl rfl (fun w ⟨Ar, H⟩ => r_nilP rfl rfl) ?_
    refine d_val rfl rfl rfl (fun w ⟨Ar, H⟩ => r_fa rfl fo108_10 rfl) ?_
    refine d_val rfl rfl rfl (fun w ⟨Ar, H⟩ => r_ld rfl ty106 rfl (H.cellRI 0 rfl rfl)) ?_
    refine d_val rfl rfl rfl (fun w ⟨Ar, H⟩ => r_ld rfl ty2 rfl (H.cellI 0 rfl rfl)) ?_
    refine d_val rfl rfl rfl (fun w ⟨Ar, H⟩ => r_fn (fs := #[]) (cs := #[.pointer (some ⟨b1, 0, none⟩)]) rfl rfl rfl) ?_
    refine d_main rfl ?_
    refine sc (lazyNew_ok b1) H l0 rfl rfl (e_fn kn127 rfl rfl) ?_
    rintro _ _ w ⟨b2, rfl, rfl⟩ H
    replace H := H.pick 2 rfl
    replace H := H.pick 2 rfl
    replace H : Hd _ _ _ [blk b1 [.int .i64 n] 2, cellsS 185 kvs, blk b2 [.int .u32 0, .int .i32 0, .int .u32 0, .int .u32 0, .func (.func 128) #[] #[.pointer (some ⟨b1, 0, none⟩)], .string ⟨#[]⟩] 185, mapI mb (kvs.map ptrOf)] [blk r (runC pv key vv fuel pos steps halted sv g tv (.map (some mb))) 108, gl] := H
    refine d_back ⟨_, H⟩ ?_
    refine d_main rfl ?_
    replace H := H.pick 3 rfl
    replace H : Hd _ _ _ [mapI mb (kvs.map ptrOf), blk b1 [.int .i64 n] 2, cellsS 185 kvs, blk b2 [.int .u32 0, .int .i32 0, .int .u32 0, .int .u32 0, .func (.func 128) #[] #[.pointer (some ⟨b1, 0, none⟩)], .string ⟨#[]⟩] 185] [blk r (runC pv key vv fuel pos steps halted sv g tv (.map (some mb))) 108, gl] := H
    refine s_mset rfl rfl rfl un106 un2 rfl rfl rfl hno H (fun w H => ?_)
    replace H : Hd _ _ _ [mapI mb (kvs.map ptrOf ++ [(n, .pointer (some ⟨b2, 0, none⟩))]), blk b1 [.int .i64 n] 2, cellsS 185 kvs, blk b2 [.int .u32 0, .int .i32 0, .int .u32 0, .int .u32 0, .func (.func 128) #[] #[.pointer (some ⟨b1, 0, none⟩)], .string ⟨#[]⟩] 185] [blk r (runC pv key vv fuel pos steps halted sv g tv (.map (some mb))) 108, gl] := H
    replace H := H.pick 2 rfl
    replace H := H.pick 2 rfl
    replace H : Hd _ _ _ [blk b1 [.int .i64 n] 2, cellsS 185 kvs, mapI mb (kvs.map ptrOf ++ [(n, .pointer (some ⟨b2, 0, none⟩))]), blk b2 [.int .u32 0, .int .i32 0, .int .u32 0, .int .u32 0, .func (.func 128) #[] #[.pointer (some ⟨b1, 0, none⟩)], .string ⟨#[]⟩] 185] [blk r (runC pv key vv fuel pos steps halted sv g tv (.map (some mb))) 108, gl] := H
    refine d_back ⟨_, H⟩ ?_
    refine d_nil ?_
    refine q_then ?_
    refine c_env [(0, .pointer (some ⟨r, 0, none⟩)), (3, .pointer (some ⟨b1, 0, none⟩)), (4, .string ⟨#[]⟩)] ⟨rfl, rfl, rfl, trivial⟩ ?_
    refine c_seq ?_
    replace H := H.pick 2 rfl
    replace H := H.pick 2 rfl
    replace H := H.pick 2 rfl
    replace H : Hd _ _ _ [blk b1 [.int .i64 n] 2, cellsS 185 kvs, mapI mb (kvs.map ptrOf ++ [(n, .pointer (some ⟨b2, 0, none⟩))]), blk b2 [.int .u32 0, .int .i32 0, .int .u32 0, .int .u32 0, .func (.func 128) #[] #[.pointer (some ⟨b1, 0, none⟩)], .string ⟨#[]⟩] 185] [blk r (runC pv key vv fuel pos steps halted sv g tv (.map (some mb))) 108, gl] := H
    refine c_ord (.e 0 (.e 1 (.e 2 (.e 3 (.e 4 (.e 5 (.m 6 (.e 7 .z)))))))) (fun w => ∃ Ar, Hd w0 F0 w (blk b1 [.int .i64 n] 2 :: cellsS 185 kvs :: mapI mb (kvs.map ptrOf ++ [(n, .pointer (some ⟨b2, 0, none⟩))]) :: Ar) [blk r (runC pv key vv fuel pos steps halted sv g tv (.map (some mb))) 108, gl]) mo (by kernel_rfl) (fun w H => ⟨_, H⟩) H (fun w H => ?_)
    refine d_val rfl rfl rfl (fun w ⟨Ar, H⟩ => r_mv rfl rfl) ?_
    refine d_val rfl rfl rfl (fun w ⟨Ar, H⟩ => r_nilP rfl rfl) ?_
    refine d_val rfl rfl rfl (fun w ⟨Ar, H⟩ => r_fa rfl fo108_10 rfl) ?_
    refine d_val rfl rfl rfl (fun w ⟨Ar, H⟩ => r_ld rfl ty106 rfl (H.cellRI 0 rfl rfl)) ?_
    refine d_val rfl rfl rfl (fun w ⟨Ar, H⟩ => r_ld rfl ty2 rfl (H.cellI 0 rfl rfl)) ?_
    refine d_val rfl rfl rfl (fun w ⟨Ar, H⟩ => r_look1 rfl un106 un2 zr164 rfl rfl H 2 rfl (by rw [alook_snoc hno] <;> rfl)) ?_
    refine d_main rfl ?_
    replace H := H.pick 3 rfl
    replace H : Hd _ _ _ [blk b2 [.int .u32 0, .int .i32 0, .int .u32 0, .int .u32 0, .func (.func 128) #[] #[.pointer (some ⟨b1, 0, none⟩)], .string ⟨#[]⟩] 185, blk b1 [.int .i64 n] 2, cellsS 185 kvs, mapI mb (kvs.map ptrOf ++ [(n, .pointer (some ⟨b2, 0, none⟩))])] [blk r (runC pv key vv fuel pos steps halted sv g tv (.map (some mb))) 108, gl] := H
    refine sc (getNew_ok b2 b1 n hn) H (lA 0 rfl (fun _ h => h) (lR 1 rfl l0)) rfl rfl (e_fn kn130 rfl rfl) ?_
    rintro _ _ w ⟨rfl, rfl⟩ H
    replace H := H.pick 3 rfl
    replace H := H.pick 3 rfl
    replace H := H.pick 3 rfl
    replace H : Hd _ _ _ [blk b1 [.int .i64 n] 2, cellsS 185 kvs, mapI mb (kvs.map ptrOf ++ [(n, .pointer (some ⟨b2, 0, none⟩))]), blk b2 [.int .u32 1, .int .i32 0, .int .u32 0, .int .u32 1, .func (.func 128) #[] #[.pointer (some ⟨b1, 0, none⟩)], .string (dg.dig n)] 185] [blk r (runC pv key vv fuel pos steps halted sv g tv (.map (some mb))) 108, gl] := H
    refine d_back ⟨_, H⟩ ?_
    refine d_val rfl rfl rfl (fun w ⟨Ar, H⟩ => r_as rfl rfl) ?_
    refine d_nil ?_
    refine q_then ?_
    refine c_env [(4, .string (dg.dig n))] ⟨rfl, trivial⟩ ?_
    refine c_ret ?_
    refine q_ret1 rfl rfl ?_
    replace H := H.pick 2 rfl
    replace H := H.pick 2 rfl
    replace H := H.pick 3 rfl
    replace H := H.keep 3
    replace H : Hd _ _ _ [blk b2 [.int .u32 1, .int .i32 0, .int .u32 0, .int .u32 1, .func (.func 128) #[] #[.pointer (some ⟨b1, 0, none⟩)], .string (dg.dig n)] 185, cellsS 185 kvs, mapI mb (kvs.map ptrOf ++ [(n, .pointer (some ⟨b2, 0, none⟩))])] [blk r (runC pv key vv fuel pos steps halted sv g tv (.map (some mb))) 108, gl] := H
    replace H := cells_put (n := n) (H.ex_in (A := fun f : Value => blk b2 [.int .u32 1, .int .i32 0, .int .u32 0, .int .u32 1, f, .string (digS n)] 185) (.func (.func 128) #[] #[.pointer (some ⟨b1, 0, none⟩)]))
    replace H := H.perm (List.Perm.swap _ _ _)
    rw [← map_snoc] at H
    replace H := digs_shut _ H
    replace H : Hd _ _ _ [digsP mb] [blk r (runC pv key vv fuel pos steps halted sv g tv (.map (some mb))) 108, gl] := H
    exact fin ⟨rfl, rfl⟩ H
  · skip
    refine c_draw mo (by kernel_rfl) H ?_
    refine u_val rfl rfl (fun w H => r_mv rfl rfl) ?_
    refine u_val rfl rfl (fun w H => r_nilP rfl rfl) ?_
    refine u_val rfl rfl (fun w H => r_fa rfl fo108_10 rfl) ?_
    refine u_val rfl rfl (fun w H => r_ld rfl ty106 rfl (H.cellRI 0 rfl rfl)) ?_
    refine u_val rfl rfl (fun w H => r_ld rfl ty2 rfl (H.cellI 0 rfl rfl)) ?_
    obtain ⟨v0, hv0⟩ := Option.ne_none_iff_exists'.1 hno
    obtain ⟨c, rfl, hmem⟩ := alook_ptr hv0
    refine u_val rfl rfl (fun w H => r_look1 rfl un106 un2 zr164 rfl rfl H 1 rfl (by rw [hv0] <;> rfl)) ?_
    refine u_val rfl rfl (fun w H => r_peq rfl un164 rfl rfl) ?_
    refine u_end (fun w H => ?_)
    refine q_then ?_
    refine c_env [(0, .pointer (some ⟨r, 0, none⟩)), (3, .pointer (some ⟨b1, 0, none⟩)), (4, .string ⟨#[]⟩), (11, .bool false)] ⟨rfl, rfl, rfl, rfl, trivial⟩ ?_
    refine c_no rfl ?_
    refine c_skip ?_
    refine q_then ?_
    refine c_env [(0, .pointer (some ⟨r, 0, none⟩)), (3, .pointer (some ⟨b1, 0, none⟩)), (4, .string ⟨#[]⟩)] ⟨rfl, rfl, rfl, trivial⟩ ?_
    refine c_seq ?_
    replace H := H.pick 2 rfl
    replace H := H.pick 2 rfl
    replace H := H.pick 2 rfl
    replace H : Hd _ _ _ [blk b1 [.int .i64 n] 2, mapI mb (kvs.map ptrOf), cellsS 185 kvs] [blk r (runC pv key vv fuel pos steps halted sv g tv (.map (some mb))) 108, gl] := H
    refine c_ord (.e 0 (.e 1 (.e 2 (.e 3 (.e 4 (.e 5 (.m 6 (.e 7 .z)))))))) (fun w => ∃ Ar, Hd w0 F0 w (blk b1 [.int .i64 n] 2 :: mapI mb (kvs.map ptrOf) :: cellsS 185 kvs :: Ar) [blk r (runC pv key vv fuel pos steps halted sv g tv (.map (some mb))) 108, gl]) mo (by kernel_rfl) (fun w H => ⟨_, H⟩) H (fun w H => ?_)
    refine d_val rfl rfl rfl (fun w ⟨Ar, H⟩ => r_mv rfl rfl) ?_
    refine d_val rfl rfl rfl (fun w ⟨Ar, H⟩ => r_nilP rfl rfl) ?_
    refine d_val rfl rfl rfl (fun w ⟨Ar, H⟩ => r_fa rfl fo108_10 rfl) ?_
    refine d_val rfl rfl rfl (fun w ⟨Ar, H⟩ => r_ld rfl ty106 rfl (H.cellRI 0 rfl rfl)) ?_
    refine d_val rfl rfl rfl (fun w ⟨Ar, H⟩ => r_ld rfl ty2 rfl (H.cellI 0 rfl rfl)) ?_
    refine d_val rfl rfl rfl (fun w ⟨Ar, H⟩ => r_look1 rfl un106 un2 zr164 rfl rfl H 1 rfl (by rw [hv0] <;> rfl)) ?_
    refine d_main rfl ?_
    replace H := H.pick 2 rfl
    replace H : Hd _ _ _ [cellsS 185 kvs, blk b1 [.int .i64 n] 2, mapI mb (kvs.map ptrOf)] [blk r (runC pv key vv fuel pos steps halted sv g tv (.map (some mb))) 108, gl] := H
    obtain ⟨rest, H, hback⟩ := cells_take hmem H
    obtain ⟨f0, H⟩ := H.ex_out
    refine sc (getOld_ok c f0 (digS n)) H l0 rfl rfl (e_fn kn130 rfl rfl) ?_
    rintro _ _ w ⟨rfl, rfl⟩ H
    replace H := hback (H.ex_in (A := fun f : Value => blk c [.int .u32 1, .int .i32 0, .int .u32 0, .int .u32 1, f, .string (digS n)] 185) f0)
    replace H := H.pick 2 rfl
    replace H := H.pick 2 rfl
    replace H : Hd _ _ _ [blk b1 [.int .i64 n] 2, mapI mb (kvs.map ptrOf), cellsS 185 kvs] [blk r (runC pv key vv fuel pos steps halted sv g tv (.map (some mb))) 108, gl] := H
    refine d_back ⟨_, H⟩ ?_
    refine d_val rfl rfl rfl (fun w ⟨Ar, H⟩ => r_as rfl rfl) ?_
    refine d_nil ?_
    refine q_then ?_
    refine c_env [(4, .string (dg.dig n))] ⟨rfl, trivial⟩ ?_
    refine c_ret ?_
    refine q_ret1 rfl rfl ?_
    replace H := H.pick 2 rfl
    replace H := H.pick 2 rfl
    replace H := H.keep 2
    replace H : Hd _ _ _ [mapI mb (kvs.map ptrOf), cellsS 185 kvs] [blk r (runC pv key vv fuel pos steps halted sv g tv (.map (some mb))) 108, gl] := H
    replace H := digs_shut _ H
    replace H : Hd _ _ _ [digsP mb] [blk r (runC pv key vv fuel pos steps halted sv g tv (.map (some mb))) 108, gl] := H
    exact fin ⟨rfl, rfl⟩ H

end Go.Proofs.YtlpgdkbokakniaaGreatDoor.X

