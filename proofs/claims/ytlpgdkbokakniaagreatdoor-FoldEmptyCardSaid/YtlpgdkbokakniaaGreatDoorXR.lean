/- How what comes in is opened: a datum that was read off memory lies there, as the walks ask. No program in sight. -/
import Derived.Test.YtlpgdkbokakniaaGreatDoorXQ
import Derived.ChangeArms
import Derived.ChangeOld
set_option linter.unusedVariables false
set_option linter.unusedSimpArgs false
namespace Go.Proofs.YtlpgdkbokakniaaGreatDoor.X
open Go

def Old (w : World) : Foot := fun k => k < w.heap.size
/-- Whatever reads as a datum of type t is one of kind d, and W holds of it. -/
def Opens {α : Type} (P : Program) (t : TypeId) (d : Kd α) (W : α → Prop) : Prop :=
  ∀ {H : Type} (enc : TypeId × Value → H) (w : World) (fuel : Nat) (cs : List Value) (x : DataW H × List MemPlace), DataW.trod enc P w 0 (fun _ => true) true fuel t cs = some x → ∃ a, d.R w (Old w) a cs ∧ W a

def In64 (x : Int) : Prop := -9223372036854775808 ≤ x ∧ x ≤ 9223372036854775807

section
variable {P : Program} {t : TypeId}
theorem opens_int (hu : P.underlying t = some (.int .i64)) : Opens P t (kInt .i64) In64 := by
  intro H enc w fuel cs x h
  obtain ⟨n, rfl, _, hw⟩ := DataW.trod_int hu h
  refine ⟨n, rfl, ?_⟩
  simp [Lit.wf, IntKind.min, IntKind.max, IntKind.bits, IntKind.signed] at hw
  exact hw
theorem opens_bool (hu : P.underlying t = some .bool) : Opens P t kBool (fun _ => True) := by
  intro H enc w fuel cs x h
  obtain ⟨b, rfl, _⟩ := DataW.trod_bool hu h
  exact ⟨b, rfl, trivial⟩
theorem opens_str (hu : P.underlying t = some .string) : Opens P t kStr (fun s => s.size ≤ 9223372036854775807) := by
  intro H enc w fuel cs x h
  obtain ⟨s, rfl, _, hs⟩ := DataW.trod_string hu h
  refine ⟨s, rfl, ?_⟩
  simpa [maxLen] using hs

theorem cells?_spec {w : World} {a : Addr} : ∀ {n : Nat} {cs : List Value}, w.cells? 0 a n = some cs → cs.length = n ∧ ∀ j v, cs[j]? = some v → w.cell? (a.add j) = some v := by
  intro n cs h
  simp only [World.cells?, Nat.zero_le, if_true] at h
  have hl := mapM_some_length h
  refine ⟨by simpa using hl, fun j v hj => ?_⟩
  have hlt : j < n := by
    rcases Nat.lt_or_ge j cs.length with h' | h'
    · simp at hl; omega
    · simp [List.getElem?_eq_none h'] at hj
  have := mapM_some_get h j j (by simp [hlt])
  rw [this, hj]

theorem cell_block {w : World} {a : Addr} {v : Value} (h : w.cell? a = some v) : a.spot = none ∧ ∃ C t fr, w.heap[a.block]? = some (.cells C t fr) ∧ C[a.off]? = some v := by
  unfold World.cell? at h
  split at h
  · rename_i C t fr hb
    split at h
    · cases h
    · rename_i hs
      exact ⟨by simpa using hs, C, t, fr, hb, h⟩
  · cases h

/-- Cells, one behind the other, are a row that is read. -/
theorem row_of_cells {w : World} {a : Addr} {cs : List Value} (h : ∀ j v, cs[j]? = some v → w.cell? (a.add j) = some v) : RowR w (Old w) (some a) cs := by
  refine ⟨trivial, ?_⟩
  cases cs with
  | nil => exact .inl rfl
  | cons c cs =>
    right
    have h0 := h 0 c rfl
    have ha0 : a.add 0 = a := by simp [Addr.add]
    rw [ha0] at h0
    obtain ⟨hs, C, t, fr, hb, hc⟩ := cell_block h0
    obtain ⟨b, off, sp⟩ := a
    simp only at hs hb hc
    subst hs
    refine ⟨b, off, C, t, fr, rfl, (Array.getElem?_eq_some_iff.1 hb).1, hb, ?_⟩
    apply List.ext_getElem?
    intro j
    rw [List.getElem?_take]
    split
    · rename_i hj
      rw [List.getElem?_drop]
      have hv := h j (c :: cs)[j] (by simp [List.getElem?_eq_getElem hj])
      rw [add_of] at hv
      obtain ⟨_, C', t', fr', hb', hc'⟩ := cell_block hv
      simp only at hb' hc'
      rw [hb] at hb'
      cases hb'
      rw [List.getElem?_eq_getElem hj, ← hc']
      simp
    · rename_i hj
      rw [List.getElem?_eq_none (by omega)]

theorem opens_sl {α : Type} {d : Kd α} {W : α → Prop} {e size bytes : Nat} (hs : slOf P t = some (e, size, bytes)) (hd : d.sz = size) (he : Opens P e d W) : Opens P t (kSl d) (fun xs => (∀ x ∈ xs, W x) ∧ xs.length ≤ 9223372036854775807) := by
  intro H enc w fuel cs x h
  obtain ⟨hu, i, hi, hsz, _⟩ := slOf_spec hs
  have hc : P.cellsOf e = d.sz := by simp [Program.cellsOf, hi, hsz, hd]
  rcases DataW.trod_slice hu h with ⟨rfl, _⟩ | ⟨a, len, cap, elems, rest, n, _, rfl, _, _, hl, hm, hlen, hel, _, _⟩
  · refine ⟨[], ⟨none, 0, 0, rfl, rfl, Nat.le_refl _, by omega, [], ⟨trivial, .inl rfl⟩, rfl⟩, by simp, by simp⟩
  · have hm' : cap ≤ 9223372036854775807 := by simpa [maxLen] using hm
    have each : ∀ k, k < len → ∃ (y : α) (c : List Value), d.R w (Old w) y c ∧ W y ∧ c.length = d.sz ∧ ∀ j v, c[j]? = some v → w.cell? (a.add (k * d.sz + j)) = some v := by
      intro k hk
      have h1 := hel k hk
      rw [List.getElem?_eq_getElem (by omega), Option.bind_eq_some_iff] at h1
      obtain ⟨c, hc1, hc2⟩ := h1
      obtain ⟨y, hy, hW⟩ := he enc w n c _ hc2
      obtain ⟨hcl, hcc⟩ := cells?_spec hc1
      refine ⟨y, c, hy, hW, by rw [hcl, hc], fun j v hj => ?_⟩
      have h2 := hcc j v hj
      have h3 : (a.add (k * P.cellsOf e)).add j = a.add (k * d.sz + j) := by
        rw [hc]
        unfold Addr.add
        by_cases h4 : k * d.sz = 0 <;> by_cases h5 : j = 0 <;> simp [h4, h5, Nat.add_assoc]
      rwa [h3] at h2
    have all : ∀ k, k ≤ len → ∃ (ys : List α) (cs : List Value), ys.length = k ∧ RepsR d w (Old w) ys cs ∧ cs.length = k * d.sz ∧ (∀ y ∈ ys, W y) ∧ ∀ j v, cs[j]? = some v → w.cell? (a.add j) = some v := by
      intro k
      induction k with
      | zero => exact fun _ => ⟨[], [], rfl, rfl, by simp, by simp, by simp⟩
      | succ k ih =>
        intro hk
        obtain ⟨ys, cs, h1, h2, h3, h4, h5⟩ := ih (by omega)
        obtain ⟨y, c, g1, g2, g3, g4⟩ := each k (by omega)
        refine ⟨ys ++ [y], cs ++ c, by simp [h1], h2.append ⟨c, [], by simp, g1, rfl⟩, by simp [h3, g3, Nat.succ_mul], ?_, ?_⟩
        · intro z hz
          simp at hz
          exact hz.elim (h4 z) (fun e => e ▸ g2)
        · intro j v hj
          rcases Nat.lt_or_ge j cs.length with hlt | hge
          · exact h5 j v (by rwa [List.getElem?_append_left hlt] at hj)
          · rw [List.getElem?_append_right hge] at hj
            have := g4 _ v hj
            rwa [show k * d.sz + (j - cs.length) = j by omega] at this
    obtain ⟨ys, cs, h1, h2, h3, h4, h5⟩ := all len (Nat.le_refl _)
    exact ⟨ys, ⟨some a, len, cap, rfl, h1, hl, hm', cs, row_of_cells h5, h2⟩, h4, by omega⟩

/-- A struct's fields: type, place, cells. -/
def stOf (P : Program) (t : TypeId) : Option (List (TypeId × Nat × Nat)) :=
  match P.underlying t with
  | some (.struct fs) => some (fs.toList.map fun f => (f.type, f.offset, P.cellsOf f.type))
  | _ => none
theorem open_st {H : Type} {enc : TypeId × Value → H} {w : World} {fuel : Nat} {cs : List Value} {x : DataW H × List MemPlace} {l : List (TypeId × Nat × Nat)} (hs : stOf P t = some l) (h : DataW.trod enc P w 0 (fun _ => true) true fuel t cs = some x) :
    cs.length = P.cellsOf t ∧ ∃ n, ∀ (i : Nat) (ty off sz : Nat), l[i]? = some (ty, off, sz) → ∃ y, DataW.trod enc P w 0 (fun _ => true) true n ty ((cs.drop off).take sz) = some y := by
  unfold stOf at hs
  split at hs
  · rename_i fs hu
    obtain ⟨xs, n, _, _, hl, hxl, hf⟩ := DataW.trod_struct hu h
    refine ⟨hl, n, fun i ty off sz hi => ?_⟩
    have hl' : l = fs.toList.map fun f => (f.type, f.offset, P.cellsOf f.type) := by simpa using hs.symm
    subst hl'
    simp only [List.getElem?_map, Option.map_eq_some_iff] at hi
    obtain ⟨f, hf1, hf2⟩ := hi
    simp only [Prod.mk.injEq] at hf2
    obtain ⟨rfl, rfl, rfl⟩ := hf2
    have := hf i f (by simpa using hf1)
    rw [this]
    have hlt : i < xs.length := by
      rw [hxl]
      rcases Nat.lt_or_ge i fs.size with h' | h'
      · exact h'
      · simp [h'] at hf1
    exact ⟨_, List.getElem?_eq_getElem hlt⟩
  · cases hs
end

theorem law_run {P : Program} {f : FuncId} {args : List Value} {Rs : List SP} {T : Value → List SP → Prop} {u : Value} {W : World} (hc : Cn P f args [] Rs T) (hR : ∀ R ∈ Rs, R.P W (Old W)) (hT : ∀ v Bs, T v Bs → v = u) :
    Calls P f args.toArray W fun e W' => e = .returned u ∧ Go.RowKit.Below W.heap.size W W' := by
  refine (hc W none_ (Hd.begin (G := Old W) trivial hR (fun _ h => h.elim) (fun _ h => h.elim) (fun _ h => h))).mono ?_
  rintro e W' ⟨v, rfl, Bs, t, H⟩
  exact ⟨by rw [hT v Bs t], H.upd.below⟩

/-! ### Structs that lead nowhere -/
structure Pair where
  key : ByteArray
  val : ByteArray
deriving DecidableEq
def encPair (p : Pair) : List Value := [.string p.key, .string p.val]
def kPair : Kd Pair := flat encPair 2 (by omega) (fun _ => rfl) (fun _ c h => by simp [encPair] at h; rcases h with rfl | rfl <;> rfl)
theorem opens_pair {P : Program} {t s : TypeId} (hs : stOf P t = some [(s, 0, 1), (s, 1, 1)]) (hc : P.cellsOf t = 2) (hu : P.underlying s = some .string) : Opens P t kPair (fun p => p.key.size ≤ 9223372036854775807 ∧ p.val.size ≤ 9223372036854775807) := by
  intro H enc w fuel cs x h
  obtain ⟨hl, n, hf⟩ := open_st hs h
  rw [hc] at hl
  obtain ⟨y0, h0⟩ := hf 0 _ _ _ rfl
  obtain ⟨y1, h1⟩ := hf 1 _ _ _ rfl
  obtain ⟨a, b, rfl⟩ : ∃ a b, cs = [a, b] := by
    match cs, hl with
    | [a, b], _ => exact ⟨a, b, rfl⟩
  obtain ⟨s0, e0, _, l0⟩ := DataW.trod_string hu h0
  obtain ⟨s1, e1, _, l1⟩ := DataW.trod_string hu h1
  simp at e0 e1
  subst e0 e1
  exact ⟨⟨s0, s1⟩, rfl, by simpa [maxLen] using l0, by simpa [maxLen] using l1⟩

structure Ins where
  op : Int
  a : Int
  s : ByteArray
deriving DecidableEq
def encIns (p : Ins) : List Value := [.int .i64 p.op, .int .i64 p.a, .string p.s]
def kIns : Kd Ins := flat encIns 3 (by omega) (fun _ => rfl) (fun _ c h => by simp [encIns] at h; rcases h with rfl | rfl | rfl <;> rfl)
theorem opens_ins {P : Program} {t i s : TypeId} (hs : stOf P t = some [(i, 0, 1), (i, 1, 1), (s, 2, 1)]) (hc : P.cellsOf t = 3) (hi : P.underlying i = some (.int .i64)) (hu : P.underlying s = some .string) :
    Opens P t kIns (fun p => In64 p.op ∧ In64 p.a ∧ p.s.size ≤ 9223372036854775807) := by
  intro H enc w fuel cs x h
  obtain ⟨hl, n, hf⟩ := open_st hs h
  rw [hc] at hl
  obtain ⟨y0, h0⟩ := hf 0 _ _ _ rfl
  obtain ⟨y1, h1⟩ := hf 1 _ _ _ rfl
  obtain ⟨y2, h2⟩ := hf 2 _ _ _ rfl
  obtain ⟨a, b, c, rfl⟩ : ∃ a b c, cs = [a, b, c] := by
    match cs, hl with
    | [a, b, c], _ => exact ⟨a, b, c, rfl⟩
  obtain ⟨s0, ⟨e0⟩, l0⟩ := opens_int hi enc w n _ _ h0
  obtain ⟨s1, ⟨e1⟩, l1⟩ := opens_int hi enc w n _ _ h1
  obtain ⟨s2, e2, _, l2⟩ := DataW.trod_string hu h2
  simp at e2
  subst e2
  exact ⟨⟨s0, s1, s2⟩, rfl, l0, l1, by simpa [maxLen] using l2⟩

/-- Two numbers (an ack). -/
structure Act2 where
  x : Int
  y : Int
deriving DecidableEq
def encAct2 (p : Act2) : List Value := [.int .i64 p.x, .int .i64 p.y]
def kAct2 : Kd Act2 := flat encAct2 2 (by omega) (fun _ => rfl) (fun _ c h => by simp [encAct2] at h; rcases h with rfl | rfl <;> rfl)
theorem opens_act2 {P : Program} {t i : TypeId} (hs : stOf P t = some [(i, 0, 1), (i, 1, 1)]) (hc : P.cellsOf t = 2) (hi : P.underlying i = some (.int .i64)) : Opens P t kAct2 (fun p => In64 p.x ∧ In64 p.y) := by
  intro H enc w fuel cs x h
  obtain ⟨hl, n, hf⟩ := open_st hs h
  rw [hc] at hl
  obtain ⟨y0, h0⟩ := hf 0 _ _ _ rfl
  obtain ⟨y1, h1⟩ := hf 1 _ _ _ rfl
  obtain ⟨a, b, rfl⟩ : ∃ a b, cs = [a, b] := by
    match cs, hl with
    | [a, b], _ => exact ⟨a, b, rfl⟩
  obtain ⟨s0, ⟨e0⟩, l0⟩ := opens_int hi enc w n _ _ h0
  obtain ⟨s1, ⟨e1⟩, l1⟩ := opens_int hi enc w n _ _ h1
  exact ⟨⟨s0, s1⟩, rfl, l0, l1⟩
end Go.Proofs.YtlpgdkbokakniaaGreatDoor.X
