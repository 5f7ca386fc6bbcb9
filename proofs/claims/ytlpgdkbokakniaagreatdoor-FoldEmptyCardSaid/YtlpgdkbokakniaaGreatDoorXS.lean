/- Rows of cells: what lies in memory, read and written; texts; what is made. No program in sight. -/
import Derived.Test.YtlpgdkbokakniaaGreatDoorXO
set_option linter.unusedVariables false
set_option linter.unusedSimpArgs false
namespace Go.Proofs.YtlpgdkbokakniaaGreatDoor.X
open Go

/-! ### Texts -/
theorem toList_inj {a b : ByteArray} (h : a.data.toList = b.data.toList) : a = b := by
  cases a; cases b; simp at h; subst h; rfl
theorem beqS (a b : ByteArray) : (a.toList == b.toList) = decide (a = b) := by
  rw [Bool.eq_iff_iff]
  simp only [beq_iff_eq, decide_eq_true_eq]
  constructor
  · intro h
    rw [ByteArray.toList_eq, ByteArray.toList_eq] at h
    exact toList_inj h
  · rintro rfl; rfl
/-- Texts in order, by their bytes. -/
def ltS (a b : ByteArray) : Bool := Op.bytesLess a.data.toList b.data.toList
section
variable {P : Program} {n : Nat} {l : Env} {w w' : World} {o : Oper} {v u : Value} {x y : Operand} {t : TypeId} {a b : ByteArray} {t' : TypeId}
theorem r_eqS (ho : o.op = .binOp .eql t x y t') (hx : ev l x = some (.string a)) (hy : ev l y = some (.string b)) : Run P n l w o (.bool (decide (a = b))) w := by
  intro a' ha; simp [execOp, ho, ha.eval hx, ha.eval hy, eqGuard, binOp, Op.stringOp, beqS]
theorem r_neS (ho : o.op = .binOp .neq t x y t') (hx : ev l x = some (.string a)) (hy : ev l y = some (.string b)) : Run P n l w o (.bool (decide (a ≠ b))) w := by
  intro a' ha; simp [execOp, ho, ha.eval hx, ha.eval hy, eqGuard, binOp, Op.stringOp, beqS]
theorem r_ltS (ho : o.op = .binOp .lss t x y t') (hx : ev l x = some (.string a)) (hy : ev l y = some (.string b)) : Run P n l w o (.bool (decide (ltS a b = true))) w := by
  intro a' ha
  rw [show decide (ltS a b = true) = ltS a b from Bool.decide_eq_true]
  simp [execOp, ho, ha.eval hx, ha.eval hy, eqGuard, binOp, Op.stringOp, ltS, ByteArray.toList_eq]
theorem r_gtS (ho : o.op = .binOp .gtr t x y t') (hx : ev l x = some (.string a)) (hy : ev l y = some (.string b)) : Run P n l w o (.bool (!(ltS a b || decide (a = b)))) w := by
  intro a' ha; simp [execOp, ho, ha.eval hx, ha.eval hy, eqGuard, binOp, Op.stringOp, ltS, ← ByteArray.toList_eq, beqS]
theorem r_addS (ho : o.op = .binOp .add t x y t') (hx : ev l x = some (.string a)) (hy : ev l y = some (.string b)) (hb : a.size + b.size ≤ 9223372036854775807) : Run P n l w o (.string (a ++ b)) w := by
  intro a' ha; simp [execOp, ho, ha.eval hx, ha.eval hy, eqGuard, binOp, run_string_add_sum w a b hb]
end

/-! ### Kinds of data -/
/-- What is held (O), what is read (R): a datum as cells. -/
structure Kd (α : Type) where
  sz : Nat
  O : World → Foot → α → List Value → Prop
  R : World → Foot → α → List Value → Prop
  O_loc : ∀ {w w' : World} {F : Foot} {x : α} {cs : List Value}, O w F x cs → (∀ k, F k → w'.heap[k]? = w.heap[k]?) → O w' F x cs
  O_mono : ∀ {w : World} {F F' : Foot} {x : α} {cs : List Value}, O w F x cs → (∀ k, F k → F' k) → O w F' x cs
  R_loc : ∀ {w w' : World} {F : Foot} {x : α} {cs : List Value}, R w F x cs → (∀ k, F k → w'.heap[k]? = w.heap[k]?) → R w' F x cs
  R_mono : ∀ {w : World} {F F' : Foot} {x : α} {cs : List Value}, R w F x cs → (∀ k, F k → F' k) → R w F' x cs
  O_R : ∀ {w : World} {F : Foot} {x : α} {cs : List Value}, O w F x cs → R w F x cs
  len : ∀ {w : World} {F : Foot} {x : α} {cs : List Value}, R w F x cs → cs.length = sz
  one : ∀ {w : World} {F : Foot} {x : α} {cs : List Value}, R w F x cs → ∀ c ∈ cs, c.oneCell' = true
  pos : 0 < sz

/-- A datum that leads nowhere. -/
def flat {α : Type} (enc : α → List Value) (sz : Nat) (hp : 0 < sz) (hl : ∀ x, (enc x).length = sz) (h1 : ∀ x, ∀ c ∈ enc x, c.oneCell' = true) : Kd α where
  sz := sz
  O _ _ x cs := cs = enc x
  R _ _ x cs := cs = enc x
  O_loc h _ := h
  O_mono h _ := h
  R_loc h _ := h
  R_mono h _ := h
  O_R h := h
  len h := h ▸ hl _
  one h := h ▸ h1 _
  pos := hp
def kInt (k : IntKind) : Kd Int := flat (fun x => [.int k x]) 1 (by omega) (fun _ => rfl) (fun _ c h => by simp at h; subst h; rfl)
def kBool : Kd Bool := flat (fun x => [.bool x]) 1 (by omega) (fun _ => rfl) (fun _ c h => by simp at h; subst h; rfl)
def kStr : Kd ByteArray := flat (fun x => [.string x]) 1 (by omega) (fun _ => rfl) (fun _ c h => by simp at h; subst h; rfl)

section
variable {α : Type} (d : Kd α)
def RepsR (w : World) (F : Foot) : List α → List Value → Prop
  | [], cs => cs = []
  | x :: xs, cs => ∃ c cs', cs = c ++ cs' ∧ d.R w F x c ∧ RepsR w F xs cs'
def RepsO (w : World) : Foot → List α → List Value → Prop
  | _, [], cs => cs = []
  | F, x :: xs, cs => ∃ (F1 F2 : Foot) (c cs' : List Value), (∀ k, F1 k → F k) ∧ (∀ k, F2 k → F k) ∧ (∀ k, F1 k → ¬ F2 k) ∧ cs = c ++ cs' ∧ d.O w F1 x c ∧ RepsO w F2 xs cs'
variable {d} {w w' : World} {F F' : Foot} {xs ys : List α} {cs ds : List Value}
theorem RepsR.loc : ∀ {xs : List α} {cs : List Value}, RepsR d w F xs cs → (∀ k, F k → w'.heap[k]? = w.heap[k]?) → RepsR d w' F xs cs
  | [], _, h, _ => h
  | _ :: _, _, ⟨c, cs', e, h1, h2⟩, hk => ⟨c, cs', e, d.R_loc h1 hk, RepsR.loc h2 hk⟩
theorem RepsR.mono : ∀ {xs : List α} {cs : List Value}, RepsR d w F xs cs → (∀ k, F k → F' k) → RepsR d w F' xs cs
  | [], _, h, _ => h
  | _ :: _, _, ⟨c, cs', e, h1, h2⟩, hk => ⟨c, cs', e, d.R_mono h1 hk, RepsR.mono h2 hk⟩
theorem RepsO.loc : ∀ {xs : List α} {F : Foot} {cs : List Value}, RepsO d w F xs cs → (∀ k, F k → w'.heap[k]? = w.heap[k]?) → RepsO d w' F xs cs
  | [], _, _, h, _ => h
  | _ :: _, _, _, ⟨F1, F2, c, cs', s1, s2, dj, e, h1, h2⟩, hk => ⟨F1, F2, c, cs', s1, s2, dj, e, d.O_loc h1 (fun k x => hk k (s1 k x)), RepsO.loc h2 (fun k x => hk k (s2 k x))⟩
theorem RepsO.mono : ∀ {xs : List α} {F F' : Foot} {cs : List Value}, RepsO d w F xs cs → (∀ k, F k → F' k) → RepsO d w F' xs cs
  | [], _, _, _, h, _ => h
  | _ :: _, _, _, _, ⟨F1, F2, c, cs', s1, s2, dj, e, h1, h2⟩, hk => ⟨F1, F2, c, cs', fun k x => hk k (s1 k x), fun k x => hk k (s2 k x), dj, e, h1, h2⟩
theorem RepsO.toR : ∀ {xs : List α} {F : Foot} {cs : List Value}, RepsO d w F xs cs → RepsR d w F xs cs
  | [], _, _, h => h
  | _ :: _, _, _, ⟨F1, F2, c, cs', s1, s2, _, e, h1, h2⟩ => ⟨c, cs', e, d.R_mono (d.O_R h1) s1, (RepsO.toR h2).mono s2⟩
theorem RepsR.len : ∀ {xs : List α} {cs : List Value}, RepsR d w F xs cs → cs.length = xs.length * d.sz
  | [], _, h => by subst h; simp
  | _ :: _, _, ⟨c, cs', e, h1, h2⟩ => by
    subst e
    rw [List.length_append, d.len h1, RepsR.len h2, List.length_cons, Nat.succ_mul, Nat.add_comm]
theorem RepsR.one : ∀ {xs : List α} {cs : List Value}, RepsR d w F xs cs → ∀ c ∈ cs, c.oneCell' = true
  | [], _, h, c, hc => by subst h; cases hc
  | _ :: _, _, ⟨c, cs', e, h1, h2⟩, c', hc => by
    subst e
    exact (List.mem_append.1 hc).elim (d.one h1 c') (RepsR.one h2 c')
theorem RepsR.append : ∀ {xs : List α} {cs : List Value}, RepsR d w F xs cs → RepsR d w F ys ds → RepsR d w F (xs ++ ys) (cs ++ ds)
  | [], _, h, k => by subst h; exact k
  | _ :: _, _, ⟨c, cs', e, h1, h2⟩, k => ⟨c, cs' ++ ds, by rw [e, List.append_assoc], h1, RepsR.append h2 k⟩
theorem RepsO.append : ∀ {xs : List α} {F F1 F2 : Foot} {cs : List Value}, (∀ k, F1 k → F k) → (∀ k, F2 k → F k) → (∀ k, F1 k → ¬ F2 k) → RepsO d w F1 xs cs → RepsO d w F2 ys ds → RepsO d w F (xs ++ ys) (cs ++ ds)
  | [], _, _, _, _, _, s2, _, h, k => by subst h; exact k.mono s2
  | _ :: _, F, F1, F2, _, s1, s2, dj, ⟨G1, G2, c, cs', g1, g2, gd, e, h1, h2⟩, k =>
    ⟨G1, fun j => G2 j ∨ F2 j, c, cs' ++ ds, fun j hj => s1 j (g1 j hj), fun j hj => hj.elim (fun x => s1 j (g2 j x)) (s2 j), fun j hj hg => hg.elim (gd j hj) (dj j (g1 j hj)), by rw [e, List.append_assoc], h1,
      RepsO.append (fun _ => .inl) (fun _ => .inr) (fun j x => dj j (g2 j x)) h2 k⟩
theorem RepsR.get : ∀ {xs : List α} {cs : List Value} {i : Nat} {x : α}, RepsR d w F xs cs → xs[i]? = some x → ∃ c, d.R w F x c ∧ (cs.drop (i * d.sz)).take d.sz = c
  | [], _, _, _, _, h => by simp at h
  | y :: xs, _, 0, x, ⟨c, cs', e, h1, h2⟩, h => by
    obtain rfl : y = x := by simpa using h
    refine ⟨c, h1, ?_⟩
    subst e
    have := d.len h1
    simp [← this]
  | y :: xs, _, i + 1, x, ⟨c, cs', e, h1, h2⟩, h => by
    obtain ⟨c', h3, h4⟩ := RepsR.get h2 (by simpa using h)
    refine ⟨c', h3, ?_⟩
    subst e
    have := d.len h1
    rw [← h4, Nat.succ_mul, Nat.add_comm, ← List.drop_drop]
    congr 2
    rw [← this, List.drop_left]
theorem RepsR.take : ∀ {xs : List α} {cs : List Value} (i : Nat), RepsR d w F xs cs → RepsR d w F (xs.take i) (cs.take (i * d.sz))
  | [], _, i, h => by subst h; simp [RepsR]
  | _ :: _, _, 0, h => by simp [RepsR]
  | y :: xs, _, i + 1, ⟨c, cs', e, h1, h2⟩ => by
    have h3 := RepsR.take i h2
    have := d.len h1
    refine ⟨c, cs'.take (i * d.sz), ?_, h1, h3⟩
    subst e
    rw [Nat.succ_mul, Nat.add_comm, ← this, List.take_length_add_append]
theorem RepsR.drop : ∀ {xs : List α} {cs : List Value} (i : Nat), RepsR d w F xs cs → RepsR d w F (xs.drop i) (cs.drop (i * d.sz))
  | [], _, i, h => by subst h; simp [RepsR]
  | _ :: _, _, 0, h => by simpa using h
  | y :: xs, _, i + 1, ⟨c, cs', e, h1, h2⟩ => by
    have h3 := RepsR.drop i h2
    have := d.len h1
    subst e
    rw [Nat.succ_mul, Nat.add_comm (i * d.sz), ← this, List.drop_length_add_append, this]
    exact h3
theorem RepsO.take : ∀ {xs : List α} {F : Foot} {cs : List Value} (i : Nat), RepsO d w F xs cs → RepsO d w F (xs.take i) (cs.take (i * d.sz))
  | [], _, _, i, h => by subst h; simp [RepsO]
  | _ :: _, _, _, 0, h => by simp [RepsO]
  | y :: xs, _, _, i + 1, ⟨F1, F2, c, cs', s1, s2, dj, e, h1, h2⟩ => by
    have h3 := RepsO.take i h2
    have := d.len (d.O_R h1)
    refine ⟨F1, F2, c, cs'.take (i * d.sz), s1, s2, dj, ?_, h1, h3⟩
    subst e
    rw [Nat.succ_mul, Nat.add_comm, ← this, List.take_length_add_append]
end
theorem RepsO.flatR {α : Type} {enc : α → List Value} {sz : Nat} {hp : 0 < sz} {hl : ∀ x, (enc x).length = sz} {h1 : ∀ x, ∀ c ∈ enc x, c.oneCell' = true} {w : World} {F G : Foot} : ∀ {xs : List α} {cs : List Value},
    RepsR (flat enc sz hp hl h1) w F xs cs → RepsO (flat enc sz hp hl h1) w G xs cs
  | [], _, h => h
  | _ :: _, _, ⟨c, cs', e, h1, h2⟩ => ⟨none_, G, c, cs', fun _ h => h.elim, fun _ h => h, fun _ h => h.elim, e, h1, RepsO.flatR h2⟩
theorem RepsR.flat_eq {α : Type} {enc : α → List Value} {sz : Nat} {hp : 0 < sz} {hl : ∀ x, (enc x).length = sz} {h1 : ∀ x, ∀ c ∈ enc x, c.oneCell' = true} {w : World} {F : Foot} : ∀ {xs : List α} {cs : List Value},
    RepsR (flat enc sz hp hl h1) w F xs cs ↔ cs = xs.flatMap enc
  | [], _ => by simp [RepsR]
  | x :: xs, cs => by
    constructor
    · rintro ⟨c, cs', rfl, hc, h2⟩
      rw [RepsR.flat_eq] at h2
      have : c = enc x := hc
      simp [h2, this]
    · rintro rfl
      exact ⟨enc x, xs.flatMap enc, by simp, rfl, RepsR.flat_eq.2 rfl⟩

/-! ### Slices -/
def Plain (_ : Option Addr) : Prop := True
/-- A row of cells that is read. -/
def RowR (w : World) (F : Foot) (A : Option Addr) (cs : List Value) : Prop :=
  Plain A ∧ (cs = [] ∨ ∃ b off C t fr, A = some ⟨b, off, none⟩ ∧ F b ∧ w.heap[b]? = some (.cells C t fr) ∧ (C.toList.drop off).take cs.length = cs)
/-- A row of cells that is held: from its block's first cell on. -/
def RowO (w : World) (F : Foot) (sz : Nat) (A : Option Addr) (n c : Nat) (cs : List Value) : Prop :=
  n ≤ c ∧ c ≤ 9223372036854775807 ∧ cs.length = n * sz ∧ ((c = 0 ∧ Plain A) ∨ ∃ b C t, A = some ⟨b, 0, none⟩ ∧ F b ∧ w.heap[b]? = some (.cells C t (0, 0)) ∧ C.size = c * sz ∧ C.toList.take (n * sz) = cs)

section
variable {w w' : World} {F F' : Foot} {A : Option Addr} {n c sz : Nat} {cs : List Value}
theorem RowR.loc (h : RowR w F A cs) (hk : ∀ k, F k → w'.heap[k]? = w.heap[k]?) : RowR w' F A cs :=
  ⟨h.1, h.2.imp id fun ⟨b, off, C, t, fr, e, hb, hh, ht⟩ => ⟨b, off, C, t, fr, e, hb, (hk b hb).trans hh, ht⟩⟩
theorem RowR.mono (h : RowR w F A cs) (hk : ∀ k, F k → F' k) : RowR w F' A cs :=
  ⟨h.1, h.2.imp id fun ⟨b, off, C, t, fr, e, hb, hh, ht⟩ => ⟨b, off, C, t, fr, e, hk b hb, hh, ht⟩⟩
theorem RowO.loc (h : RowO w F sz A n c cs) (hk : ∀ k, F k → w'.heap[k]? = w.heap[k]?) : RowO w' F sz A n c cs :=
  ⟨h.1, h.2.1, h.2.2.1, h.2.2.2.imp id fun ⟨b, C, t, e, hb, hh, hs, ht⟩ => ⟨b, C, t, e, hb, (hk b hb).trans hh, hs, ht⟩⟩
theorem RowO.mono (h : RowO w F sz A n c cs) (hk : ∀ k, F k → F' k) : RowO w F' sz A n c cs :=
  ⟨h.1, h.2.1, h.2.2.1, h.2.2.2.imp id fun ⟨b, C, t, e, hb, hh, hs, ht⟩ => ⟨b, C, t, e, hk b hb, hh, hs, ht⟩⟩
theorem RowO.toR (h : RowO w F sz A n c cs) : RowR w F A cs := by
  obtain ⟨h1, h2, h3, h4⟩ := h
  rcases h4 with ⟨hc, hp⟩ | ⟨b, C, t, e, hb, hh, hs, ht⟩
  · have : n = 0 := by omega
    subst this
    exact ⟨hp, .inl (List.eq_nil_of_length_eq_zero (by simpa using h3))⟩
  · refine ⟨trivial, .inr ⟨b, 0, C, t, (0, 0), e, hb, hh, ?_⟩⟩
    rw [h3]
    simpa using ht
theorem RowR.cell (h : RowR w F A cs) {j : Nat} {v : Value} (hv : cs[j]? = some v) : ∃ b off, A = some ⟨b, off, none⟩ ∧ w.cell? ⟨b, off + j, none⟩ = some v := by
  rcases h.2 with rfl | ⟨b, off, C, t, fr, e, hb, hh, ht⟩
  · simp at hv
  · refine ⟨b, off, e, ?_⟩
    have hlt : j < cs.length := by
      rcases Nat.lt_or_ge j cs.length with h' | h'
      · exact h'
      · simp [List.getElem?_eq_none h'] at hv
    rw [← ht, List.getElem?_take, if_pos hlt, List.getElem?_drop] at hv
    simp [World.cell?, hh]
    simpa using hv
end

def slR {α : Type} (d : Kd α) (w : World) (F : Foot) (xs : List α) (A : Option Addr) (n c : Nat) : Prop :=
  xs.length = n ∧ n ≤ c ∧ c ≤ 9223372036854775807 ∧ ∃ cs, RowR w F A cs ∧ RepsR d w F xs cs
def slO {α : Type} (d : Kd α) (w : World) (F : Foot) (xs : List α) (A : Option Addr) (n c : Nat) : Prop :=
  xs.length = n ∧ ∃ cs F1 F2, (∀ k, F1 k → F k) ∧ (∀ k, F2 k → F k) ∧ (∀ k, F1 k → ¬ F2 k) ∧ RowO w F1 d.sz A n c cs ∧ RepsO d w F2 xs cs

def kSl {α : Type} (d : Kd α) : Kd (List α) where
  sz := 1
  O w F xs cs := ∃ A n c, cs = [.slice A n c] ∧ slO d w F xs A n c
  R w F xs cs := ∃ A n c, cs = [.slice A n c] ∧ slR d w F xs A n c
  O_loc := fun ⟨A, n, c, e, h1, cs, F1, F2, s1, s2, dj, h2, h3⟩ hk => ⟨A, n, c, e, h1, cs, F1, F2, s1, s2, dj, h2.loc (fun k x => hk k (s1 k x)), h3.loc (fun k x => hk k (s2 k x))⟩
  O_mono := fun ⟨A, n, c, e, h1, cs, F1, F2, s1, s2, dj, h2, h3⟩ hk => ⟨A, n, c, e, h1, cs, F1, F2, fun k x => hk k (s1 k x), fun k x => hk k (s2 k x), dj, h2, h3⟩
  R_loc := fun ⟨A, n, c, e, h1, h2, h3, cs, h4, h5⟩ hk => ⟨A, n, c, e, h1, h2, h3, cs, h4.loc hk, h5.loc hk⟩
  R_mono := fun ⟨A, n, c, e, h1, h2, h3, cs, h4, h5⟩ hk => ⟨A, n, c, e, h1, h2, h3, cs, h4.mono hk, h5.mono hk⟩
  O_R := fun ⟨A, n, c, e, h1, cs, F1, F2, s1, s2, dj, h2, h3⟩ => ⟨A, n, c, e, h1, h2.1, h2.2.1, cs, h2.toR.mono s1, h3.toR.mono s2⟩
  len := fun ⟨A, n, c, e, _⟩ => by subst e; rfl
  one := fun ⟨A, n, c, e, _⟩ x hx => by subst e; simp at hx; subst hx; rfl
  pos := by omega

def own {α : Type} (d : Kd α) (x : α) (cs : List Value) : SP := ⟨fun w F => d.O w F x cs, d.O_loc, d.O_mono⟩
def rd {α : Type} (d : Kd α) (x : α) (cs : List Value) : SP := ⟨fun w F => d.R w F x cs, d.R_loc, d.R_mono⟩
/-- A slice that is held; one that is read. -/
abbrev osl {α : Type} (d : Kd α) (v : Value) (xs : List α) : SP := own (kSl d) xs [v]
abbrev rsl {α : Type} (d : Kd α) (v : Value) (xs : List α) : SP := rd (kSl d) xs [v]
theorem own_rd {α : Type} {d : Kd α} {x : α} {cs : List Value} {w : World} (F : Foot) (h : (own d x cs).P w F) : (rd d x cs).P w F := d.O_R h

section
variable {α : Type} {d : Kd α} {w0 w w' : World} {F F0 : Foot} {xs ys : List α} {v : Value} {As Rs : List SP}
theorem rsl_spec (h : (rsl d v xs).P w F) : ∃ A c, v = .slice A xs.length c ∧ xs.length ≤ c ∧ c ≤ 9223372036854775807 ∧ Plain A ∧ ∃ cs, RowR w F A cs ∧ RepsR d w F xs cs := by
  obtain ⟨A, n, c, e, h1, h2, h3, cs, h4, h5⟩ := h
  obtain rfl : v = .slice A n c := by simpa using e
  subst h1
  exact ⟨A, c, rfl, h2, h3, h4.1, cs, h4, h5⟩
theorem rsl_form (h : (rsl d v xs).P w F) : ∃ A c, v = .slice A xs.length c ∧ xs.length ≤ c ∧ c ≤ 9223372036854775807 ∧ Plain A := by
  obtain ⟨A, c, e, h1, h2, h3, _⟩ := rsl_spec h
  exact ⟨A, c, e, h1, h2, h3⟩
theorem Hd.form (H : Hd w0 F0 w As Rs) (hm : rsl d v xs ∈ Rs) : ∃ A c, v = .slice A xs.length c ∧ xs.length ≤ c ∧ c ≤ 9223372036854775807 ∧ Plain A := H.factR hm fun _ h => rsl_form h
theorem Hd.formO (H : Hd w0 F0 w As Rs) (hm : osl d v xs ∈ As) : ∃ A c, v = .slice A xs.length c ∧ xs.length ≤ c ∧ c ≤ 9223372036854775807 ∧ Plain A := H.fact hm fun F h => rsl_form (own_rd F h)
/-- An element that is read: its address; its cells; what they are. -/
theorem rsl_at {A : Option Addr} {m c : Nat} (h : (rsl d (.slice A m c) xs).P w F) {i : Nat} {x : α} (hx : xs[i]? = some x) :
    ∃ (b off : Nat) (cs : List Value), A = some ⟨b, off, none⟩ ∧ cs.length = d.sz ∧ (∀ j u, cs[j]? = some u → w.cell? ⟨b, off + i * d.sz + j, none⟩ = some u) ∧ d.R w F x cs := by
  obtain ⟨A', c', e, _, _, _, cs, h4, h5⟩ := rsl_spec h
  cases e
  obtain ⟨c0, h6, h7⟩ := h5.get hx
  have hl := d.len h6
  have hp := d.pos
  have key : ∀ j u, c0[j]? = some u → cs[i * d.sz + j]? = some u := by
    intro j u hu
    rw [← h7, List.getElem?_take] at hu
    split at hu
    · rwa [List.getElem?_drop] at hu
    · cases hu
  have h0 : ∃ u, c0[0]? = some u := ⟨c0[0], by simp [List.getElem?_eq_getElem (show 0 < c0.length by omega)]⟩
  obtain ⟨u0, hu0⟩ := h0
  obtain ⟨b, off, e, _⟩ := h4.cell (key 0 u0 hu0)
  refine ⟨b, off, c0, e, hl, fun j u hu => ?_, h6⟩
  obtain ⟨b', off', e', hc⟩ := h4.cell (key j u hu)
  rw [e] at e'
  cases e'
  rwa [← Nat.add_assoc] at hc
theorem Hd.at_ {A : Option Addr} {m c : Nat} (H : Hd w0 F0 w As Rs) (hm : rsl d (.slice A m c) xs ∈ Rs) {i : Nat} {x : α} (hx : xs[i]? = some x) :
    ∃ (b off : Nat) (cs : List Value), A = some ⟨b, off, none⟩ ∧ cs.length = d.sz ∧ (∀ j u, cs[j]? = some u → w.cell? ⟨b, off + i * d.sz + j, none⟩ = some u) := H.factR hm fun _ h => by
  obtain ⟨b, off, cs, h1, h2, h3, _⟩ := rsl_at h hx
  exact ⟨b, off, cs, h1, h2, h3⟩
/-- .. of a datum that leads nowhere. -/
theorem rsl_flat {enc : α → List Value} {sz : Nat} {hp : 0 < sz} {hl : ∀ x, (enc x).length = sz} {h1 : ∀ x, ∀ c ∈ enc x, c.oneCell' = true} {A : Option Addr} {m c : Nat} (h : (rsl (flat enc sz hp hl h1) (.slice A m c) xs).P w F) {i : Nat} {x : α} (hx : xs[i]? = some x) :
    ∃ b off, A = some ⟨b, off, none⟩ ∧ ∀ j u, (enc x)[j]? = some u → w.cell? ⟨b, off + i * sz + j, none⟩ = some u := by
  obtain ⟨b, off, cs, h1, h2, h3, h4⟩ := rsl_at h hx
  obtain rfl : cs = enc x := h4
  exact ⟨b, off, h1, h3⟩
end

/-! ### What is written: a block's cells -/
def puts : List Value → Nat → List Value → List Value
  | cs, _, [] => cs
  | cs, i, v :: vs => puts (cs.set i v) (i + 1) vs
theorem puts_length : ∀ (vs cs : List Value) (i : Nat), (puts cs i vs).length = cs.length
  | [], _, _ => rfl
  | _ :: vs, cs, i => by simp [puts, puts_length vs]

section
variable {P : Program} {w : World} {F : Foot}
theorem run_put {b : Nat} {t : TypeId} : ∀ (vs cs : List Value) (off i : Nat) (w : World), (blk b cs t).P w F → off + i + vs.length ≤ cs.length → (∀ v ∈ vs, v.oneCell' = true) →
    ∃ w', (storeCells ⟨b, off, none⟩ vs i).run P w = .ok () w' ∧ (blk b (puts cs (off + i) vs) t).P w' F ∧ Upd F w w'
  | [], cs, off, i, w, h, _, _ => ⟨w, by simp [storeCells], h, Upd.refl _ _⟩
  | v :: vs, cs, off, i, w, h, hl, h1 => by
    simp only [List.length_cons] at hl
    have hlt : off + i < cs.length := by omega
    have hc : w.cell? ⟨b, off + i, none⟩ = some cs[off + i] := blk_cell h (by simp [List.getElem?_eq_getElem hlt])
    obtain ⟨w', hr, hb, hu⟩ := run_put vs (cs.set (off + i) v) off (i + 1) (w.setCell ⟨b, off + i, none⟩ v) (blk_set h _ _) (by simp; omega) (fun v' hv => h1 v' (List.mem_cons_of_mem _ hv))
    refine ⟨w', ?_, by rw [puts]; exact Nat.add_assoc off i 1 ▸ hb, (Upd.setCell w ⟨b, off + i, none⟩ v h.1).trans hu (fun _ _ x => x)⟩
    simp only [storeCells, add_of, Sem.run_bind]
    rw [run_store P w _ v _ (h1 v (List.mem_cons_self ..))]
    simp only [stored, hc, blk_free h]
    exact hr
end

section
variable {P : Program} {ops : Array Oper} {Q : Exit → Act → World → Prop} {rest : List Oper} {n : Nat} {l : Env} {w0 w : World} {F0 : Foot} {o : Oper} {v : Value} {As Rs : List SP} {x y : Operand} {t : TypeId}

/-- 'store': into the block at the head of what is held. -/
theorem s_st {b off sz : Nat} {B : Bool} {cs : List Value} {bt : TypeId} (hg : gd ops l o = some true) (hd : o.dst = none) (ho : o.op = .store t x y) (ht : tyOf P t = some (B, sz)) (hx : ev l x = some (.pointer (some ⟨b, off, none⟩))) (hy : ev l y = some v)
    (H : Hd w0 F0 w (blk b cs bt :: As) Rs) (hs : v.cells.size = sz) (hl : off + sz ≤ cs.length) (h1 : ∀ u ∈ v.cells.toList, u.oneCell' = true) (h : ∀ w', Hd w0 F0 w' (blk b (puts cs off v.cells.toList) bt :: As) Rs → WL P ops Q rest n l w') : WL P ops Q (o :: rest) n l w := by
  obtain ⟨F, hb⟩ : ∃ F, (blk b cs bt).P w F := H.fact (List.mem_cons_self ..) fun F hb => ⟨F, hb⟩
  obtain ⟨w', hr, _, _⟩ := run_put (P := P) v.cells.toList cs off 0 w hb (by simp [hs]; omega) h1
  refine s_skip hg hd (w' := w') (fun a ha => ?_) (h w' (H.write fun F' hb' => ?_))
  · simp [execOp, ho, ha.eval hx, ha.eval hy, Instr.storeAt, Instr.sureAddr, storeVar, run_sizeOf ht, hs, hr]
  · obtain ⟨w'', hr', h2, h3⟩ := run_put (P := P) v.cells.toList cs off 0 w hb' (by simp [hs]; omega) h1
    rw [hr] at hr'
    cases hr'
    exact ⟨h2, h3⟩

/-- 'box': a new variable. -/
theorem s_box (hg : gd ops l o = some true) (hd : dok n o.dst = true) (ho : o.op = .box t x) (hx : ev l x = some v) (H : Hd w0 F0 w As Rs)
    (h : ∀ b w', Hd w0 F0 w' (blk b v.cells.toList t :: As) Rs → WL P ops Q rest n (upO l o.dst (.pointer (some ⟨b, 0, none⟩))) w') : WL P ops Q (o :: rest) n l w := by
  refine s_val (w' := w.alloc (.cells v.cells t)) hg hd (v := .pointer (some ⟨w.heap.size, 0, none⟩)) (fun a ha => ?_) (h _ _ ?_)
  · simp [execOp, ho, ha.eval hx, Instr.box, newVar, newRow]
  · have := H.alloc v.cells.toList t
    simpa using this
/-- 'alloc': a new variable, zero. -/
theorem s_alloc {z : Value} (hg : gd ops l o = some true) (hd : dok n o.dst = true) (ho : o.op = .alloc t) (hz : zrOf P t = some z) (H : Hd w0 F0 w As Rs)
    (h : ∀ b w', Hd w0 F0 w' (blk b z.cells.toList t :: As) Rs → WL P ops Q rest n (upO l o.dst (.pointer (some ⟨b, 0, none⟩))) w') : WL P ops Q (o :: rest) n l w := by
  obtain ⟨i, hi, hz'⟩ := Option.bind_eq_some_iff.1 hz
  refine s_val (w' := w.alloc (.cells z.cells t)) hg hd (v := .pointer (some ⟨w.heap.size, 0, none⟩)) (fun a ha => ?_) (h _ _ ?_)
  · simp [execOp, ho, Instr.alloc, zeroValue, typeInfo, hi, hz', newVar, newRow]
  · have := H.alloc z.cells.toList t
    simpa using this

/-- 'Instr.fill', over lists. -/
def fillL (place : Nat → Option (Nat × Nat)) : List Value → List (Nat × Value) → Option (List Value)
  | cs, [] => some cs
  | cs, (i, v) :: rest =>
    match place i with
    | none => none
    | some (off, size) => match Nat.decEq v.cells.size size, Nat.decLe (off + size) cs.length with
      | .isTrue _, .isTrue _ => fillL place (puts cs off v.cells.toList) rest
      | _, _ => none
theorem foldl_puts : ∀ (vs : List Value) (k off : Nat) (A : Array Value), ((vs.zipIdx k).foldl (fun cs (p : Value × Nat) => cs.setIfInBounds (off + p.2) p.1) A).toList = puts A.toList (off + k) vs
  | [], _, _, _ => rfl
  | v :: vs, k, off, A => by
    rw [List.zipIdx_cons, List.foldl_cons, foldl_puts vs (k + 1) off]
    simp [puts, Nat.add_assoc]
theorem fill_eq {place : Nat → Option (Nat × Nat)} : ∀ {parts : List (Nat × Value)} {A : Array Value} {cs : List Value}, fillL place A.toList parts = some cs → Instr.fill place A parts = some cs.toArray
  | [], A, cs, h => by
    have : A.toList = cs := by simpa [fillL] using h
    subst this
    simp [Instr.fill]
  | (i, v) :: rest, A, cs, h => by
    simp only [fillL] at h
    simp only [Instr.fill]
    split at h
    · cases h
    · rename_i off size hp
      simp only [hp]
      split at h
      · rename_i e1 _ e2 _
        have e3 : A.toList.length = A.size := Array.length_toList
        rw [if_neg (by simp at e2 ⊢; omega)]
        refine fill_eq ?_
        have := foldl_puts v.cells.toList 0 off A
        rw [Nat.add_zero] at this
        rw [← h, ← this]
        congr 2
        rw [← Array.foldl_toList]
        simp
      · cases h
theorem zeros_flat {z : List Value} {sz : Nat} (hz : z.length = sz) (hp : 0 < sz) (c : Nat) : (List.range (c * sz)).map (fun j => z[j % z.length]!) = (List.replicate c ()).flatMap fun _ => z := by
  have hfl : ∀ c, ((List.replicate c ()).flatMap fun _ => z).length = c * sz := by
    intro c
    induction c with
    | zero => simp
    | succ c ih => rw [List.replicate_succ, List.flatMap_cons, List.length_append, ih, hz, Nat.succ_mul, Nat.add_comm]
  have hd : ∀ c i, ((List.replicate c ()).flatMap fun _ => z).drop (i * sz) = (List.replicate (c - i) ()).flatMap fun _ => z := by
    intro c i
    induction i generalizing c with
    | zero => simp
    | succ i ih =>
      cases c with
      | zero => simp
      | succ c =>
        rw [List.replicate_succ, List.flatMap_cons, Nat.succ_mul, Nat.add_comm (i * sz), ← hz, List.drop_length_add_append, hz, ih]
        congr 2
        omega
  apply List.ext_getElem
  · rw [hfl]; simp
  · intro j h1 h2
    simp only [List.getElem_map, List.getElem_range]
    simp at h1
    have hdj : j = j / sz * sz + j % sz := by rw [Nat.mul_comm]; exact (Nat.div_add_mod j sz).symm
    have hjd : j / sz < c := Nat.div_lt_of_lt_mul (by rw [Nat.mul_comm]; exact h1)
    have hjm : j % sz < sz := Nat.mod_lt _ hp
    have h4 : (((List.replicate c ()).flatMap fun _ => z).drop (j / sz * sz))[j % sz]? = z[j % sz]? := by
      obtain ⟨r, hr⟩ : ∃ r, c - j / sz = r + 1 := ⟨c - j / sz - 1, by omega⟩
      rw [hd, hr, List.replicate_succ, List.flatMap_cons, List.getElem?_append_left (by omega)]
    rw [List.getElem?_drop, ← hdj, List.getElem?_eq_getElem h2, List.getElem?_eq_getElem (by omega)] at h4
    rw [hz, getElem!_pos z _ (by omega)]
    exact (Option.some.inj h4).symm

/-- A struct made of its parts: the zero's cells; each field's place and cells. -/
def bdOf (P : Program) (t : TypeId) : Option (Array Value × Array (Nat × Nat)) :=
  match P.underlying t with
  | some (.struct fs) => match zrOf P t, fs.mapM fun f => (P.info? f.type).map fun i => (f.offset, i.size) with
    | some z, some ps => some (z.cells, ps)
    | _, _ => none
  | _ => none
theorem run_places (w : World) : ∀ (fs : List Field) (ps : List (Nat × Nat)), (fs.mapM fun f => (P.info? f.type).map fun i => (f.offset, i.size)) = some ps → (fs.mapM fun f => (do pure (f.offset, ← sizeOf f.type) : Sem (Nat × Nat))).run P w = .ok ps w := by
  intro fs
  induction fs with
  | nil => intro ps h; simp at h; subst h; rfl
  | cons f fs ih =>
    intro ps h
    simp only [List.mapM_cons, Option.bind_eq_bind, Option.bind_eq_some_iff, Option.pure_def, Option.some.injEq] at h
    obtain ⟨p, hp, qs, hq, rfl⟩ := h
    obtain ⟨i, hi, rfl⟩ := Option.map_eq_some_iff.1 hp
    simp [List.mapM_cons, sizeOf, typeInfo, hi] at ih ⊢
    simp [ih qs hq]
theorem r_bd {parts : List (Nat × Operand)} {vs : List Value} {z : Array Value} {ps : Array (Nat × Nat)} {cs : List Value} (ho : o.op = .build t parts.toArray) (hb : bdOf P t = some (z, ps)) (hx : (parts.map fun p => ev l p.2) = vs.map some)
    (hf : fillL (ps[·]?) z.toList ((parts.map (·.1)).zip vs) = some cs) : Run P n l w o (.agg cs.toArray) w := by
  replace hf := fill_eq hf
  unfold bdOf at hb
  split at hb
  · rename_i fs hu
    split at hb
    · rename_i z' ps' hz hp
      simp only [Option.some.injEq, Prod.mk.injEq] at hb
      obtain ⟨rfl, rfl⟩ := hb
      obtain ⟨i, hi, hz'⟩ := Option.bind_eq_some_iff.1 hz
      intro a ha
      have hx' : ∀ (ps : List (Nat × Operand)) (vs : List Value), (ps.map fun p => ev l p.2) = vs.map some → (ps.map fun p => (p.1, a.eval p.2)) = (ps.map (·.1)).zip vs := by
        intro ps
        induction ps with
        | nil => intro vs h; cases vs <;> simp_all
        | cons p ps ih =>
          intro vs h
          cases vs with
          | nil => simp at h
          | cons v vs =>
            simp only [List.map_cons, List.cons.injEq, List.zip_cons_cons] at h ⊢
            exact ⟨by rw [ha.eval h.1], ih vs h.2⟩
      have hm : (fs.mapM fun f => (do pure (f.offset, ← sizeOf f.type) : Sem (Nat × Nat))).run P w = .ok ps' w := by
        have h1 : fs.toList.mapM (fun f => (P.info? f.type).map fun i => (f.offset, i.size)) = some ps'.toList := by
          have := congrArg (Option.map Array.toList) hp
          rw [Array.mapM_eq_mapM_toList] at hp
          cases h : fs.toList.mapM (fun f => (P.info? f.type).map fun i => (f.offset, i.size)) with
          | none => simp [h] at hp
          | some q => simp [h] at hp; simp [← hp]
        rw [Array.mapM_eq_mapM_toList]
        have h2 := run_places (P := P) w fs.toList ps'.toList h1
        simp only [Sem.run_map, h2, Result.andThen_ok]
      have hx2 := hx' parts vs hx
      have hm2 : (parts.toArray.map fun (x : Nat × Operand) => match x with | (i, x) => (i, a.eval x)).toList = (parts.map (·.1)).zip vs := by
        rw [← hx2]
        simp
      unfold execOp
      simp only [ho, Instr.build, Sem.run_bind, zeroValue, typeInfo, run_program, hi, hz', run_underlying hu, hm, Sem.run_pure, Result.andThen_ok, hm2, hf]
    · simp at hb
  · simp at hb

/-- '[]T{..}' of values given. -/
theorem s_bsl {parts : List (Nat × Operand)} {vs : List Value} {m e size bytes : Nat} {z : Value} {cs : List Value} (hg : gd ops l o = some true) (hd : dok n o.dst = true) (ho : o.op = .buildSlice t m parts.toArray)
    (hs : slOf P t = some (e, size, bytes)) (hz : zrOf P e = some z) (hzs : z.cells.toList.length = size) (h0 : m * size ≠ 0) (h1 : ¬ m * size > 2 ^ 24) (hx : (parts.map fun p => ev l p.2) = vs.map some)
    (hf : fillL (fun i => some (i * size, size)) ((List.replicate m ()).flatMap fun _ => z.cells.toList) ((parts.map (·.1)).zip vs) = some cs) (H : Hd w0 F0 w As Rs)
    (h : ∀ b w', Hd w0 F0 w' (blk b cs e :: As) Rs → WL P ops Q rest n (upO l o.dst (.slice (some ⟨b, 0, none⟩) m m)) w') : WL P ops Q (o :: rest) n l w := by
  obtain ⟨hu, inf, hi, hsz, _⟩ := slOf_spec hs
  obtain ⟨i, hi', hz'⟩ := Option.bind_eq_some_iff.1 hz
  rw [hi] at hi'
  cases hi'
  have hpos : 0 < size := by
    rcases Nat.eq_zero_or_pos size with h | h
    · rw [h] at h0; simp at h0
    · exact h
  have hz2 : ((Array.range (m * size)).map (z.cells[· % z.cells.size]!)).toList = (List.replicate m ()).flatMap fun _ => z.cells.toList := by
    rw [← zeros_flat hzs hpos m]
    simp
    intro a _
    rw [getElem!_def]
    cases z.cells[a % z.cells.size]? <;> rfl
  rw [← hz2] at hf
  replace hf := fill_eq hf
  refine s_val (w' := w.alloc (.cells cs.toArray e)) hg hd (v := .slice (some ⟨w.heap.size, 0, none⟩) m m) (fun a ha => ?_) (h _ _ ?_)
  · have hx' : ∀ (ps : List (Nat × Operand)) (vs : List Value), (ps.map fun p => ev l p.2) = vs.map some → (ps.map fun p => (p.1, a.eval p.2)) = (ps.map (·.1)).zip vs := by
      intro ps
      induction ps with
      | nil => intro vs h; cases vs <;> simp_all
      | cons p ps ih =>
        intro vs h
        cases vs with
        | nil => simp at h
        | cons v vs =>
          simp only [List.map_cons, List.cons.injEq, List.zip_cons_cons] at h ⊢
          exact ⟨by rw [ha.eval h.1], ih vs h.2⟩
    have hm2 : (parts.toArray.map fun (x : Nat × Operand) => match x with | (i, x) => (i, a.eval x)).toList = (parts.map (·.1)).zip vs := by
      rw [← hx' parts vs hx]
      simp
    unfold execOp
    simp only [ho, Instr.buildSlice, Sem.run_bind, run_underlying hu, sizeOf, zeroValue, typeInfo, run_program, hi, hz', hsz, if_neg h1, if_neg h0, Sem.run_pure, Result.andThen_ok, hm2, hf, newRow, run_newObj]
    simp
  · exact H.alloc cs e
end
end Go.Proofs.YtlpgdkbokakniaaGreatDoor.X
