/- A small logic of memory: what a call may turn, what it holds, what it is lent; and how that goes on from world to world. No program in sight. -/
import Derived.Tactics
import Derived.Deep.Quiet
import Derived.Below
namespace Go.Proofs.YtlpgdkbokakniaaGreatDoor.X
open Go

/-- A set of blocks. -/
abbrev Foot := Nat → Prop
def none_ : Foot := fun _ => False

/-- From w to w' no block outside S has turned. -/
structure Upd (S : Foot) (w w' : World) : Prop where
  os : w'.os = w.os
  tape : w'.tape = w.tape
  output : w'.output = w.output
  size : w.heap.size ≤ w'.heap.size
  block : ∀ k, k < w.heap.size → ¬ S k → w'.heap[k]? = w.heap[k]?

theorem Upd.refl (S : Foot) (w : World) : Upd S w w := ⟨rfl, rfl, rfl, Nat.le_refl _, fun _ _ _ => rfl⟩
theorem Upd.trans {S S1 : Foot} {a b c : World} (h : Upd S a b) (k : Upd S1 b c) (hs : ∀ i, i < a.heap.size → S1 i → S i) : Upd S a c :=
  ⟨k.os.trans h.os, k.tape.trans h.tape, k.output.trans h.output, Nat.le_trans h.size k.size,
   fun i hi hn => (k.block i (Nat.lt_of_lt_of_le hi h.size) (fun x => hn (hs i hi x))).trans (h.block i hi hn)⟩
theorem Upd.below {w w' : World} (h : Upd none_ w w') : Go.RowKit.Below w.heap.size w w' :=
  ⟨h.os, h.tape, h.output, h.size, fun k hk => h.block k hk id⟩
theorem Upd.drewN (S : Foot) (w : World) (n : Nat) : Upd S w (w.drewN n) := ⟨rfl, rfl, rfl, Nat.le_refl _, fun _ _ _ => rfl⟩
theorem Upd.alloc (S : Foot) (w : World) (o : Obj) : Upd S w (w.alloc o) :=
  ⟨rfl, rfl, rfl, by simp, fun k hk _ => Go.RowKit.Below.heap_alloc w o k hk⟩
theorem Upd.setCell {S : Foot} (w : World) (a : Addr) (v : Value) (h : S a.block) : Upd S w (w.setCell a v) :=
  ⟨rfl, rfl, rfl, by simp, fun k _ hn => Go.RowKit.Below.heap_setCell w a v k (fun e => hn (e ▸ h))⟩

/-- What is said of the blocks of a foot, and of no other. -/
structure SP where
  P : World → Foot → Prop
  loc : ∀ {w w' : World} {F : Foot}, P w F → (∀ k, F k → w'.heap[k]? = w.heap[k]?) → P w' F
  mono : ∀ {w : World} {F F' : Foot}, P w F → (∀ k, F k → F' k) → P w F'

def Star : List SP → World → Foot → Prop
  | [], _, _ => True
  | A :: As, w, F => ∃ F1 F2 : Foot, (∀ k, F1 k → F k) ∧ (∀ k, F2 k → F k) ∧ (∀ k, F1 k → ¬ F2 k) ∧ A.P w F1 ∧ Star As w F2

theorem Star.loc : ∀ {As : List SP} {w w' : World} {F : Foot}, Star As w F → (∀ k, F k → w'.heap[k]? = w.heap[k]?) → Star As w' F
  | [], _, _, _, _, _ => trivial
  | _ :: _, _, _, _, ⟨F1, F2, h1, h2, h3, a, s⟩, h => ⟨F1, F2, h1, h2, h3, SP.loc _ a (fun k hk => h k (h1 k hk)), Star.loc s (fun k hk => h k (h2 k hk))⟩
theorem Star.mono : ∀ {As : List SP} {w : World} {F F' : Foot}, Star As w F → (∀ k, F k → F' k) → Star As w F'
  | [], _, _, _, _, _ => trivial
  | _ :: _, _, _, _, ⟨F1, F2, h1, h2, h3, a, s⟩, h => ⟨F1, F2, fun k hk => h k (h1 k hk), fun k hk => h k (h2 k hk), h3, a, s⟩

theorem Star.append_out : ∀ {As Bs : List SP} {w : World} {F : Foot}, Star (As ++ Bs) w F →
    ∃ F1 F2 : Foot, (∀ k, F1 k → F k) ∧ (∀ k, F2 k → F k) ∧ (∀ k, F1 k → ¬ F2 k) ∧ Star As w F1 ∧ Star Bs w F2
  | [], _, _, F, h => ⟨none_, F, fun _ h => h.elim, fun _ h => h, fun _ h => h.elim, trivial, h⟩
  | _ :: As, Bs, w, F, ⟨F1, F2, h1, h2, h3, a, s⟩ => by
    obtain ⟨G1, G2, g1, g2, g3, sa, sb⟩ := Star.append_out (As := As) (Bs := Bs) s
    refine ⟨fun k => F1 k ∨ G1 k, G2, fun k hk => hk.elim (h1 k) (fun x => h2 k (g1 k x)), fun k hk => h2 k (g2 k hk), ?_, ⟨F1, G1, fun _ => .inl, fun _ => .inr, fun k a b => h3 k a (g1 k b), a, sa⟩, sb⟩
    intro k hk hg
    exact hk.elim (fun x => h3 k x (g2 k hg)) (fun x => g3 k x hg)

theorem Star.append_in : ∀ {As Bs : List SP} {w : World} {F F1 F2 : Foot}, (∀ k, F1 k → F k) → (∀ k, F2 k → F k) → (∀ k, F1 k → ¬ F2 k) → Star As w F1 → Star Bs w F2 → Star (As ++ Bs) w F
  | [], _, _, _, _, _, _, h2, _, _, b => Star.mono b h2
  | _ :: As, Bs, _, F, F1, F2, h1, h2, h3, ⟨G1, G2, g1, g2, g3, a, s⟩, b => by
    refine ⟨G1, fun k => G2 k ∨ F2 k, fun k hk => h1 k (g1 k hk), fun k hk => hk.elim (fun x => h1 k (g2 k x)) (h2 k), ?_, a,
      Star.append_in (fun _ => .inl) (fun _ => .inr) (fun k x y => h3 k (g2 k x) y) s b⟩
    intro k hk hg
    exact hg.elim (fun x => g3 k hk x) (fun x => h3 k (g1 k hk) x)

theorem Star.perm {As Bs : List SP} (p : As.Perm Bs) : ∀ {w : World} {F : Foot}, Star As w F → Star Bs w F := by
  induction p with
  | nil => exact fun h => h
  | cons x _ ih => exact fun ⟨F1, F2, h1, h2, h3, a, s⟩ => ⟨F1, F2, h1, h2, h3, a, ih s⟩
  | swap x y l =>
    rintro w F ⟨F1, F2, h1, h2, h3, a, G1, G2, g1, g2, g3, b, s⟩
    refine ⟨G1, fun k => F1 k ∨ G2 k, fun k hk => h2 k (g1 k hk), fun k hk => hk.elim (h1 k) (fun x => h2 k (g2 k x)), ?_, b, F1, G2, fun _ => .inl, fun _ => .inr, fun k x y => h3 k x (g2 k y), a, s⟩
    intro k hk hg
    exact hg.elim (fun x => h3 k x (g1 k hk)) (fun x => g3 k hk x)
  | trans _ _ ih1 ih2 => exact fun h => ih2 (ih1 h)

theorem Star.mem : ∀ {As : List SP} {w : World} {F : Foot} {A : SP}, Star As w F → A ∈ As → A.P w F
  | _ :: _, _, _, _, ⟨_, _, h1, h2, _, a, s⟩, h => by
    cases h with
    | head => exact SP.mono _ a h1
    | tail _ hm => exact SP.mono _ (Star.mem s hm) h2

/-- w: the world that stands; w0: the one in which the call began, F0: what it may turn. As: what is held, each apart from all others; Rs: what is lent, to be read alone. -/
def Hd (w0 : World) (F0 : Foot) (w : World) (As Rs : List SP) : Prop :=
  ∃ F G : Foot, Star As w F ∧ (∀ R ∈ Rs, R.P w G) ∧ (∀ k, F k → ¬ G k) ∧ (∀ k, F k → k < w.heap.size ∧ (F0 k ∨ w0.heap.size ≤ k)) ∧ (∀ k, G k → k < w.heap.size) ∧ Upd F0 w0 w

section
variable {w0 w : World} {F0 : Foot} {As Bs Rs : List SP} {A B R : SP}

theorem Hd.upd (h : Hd w0 F0 w As Rs) : Upd F0 w0 w := by obtain ⟨_, _, _, _, _, _, _, u⟩ := h; exact u
theorem Hd.perm (p : As.Perm Bs) (h : Hd w0 F0 w As Rs) : Hd w0 F0 w Bs Rs := by
  obtain ⟨F, G, s, r, d, f, g, u⟩ := h
  exact ⟨F, G, s.perm p, r, d, f, g, u⟩
theorem Hd.subR {Ss : List SP} (h : Hd w0 F0 w As Rs) (hs : ∀ R ∈ Ss, R ∈ Rs) : Hd w0 F0 w As Ss := by
  obtain ⟨F, G, s, r, d, f, g, u⟩ := h
  exact ⟨F, G, s, fun R hR => r R (hs R hR), d, f, g, u⟩
theorem Hd.drop (h : Hd w0 F0 w (A :: As) Rs) : Hd w0 F0 w As Rs := by
  obtain ⟨F, G, ⟨F1, F2, h1, h2, h3, a, s⟩, r, d, f, g, u⟩ := h
  exact ⟨F2, G, s, r, fun k hk => d k (h2 k hk), fun k hk => f k (h2 k hk), g, u⟩
theorem Hd.nil (h : Hd w0 F0 w As Rs) : Hd w0 F0 w [] Rs := by
  obtain ⟨F, G, s, r, d, f, g, u⟩ := h
  exact ⟨F, G, trivial, r, d, f, g, u⟩
/-- Something that follows of what is held, its foot the same. -/
theorem Hd.turn (h : Hd w0 F0 w (A :: As) Rs) (hab : ∀ F, A.P w F → B.P w F) : Hd w0 F0 w (B :: As) Rs := by
  obtain ⟨F, G, ⟨F1, F2, h1, h2, h3, a, s⟩, r, d, f, g, u⟩ := h
  exact ⟨F, G, ⟨F1, F2, h1, h2, h3, hab _ a, s⟩, r, d, f, g, u⟩
/-- .. of two. -/
theorem Hd.turn2 {C : SP} (h : Hd w0 F0 w (A :: B :: As) Rs) (hab : ∀ F1 F2, (∀ k, F1 k → ¬ F2 k) → A.P w F1 → B.P w F2 → C.P w (fun k => F1 k ∨ F2 k)) : Hd w0 F0 w (C :: As) Rs := by
  obtain ⟨F, G, ⟨F1, F2, h1, h2, h3, a, G1, G2, g1, g2, g3, b, s⟩, r, d, f, g, u⟩ := h
  refine ⟨F, G, ⟨fun k => F1 k ∨ G1 k, G2, fun k hk => hk.elim (h1 k) (fun x => h2 k (g1 k x)), fun k hk => h2 k (g2 k hk), ?_, hab F1 G1 (fun k x y => h3 k x (g1 k y)) a b, s⟩, r, d, f, g, u⟩
  intro k hk hg
  exact hk.elim (fun x => h3 k x (g2 k hg)) (fun x => g3 k x hg)
/-- One that falls into several. -/
theorem Hd.open_ (h : Hd w0 F0 w (A :: As) Rs) (hab : ∀ F, A.P w F → Star Bs w F) : Hd w0 F0 w (Bs ++ As) Rs := by
  obtain ⟨F, G, ⟨F1, F2, h1, h2, h3, a, s⟩, r, d, f, g, u⟩ := h
  exact ⟨F, G, Star.append_in h1 h2 h3 (hab _ a) s, r, d, f, g, u⟩
/-- Several that make one. -/
theorem Hd.shut (h : Hd w0 F0 w (Bs ++ As) Rs) (hab : ∀ F, Star Bs w F → A.P w F) : Hd w0 F0 w (A :: As) Rs := by
  obtain ⟨F, G, s, r, d, f, g, u⟩ := h
  obtain ⟨F1, F2, h1, h2, h3, sa, sb⟩ := s.append_out
  exact ⟨F, G, ⟨F1, F2, h1, h2, h3, hab _ sa, sb⟩, r, d, f, g, u⟩
/-- What is held is lent to oneself, for good. -/
theorem Hd.lend (h : Hd w0 F0 w (A :: As) Rs) (hab : ∀ F, A.P w F → R.P w F) : Hd w0 F0 w As (R :: Rs) := by
  obtain ⟨F, G, ⟨F1, F2, h1, h2, h3, a, s⟩, r, d, f, g, u⟩ := h
  refine ⟨F2, fun k => F1 k ∨ G k, s, ?_, ?_, fun k hk => f k (h2 k hk), ?_, u⟩
  · intro R' hR
    cases hR with
    | head => exact SP.mono _ (hab _ a) (fun _ => .inl)
    | tail _ hm => exact SP.mono _ (r R' hm) (fun _ => .inr)
  · intro k hk hg
    exact hg.elim (fun x => h3 k x hk) (fun x => d k (h2 k hk) x)
  · intro k hk
    exact hk.elim (fun x => (f k (h1 k x)).1) (g k)
/-- What follows of what is lent is lent, too. -/
theorem Hd.addR (h : Hd w0 F0 w As Rs) (hab : ∀ G, (∀ R ∈ Rs, R.P w G) → R.P w G) : Hd w0 F0 w As (R :: Rs) := by
  obtain ⟨F, G, s, r, d, f, g, u⟩ := h
  refine ⟨F, G, s, ?_, d, f, g, u⟩
  intro R' hR
  cases hR with
  | head => exact hab G r
  | tail _ hm => exact r R' hm
/-- A fact that holds whatever the foot is. -/
theorem Hd.read {p : Prop} (h : Hd w0 F0 w As Rs) (hA : ∀ F, (∀ A ∈ As, A.P w F) → (∀ R ∈ Rs, R.P w F) → p) : p := by
  obtain ⟨F, G, s, r, d, f, g, u⟩ := h
  exact hA (fun k => F k ∨ G k) (fun A hm => SP.mono _ (s.mem hm) (fun _ => .inl)) (fun R hm => SP.mono _ (r R hm) (fun _ => .inr))
theorem Hd.fact {p : Prop} (h : Hd w0 F0 w As Rs) (hm : A ∈ As) (hA : ∀ F, A.P w F → p) : p := h.read fun F a _ => hA F (a A hm)
theorem Hd.factR {p : Prop} (h : Hd w0 F0 w As Rs) (hm : R ∈ Rs) (hA : ∀ F, R.P w F → p) : p := h.read fun F _ r => hA F (r R hm)

theorem Hd.drewN (h : Hd w0 F0 w As Rs) (n : Nat) : Hd w0 F0 (w.drewN n) As Rs := by
  obtain ⟨F, G, s, r, d, f, g, u⟩ := h
  exact ⟨F, G, s.loc (fun _ _ => rfl), fun R hR => SP.loc _ (r R hR) (fun _ _ => rfl), d, f, g, u.trans (Upd.drewN none_ w n) (fun _ _ x => x.elim)⟩

/-- The frame: a callee is handed some of what is held, and lent what follows of the rest; the rest stays as it is. -/
theorem Hd.frame {Cs Ss : List SP} (h : Hd w0 F0 w (Cs ++ As) Rs) (hS : ∀ S ∈ Ss, ∀ F, (∀ A ∈ As, A.P w F) → (∀ R ∈ Rs, R.P w F) → S.P w F) :
    ∃ Fc, Hd w Fc w Cs Ss ∧ ∀ w' Cs', Hd w Fc w' Cs' Ss → Hd w0 F0 w' (Cs' ++ As) Rs := by
  obtain ⟨F, G, s, r, d, f, g, u⟩ := h
  obtain ⟨F1, F2, h1, h2, h3, sc, sa⟩ := s.append_out
  refine ⟨F1, ⟨F1, fun k => F2 k ∨ G k, sc, ?_, ?_, fun k hk => ⟨(f k (h1 k hk)).1, .inl hk⟩, ?_, Upd.refl _ _⟩, ?_⟩
  · intro S hm
    exact hS S hm _ (fun A ha => SP.mono _ (sa.mem ha) (fun _ => .inl)) (fun R hr => SP.mono _ (r R hr) (fun _ => .inr))
  · intro k hk hg
    exact hg.elim (h3 k hk) (d k (h1 k hk))
  · intro k hk
    exact hk.elim (fun x => (f k (h2 k x)).1) (g k)
  · rintro w' Cs' ⟨F', G', s', _, _, f', _, u'⟩
    refine ⟨fun k => F' k ∨ F2 k, G, Star.append_in (fun _ => .inl) (fun _ => .inr) ?_ s' (sa.loc ?_), ?_, ?_, ?_, ?_, ?_⟩
    · intro k hk hg
      have hlt := (f k (h2 k hg)).1
      exact (f' k hk).2.elim (fun x => h3 k x hg) (fun x => by omega)
    · intro k hk
      exact u'.block k (f k (h2 k hk)).1 (fun x => h3 k x hk)
    · intro R hm
      exact SP.loc _ (r R hm) (fun k hk => u'.block k (g k hk) (fun x => d k (h1 k x) hk))
    · intro k hk hg
      refine hk.elim (fun x => ?_) (fun x => d k (h2 k x) hg)
      have hlt := g k hg
      exact (f' k x).2.elim (fun y => d k (h1 k y) hg) (fun y => by omega)
    · intro k hk
      refine hk.elim (fun x => ⟨(f' k x).1, ?_⟩) (fun x => ⟨Nat.lt_of_lt_of_le (f k (h2 k x)).1 u'.size, (f k (h2 k x)).2⟩)
      exact (f' k x).2.elim (fun y => (f k (h1 k y)).2) (fun y => .inr (Nat.le_trans u.size y))
    · intro k hk
      exact Nat.lt_of_lt_of_le (g k hk) u'.size
    · exact u.trans u' (fun i hi x => (f i (h1 i x)).2.elim id (fun y => by omega))
end

/-- A block of cells, held whole. -/
def blk (b : Nat) (cs : List Value) (t : TypeId) : SP where
  P w F := F b ∧ w.heap[b]? = some (.cells cs.toArray t (0, 0))
  loc h hk := ⟨h.1, (hk b h.1).trans h.2⟩
  mono h hs := ⟨hs b h.1, h.2⟩

def pure_ (p : Prop) : SP where
  P _ _ := p
  loc h _ := h
  mono h _ := h

def star (As : List SP) : SP where
  P := Star As
  loc := Star.loc
  mono := Star.mono

def ex {α : Sort _} (A : α → SP) : SP where
  P w F := ∃ a, (A a).P w F
  loc h hk := h.elim fun a ha => ⟨a, SP.loc _ ha hk⟩
  mono h hs := h.elim fun a ha => ⟨a, SP.mono _ ha hs⟩

section
variable {w0 w : World} {F0 : Foot} {As Rs : List SP} {b : Nat} {cs : List Value} {t : TypeId}

theorem blk_cell {F : Foot} (h : (blk b cs t).P w F) {i : Nat} {v : Value} (hv : cs[i]? = some v) : w.cell? ⟨b, i, none⟩ = some v := by
  simp [World.cell?, h.2, hv]
theorem blk_free {F : Foot} (h : (blk b cs t).P w F) (i : Nat) : w.frozen? ⟨b, i, none⟩ = false := by
  simp [World.frozen?, h.2]
theorem blk_lt {F : Foot} (h : (blk b cs t).P w F) : b < w.heap.size := (Array.getElem?_eq_some_iff.1 h.2).1
theorem blk_set {F : Foot} (h : (blk b cs t).P w F) (i : Nat) (v : Value) : (blk b (cs.set i v) t).P (w.setCell ⟨b, i, none⟩ v) F := by
  refine ⟨h.1, ?_⟩
  have h2 := h.2
  simp only [World.setCell, Array.getElem?_modify, ↓reduceIte, h2, Option.map_some]
  simp

theorem Hd.cell (h : Hd w0 F0 w As Rs) (hm : blk b cs t ∈ As) {i : Nat} {v : Value} (hv : cs[i]? = some v) : w.cell? ⟨b, i, none⟩ = some v := h.fact hm fun _ x => blk_cell x hv
theorem Hd.cellR (h : Hd w0 F0 w As Rs) (hm : blk b cs t ∈ Rs) {i : Nat} {v : Value} (hv : cs[i]? = some v) : w.cell? ⟨b, i, none⟩ = some v := h.factR hm fun _ x => blk_cell x hv
theorem Hd.free (h : Hd w0 F0 w As Rs) (hm : blk b cs t ∈ As) (i : Nat) : w.frozen? ⟨b, i, none⟩ = false := h.fact hm fun _ x => blk_free x i

/-- What is held at the head turns, its blocks alone. -/
theorem Hd.write {A B : SP} {w' : World} (h : Hd w0 F0 w (A :: As) Rs) (hab : ∀ F, A.P w F → B.P w' F ∧ Upd F w w') : Hd w0 F0 w' (B :: As) Rs := by
  obtain ⟨F, G, ⟨F1, F2, h1, h2, h3, a, s⟩, r, d, f, g, u⟩ := h
  obtain ⟨hb, ub⟩ := hab _ a
  refine ⟨F, G, ⟨F1, F2, h1, h2, h3, hb, s.loc ?_⟩, ?_, d, ?_, ?_, ?_⟩
  · exact fun k hk => ub.block k (f k (h2 k hk)).1 (fun x => h3 k x hk)
  · exact fun R hm => SP.loc _ (r R hm) (fun k hk => ub.block k (g k hk) (fun x => d k (h1 k x) hk))
  · exact fun k hk => ⟨Nat.lt_of_lt_of_le (f k hk).1 ub.size, (f k hk).2⟩
  · exact fun k hk => Nat.lt_of_lt_of_le (g k hk) ub.size
  · exact u.trans ub (fun i hi x => (f i (h1 i x)).2.elim id (fun y => by omega))

/-- .. and may grow by blocks that are new. -/
theorem Hd.grow {A B : SP} {w' : World} (h : Hd w0 F0 w (A :: As) Rs) (hab : ∀ F, A.P w F → (∀ k, F k → k < w.heap.size) → ∃ F', B.P w' F' ∧ Upd F w w' ∧ ∀ k, F' k → k < w'.heap.size ∧ (F k ∨ w.heap.size ≤ k)) : Hd w0 F0 w' (B :: As) Rs := by
  obtain ⟨F, G, ⟨F1, F2, h1, h2, h3, a, s⟩, r, d, f, g, u⟩ := h
  obtain ⟨F', hb, ub, hF'⟩ := hab _ a (fun k hk => (f k (h1 k hk)).1)
  refine ⟨fun k => F' k ∨ F2 k, G, ⟨F', F2, fun _ => .inl, fun _ => .inr, ?_, hb, s.loc ?_⟩, ?_, ?_, ?_, ?_, ?_⟩
  · intro k hk hg
    have := (f k (h2 k hg)).1
    exact (hF' k hk).2.elim (fun x => h3 k x hg) (fun x => by omega)
  · exact fun k hk => ub.block k (f k (h2 k hk)).1 (fun x => h3 k x hk)
  · exact fun R hm => SP.loc _ (r R hm) (fun k hk => ub.block k (g k hk) (fun x => d k (h1 k x) hk))
  · intro k hk hg
    have := g k hg
    exact hk.elim (fun x => (hF' k x).2.elim (fun y => d k (h1 k y) hg) (fun y => by omega)) (fun x => d k (h2 k x) hg)
  · intro k hk
    have := u.size
    refine hk.elim (fun x => ⟨(hF' k x).1, ?_⟩) (fun x => ⟨Nat.lt_of_lt_of_le (f k (h2 k x)).1 ub.size, (f k (h2 k x)).2⟩)
    exact (hF' k x).2.elim (fun y => (f k (h1 k y)).2) (fun y => .inr (by omega))
  · exact fun k hk => Nat.lt_of_lt_of_le (g k hk) ub.size
  · exact u.trans ub (fun i hi x => (f i (h1 i x)).2.elim id (fun y => by omega))

/-- Something new. -/
theorem Hd.new {B : SP} {w' : World} (h : Hd w0 F0 w As Rs) (ub : Upd none_ w w') {F' : Foot} (hb : B.P w' F') (hF' : ∀ k, F' k → k < w'.heap.size ∧ w.heap.size ≤ k) : Hd w0 F0 w' (B :: As) Rs := by
  obtain ⟨F, G, s, r, d, f, g, u⟩ := h
  have h' : Hd w0 F0 w (pure_ True :: As) Rs := ⟨F, G, ⟨none_, F, fun _ x => x.elim, fun _ x => x, fun _ x => x.elim, trivial, s⟩, r, d, f, g, u⟩
  exact h'.grow fun F1 _ _ => ⟨F', hb, ⟨ub.os, ub.tape, ub.output, ub.size, fun k hk _ => ub.block k hk id⟩, fun k hk => ⟨(hF' k hk).1, .inr (hF' k hk).2⟩⟩

theorem Hd.alloc (h : Hd w0 F0 w As Rs) (cs : List Value) (t : TypeId) : Hd w0 F0 (w.alloc (.cells cs.toArray t)) (blk w.heap.size cs t :: As) Rs := by
  refine h.new (Upd.alloc _ _ _) (F' := fun k => k = w.heap.size) ⟨rfl, ?_⟩ ?_
  · show (w.heap.push _)[w.heap.size]? = _
    simp
  · intro k hk
    subst hk
    simp

theorem Hd.store (h : Hd w0 F0 w (blk b cs t :: As) Rs) (i : Nat) (v : Value) : Hd w0 F0 (w.setCell ⟨b, i, none⟩ v) (blk b (cs.set i v) t :: As) Rs :=
  h.write fun _ hb => ⟨blk_set hb i v, Upd.setCell _ _ _ hb.1⟩

theorem Hd.le (h : Hd w0 F0 w As Rs) : w0.heap.size ≤ w.heap.size := h.upd.size
end

/-- The beginning of a call. -/
theorem Hd.begin {w : World} {As Rs : List SP} {F G : Foot} (s : Star As w F) (r : ∀ R ∈ Rs, R.P w G) (d : ∀ k, F k → ¬ G k) (f : ∀ k, F k → k < w.heap.size) (g : ∀ k, G k → k < w.heap.size) : Hd w F w As Rs :=
  ⟨F, G, s, r, d, fun k hk => ⟨f k hk, .inl hk⟩, g, Upd.refl _ _⟩

end Go.Proofs.YtlpgdkbokakniaaGreatDoor.X
